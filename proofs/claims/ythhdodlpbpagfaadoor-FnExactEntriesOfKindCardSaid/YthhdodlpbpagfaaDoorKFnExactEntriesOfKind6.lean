/- Texts of this session for the law FnExactEntriesOfKind, put together by a program (merge.py): each ends with its namespace; conditions stand with each theorem. -/
import Derived.Test.YthhdodlpbpagfaaDoorKFnExactEntriesOfKind2
import Derived.Test.YthhdodlpbpagfaaDoorKFnExactEntriesOfKind3
import Derived.Test.YthhdodlpbpagfaaDoorKFnExactEntriesOfKind4
import Derived.Test.YthhdodlpbpagfaaDoorKFnExactEntriesOfKind5
import Derived.Test.YthhdodlpbpagfaaDoorKFnExactEntriesOfKind1
import Derived.Deep.Slices
import Derived.Lib.SplitLaws
import Derived.Lib.IndexBytes
import Derived.Lib.IndexLaws
namespace Go.Proofs.YthhdodlpbpagfaaDoor.G
open Go.RowKit Go.Proofs.YthhdodlpbpagfaaDoorW.PrintWords Go.Proofs.YthhdodlpbpagfaaDoorW.PrintLast Go.Proofs.YthhdodlpbpagfaaDoorW.PrintMore
open Go.Proofs.YthhdodlpbpagfaaDoor.Gl Go.Proofs.YthhdodlpbpagfaaDoor.Ext
attribute [local go_sem] max2_int min2_int max_two min_two max_three min_three max_four min_four   -- for this text's walks alone
set_option linter.unusedVariables false
set_option linter.unusedSimpArgs false

/-! ### laws_FnExactEntriesOfKind: function 3 -/
mutual
def laws_FnExactEntriesOfKind.j0 : Nat → Int → List ByteArray → Bool → List ByteArray → Bool → Bool → List (S55) → List (S45) → Option (Bool)
 | 0, _, _, _, _, _, _, _, _ => none
 | k + 1, x1, x6, x7, x9, x10, x44, x329000, x341000 => if x44 = true then (some false) else ((laws_toLibrary.f k x329000).bind fun t346 => ((laws_eqLibrary.f k x341000 t346).bind fun t349 => (if t349 = true then ((laws_markLibrary.f x341000 1).bind fun t350 => (if t350 < 0 then (laws_FnExactEntriesOfKind.j1 k x1 x6 x7 x9 true x329000) else ((laws_eqStringS.f k x9 x6).bind fun t351 => (if t351 = true then (laws_FnExactEntriesOfKind.j1 k x1 x6 x7 x9 (x10 != x7) x329000) else (laws_FnExactEntriesOfKind.j1 k x1 x6 x7 x9 true x329000))))) else (some false))))
def laws_FnExactEntriesOfKind.j1 : Nat → Int → List ByteArray → Bool → List ByteArray → Bool → List (S55) → Option (Bool)
 | 0, _, _, _, _, _, _ => none
 | k + 1, x1, x6, x7, x9, x65, x329000 => if x65 = true then (some false) else ((laws_markStringS.f k x9 1).bind fun bt352 => ((laws_heldStringS.f k bt352.2 1).bind fun t354 => (if t354 < 0 then (some false) else (if t354 = bt352.1 then ((laws_toLibrary.f k x329000).bind fun t355 => ((impl_EntriesOfKind.f k t355 x1).bind fun bt358 => ((laws_eqStringS.f k bt358.1 x6).bind fun t362 => (if t362 = true then (laws_FnExactEntriesOfKind.j2 k bt352.2 bt352.1 (bt358.2 != x7)) else (laws_FnExactEntriesOfKind.j2 k bt352.2 bt352.1 true))))) else (some false)))))
def laws_FnExactEntriesOfKind.j2 : Nat → List ByteArray → Int → Bool → Option (Bool)
 | 0, _, _, _ => none
 | k + 1, x9, x12, x92 => if x92 = true then (some false) else ((laws_heldStringS.f k x9 1).bind fun t363 => (if t363 < 0 then (some false) else (if t363 = x12 then (some true) else (some false))))
end
def laws_FnExactEntriesOfKind.f (k : Nat) (l0_0 : List (S55)) (a1 : Int) : Option (Bool) := (laws_szLibrary.f k l0_0 1048576).bind fun t329 => (if t329 < 0 then (some true) else ((laws_toLibrary.f k l0_0).bind fun t330 => ((spec_EntriesOfKind.f k t330 a1).bind fun bt333 => ((laws_toLibrary.f k l0_0).bind fun t337 => ((impl_EntriesOfKind.f k t337 a1).bind fun bt341 => ((laws_eqStringS.f k bt341.1 bt333.1).bind fun t345 => (if t345 = true then (laws_FnExactEntriesOfKind.j0 k a1 bt333.1 bt333.2 bt341.1 bt341.2 (bt341.2 != bt333.2) l0_0 t337) else (laws_FnExactEntriesOfKind.j0 k a1 bt333.1 bt333.2 bt341.1 bt341.2 true l0_0 t337))))))))
theorem laws_FnExactEntriesOfKind.mono_l : ∀ k, (∀ y0 y1 y2 y3 y4 y5 y6 y7, LeO (laws_FnExactEntriesOfKind.j0 k y0 y1 y2 y3 y4 y5 y6 y7) (laws_FnExactEntriesOfKind.j0 (k + 1) y0 y1 y2 y3 y4 y5 y6 y7)) ∧ (∀ y0 y1 y2 y3 y4 y5, LeO (laws_FnExactEntriesOfKind.j1 k y0 y1 y2 y3 y4 y5) (laws_FnExactEntriesOfKind.j1 (k + 1) y0 y1 y2 y3 y4 y5)) ∧ (∀ y0 y1 y2, LeO (laws_FnExactEntriesOfKind.j2 k y0 y1 y2) (laws_FnExactEntriesOfKind.j2 (k + 1) y0 y1 y2))
 | 0 => ⟨fun _ _ _ _ _ _ _ _ r h => by simp [laws_FnExactEntriesOfKind.j0] at h, fun _ _ _ _ _ _ r h => by simp [laws_FnExactEntriesOfKind.j1] at h, fun _ _ _ r h => by simp [laws_FnExactEntriesOfKind.j2] at h⟩
 | k + 1 => by
  obtain ⟨ih0, ih1, ih2⟩ := laws_FnExactEntriesOfKind.mono_l k
  refine ⟨?_, ?_, ?_⟩
  ·
   intro y0 y1 y2 y3 y4 y5 y6 y7
   unfold laws_FnExactEntriesOfKind.j0
   repeat' first
   | (with_reducible exact ih0 _ _ _ _ _ _ _ _)
   | (with_reducible exact ih1 _ _ _ _ _ _)
   | (with_reducible exact ih2 _ _ _)
   | (with_reducible exact impl_EntriesOfKind.mono _ _ _)
   | (with_reducible exact laws_eqLibrary.mono _ _ _)
   | (with_reducible exact laws_eqStringS.mono _ _ _)
   | (with_reducible exact laws_heldStringS.mono _ _ _)
   | (with_reducible exact laws_markStringS.mono _ _ _)
   | (with_reducible exact laws_szLibrary.mono _ _ _)
   | (with_reducible exact laws_toLibrary.mono _ _)
   | (with_reducible exact spec_EntriesOfKind.mono _ _ _)
   | (with_reducible exact LeO.refl _)
   | (with_reducible exact LeO.none _)
   | (with_reducible refine LeO.ite ?_ ?_)
   | (with_reducible refine LeO.bind ?_ (fun _ => ?_))
   | exact ih0 _ _ _ _ _ _ _ _
   | exact ih1 _ _ _ _ _ _
   | exact ih2 _ _ _
   | exact impl_EntriesOfKind.mono _ _ _
   | exact laws_eqLibrary.mono _ _ _
   | exact laws_eqStringS.mono _ _ _
   | exact laws_heldStringS.mono _ _ _
   | exact laws_markStringS.mono _ _ _
   | exact laws_szLibrary.mono _ _ _
   | exact laws_toLibrary.mono _ _
   | exact spec_EntriesOfKind.mono _ _ _
   | exact LeO.none _
   | refine LeO.ite ?_ ?_
   | refine LeO.bind ?_ (fun _ => ?_)
  ·
   intro y0 y1 y2 y3 y4 y5
   unfold laws_FnExactEntriesOfKind.j1
   repeat' first
   | (with_reducible exact ih0 _ _ _ _ _ _ _ _)
   | (with_reducible exact ih1 _ _ _ _ _ _)
   | (with_reducible exact ih2 _ _ _)
   | (with_reducible exact impl_EntriesOfKind.mono _ _ _)
   | (with_reducible exact laws_eqLibrary.mono _ _ _)
   | (with_reducible exact laws_eqStringS.mono _ _ _)
   | (with_reducible exact laws_heldStringS.mono _ _ _)
   | (with_reducible exact laws_markStringS.mono _ _ _)
   | (with_reducible exact laws_szLibrary.mono _ _ _)
   | (with_reducible exact laws_toLibrary.mono _ _)
   | (with_reducible exact spec_EntriesOfKind.mono _ _ _)
   | (with_reducible exact LeO.refl _)
   | (with_reducible exact LeO.none _)
   | (with_reducible refine LeO.ite ?_ ?_)
   | (with_reducible refine LeO.bind ?_ (fun _ => ?_))
   | exact ih0 _ _ _ _ _ _ _ _
   | exact ih1 _ _ _ _ _ _
   | exact ih2 _ _ _
   | exact impl_EntriesOfKind.mono _ _ _
   | exact laws_eqLibrary.mono _ _ _
   | exact laws_eqStringS.mono _ _ _
   | exact laws_heldStringS.mono _ _ _
   | exact laws_markStringS.mono _ _ _
   | exact laws_szLibrary.mono _ _ _
   | exact laws_toLibrary.mono _ _
   | exact spec_EntriesOfKind.mono _ _ _
   | exact LeO.none _
   | refine LeO.ite ?_ ?_
   | refine LeO.bind ?_ (fun _ => ?_)
  ·
   intro y0 y1 y2
   unfold laws_FnExactEntriesOfKind.j2
   repeat' first
   | (with_reducible exact ih0 _ _ _ _ _ _ _ _)
   | (with_reducible exact ih1 _ _ _ _ _ _)
   | (with_reducible exact ih2 _ _ _)
   | (with_reducible exact impl_EntriesOfKind.mono _ _ _)
   | (with_reducible exact laws_eqLibrary.mono _ _ _)
   | (with_reducible exact laws_eqStringS.mono _ _ _)
   | (with_reducible exact laws_heldStringS.mono _ _ _)
   | (with_reducible exact laws_markStringS.mono _ _ _)
   | (with_reducible exact laws_szLibrary.mono _ _ _)
   | (with_reducible exact laws_toLibrary.mono _ _)
   | (with_reducible exact spec_EntriesOfKind.mono _ _ _)
   | (with_reducible exact LeO.refl _)
   | (with_reducible exact LeO.none _)
   | (with_reducible refine LeO.ite ?_ ?_)
   | (with_reducible refine LeO.bind ?_ (fun _ => ?_))
   | exact ih0 _ _ _ _ _ _ _ _
   | exact ih1 _ _ _ _ _ _
   | exact ih2 _ _ _
   | exact impl_EntriesOfKind.mono _ _ _
   | exact laws_eqLibrary.mono _ _ _
   | exact laws_eqStringS.mono _ _ _
   | exact laws_heldStringS.mono _ _ _
   | exact laws_markStringS.mono _ _ _
   | exact laws_szLibrary.mono _ _ _
   | exact laws_toLibrary.mono _ _
   | exact spec_EntriesOfKind.mono _ _ _
   | exact LeO.none _
   | refine LeO.ite ?_ ?_
   | refine LeO.bind ?_ (fun _ => ?_)
theorem laws_FnExactEntriesOfKind.mono : ∀ a0 a1 k, LeO (laws_FnExactEntriesOfKind.f k a0 a1) (laws_FnExactEntriesOfKind.f (k + 1) a0 a1) := by
 intro a0 a1 k
 obtain ⟨ih0, ih1, ih2⟩ := laws_FnExactEntriesOfKind.mono_l k
 unfold laws_FnExactEntriesOfKind.f
 repeat' first
   | (with_reducible exact ih0 _ _ _ _ _ _ _ _)
   | (with_reducible exact ih1 _ _ _ _ _ _)
   | (with_reducible exact ih2 _ _ _)
   | (with_reducible exact impl_EntriesOfKind.mono _ _ _)
   | (with_reducible exact laws_eqLibrary.mono _ _ _)
   | (with_reducible exact laws_eqStringS.mono _ _ _)
   | (with_reducible exact laws_heldStringS.mono _ _ _)
   | (with_reducible exact laws_markStringS.mono _ _ _)
   | (with_reducible exact laws_szLibrary.mono _ _ _)
   | (with_reducible exact laws_toLibrary.mono _ _)
   | (with_reducible exact spec_EntriesOfKind.mono _ _ _)
   | (with_reducible exact LeO.refl _)
   | (with_reducible exact LeO.none _)
   | (with_reducible refine LeO.ite ?_ ?_)
   | (with_reducible refine LeO.bind ?_ (fun _ => ?_))
   | exact ih0 _ _ _ _ _ _ _ _
   | exact ih1 _ _ _ _ _ _
   | exact ih2 _ _ _
   | exact impl_EntriesOfKind.mono _ _ _
   | exact laws_eqLibrary.mono _ _ _
   | exact laws_eqStringS.mono _ _ _
   | exact laws_heldStringS.mono _ _ _
   | exact laws_markStringS.mono _ _ _
   | exact laws_szLibrary.mono _ _ _
   | exact laws_toLibrary.mono _ _
   | exact spec_EntriesOfKind.mono _ _ _
   | exact LeO.none _
   | refine LeO.ite ?_ ?_
   | refine LeO.bind ?_ (fun _ => ?_)
set_option maxRecDepth 100000 in
theorem laws_FnExactEntriesOfKind.L0 {P : Prop} (h : P := by
  go_wp2_with (first | ((with_reducible refine gate_callee (f := 8) rfl ?_); refine goesL_ (some 38) rfl rfl Tryd.func8 (by kernel_rfl) rfl #[.slice Ao29 t341.length co29, .slice Ao30 t333.length co30] rfl au35 ?_; (with_reducible refine (laws_eqStringS.calls k _ _ t341 _ _ t333 _ _ ?side1 ?side2 ?side3 ?side4 A27.out).mono ?_); (case side1 => repeat (first | exact (Kd.R_reads' HO343.out).2.2 | (with_reducible refine Kd.C_alloc ?_ _) | (with_reducible refine Kd.C_drewN ?_ _) | (with_reducible refine Kd.C_drew ?_))); (case side2 => exact (Kd.R_reads' HO343.out).2.1); (case side3 => repeat (first | exact (Kd.R_reads' HO335.out).2.2 | (with_reducible refine Kd.C_alloc ?_ _) | (with_reducible refine Kd.C_drewN ?_ _) | (with_reducible refine Kd.C_drew ?_))); (case side4 => exact (Kd.R_reads' HO335.out).2.1); rintro e w' ⟨rfl, ⟨nd, rfl⟩⟩; refine ⟨_, rfl, ?_⟩))
  go_meet
  case rel => first | (exact ⟨_, ((t344 != t336)), au72, H', ⟨by first | omega | exact Nat.le_refl _⟩, ⟨by (with_reducible repeat (first | apply Kd.R_alloc | apply Kd.R_drewN | apply Kd.R_drew)); exact Kd.R_mono HO335.out (fun _ hk => hk.2)⟩, ⟨by (with_reducible repeat (first | apply Kd.R_alloc | apply Kd.R_drewN | apply Kd.R_drew)); exact Kd.R_mono HO343.out (fun _ hk => hk.2)⟩, ⟨by (with_reducible repeat (first | apply Kd.R_alloc | apply Kd.R_drewN | apply Kd.R_drew)); exact Kd.R_mono HO339.out (fun _ hk => ⟨hk.1.2, hk.2⟩)⟩, ⟨by (with_reducible repeat (first | refine blk_drewN ?_ _ | refine blk_drew ?_ | refine blk_alloc ?_ _)); exact BK328.out⟩, ⟨by (with_reducible repeat (first | refine blk_drewN ?_ _ | refine blk_drew ?_ | refine blk_alloc ?_ _)); exact BK340.out⟩, ⟨by repeat (first | (with_reducible first | exact HB.out | apply below_alloc | apply pw_below_drewN | apply below_drew1 | refine below_set ?_ GE328.out | refine below_set ?_ GE340.out) | exact HB.out)⟩⟩) | (exact ⟨_, (true), au72, H', ⟨by have := HJ11.out; first | omega | exact Nat.le_refl _⟩, ⟨by (with_reducible repeat (first | apply Kd.R_alloc | apply Kd.R_drewN | apply Kd.R_drew)); exact HO_6.out⟩, ⟨by (with_reducible repeat (first | apply Kd.R_alloc | apply Kd.R_drewN | apply Kd.R_drew)); exact HO_9.out⟩, ⟨by (with_reducible repeat (first | apply Kd.R_alloc | apply Kd.R_drewN | apply Kd.R_drew)); exact Kd.R_mono HO_341000.out (fun _ hk => ⟨hk.1.1, hk.1.2⟩)⟩, ⟨by (with_reducible repeat (first | refine blk_drewN ?_ _ | refine blk_drew ?_ | refine blk_alloc ?_ _)); exact BK328.out⟩, ⟨by (with_reducible repeat (first | refine blk_drewN ?_ _ | refine blk_drew ?_ | refine blk_alloc ?_ _)); exact BK340.out⟩, ⟨by repeat (first | (with_reducible first | exact HB.out | apply below_alloc | apply pw_below_drewN | apply below_drew1 | refine below_set ?_ GE328.out | refine below_set ?_ GE340.out) | exact HB.out)⟩⟩)) : P := h
set_option maxRecDepth 100000 in
theorem laws_FnExactEntriesOfKind.L1 {P : Prop} (h : P := by
  go_wp2_with (first | ((with_reducible refine gate_callee (f := 12) rfl ?_); refine goesL_ (some 95) rfl rfl Tryd.func12 (by kernel_rfl) rfl #[.slice Ao64 t353.length co64, .int .i64 1] rfl au35 ?_; (with_reducible refine (laws_heldStringS.calls kj62 _ _ t353 1 t363 _ ?side1 ?side2 A79.out).mono ?_); (case side1 => repeat (first | exact (Kd.R_reads' HO_9.out).2.2 | (with_reducible refine Kd.C_alloc ?_ _) | (with_reducible refine Kd.C_drewN ?_ _) | (with_reducible refine Kd.C_drew ?_))); (case side2 => exact (Kd.R_reads' HO_9.out).2.1); rintro e w83 ⟨rfl, hb⟩; refine ⟨_, rfl, ?_⟩; replace HO_9 := Aside0.mk (Kd.R_below au69 hb); replace HO_341000 := Aside0.mk (Kd.R_below au64 hb); replace BK328 := Aside0.mk (blk_below (g := gb328) au62 hb); replace BK340 := Aside0.mk (blk_below (g := gb340) au63 hb); replace HB := Aside0.mk (below_step au15 hb); (try clear hb)))
  go_ret
  exact ⟨by first | rfl | (simp [errW_none, errW_some] <;> rfl) | (simp [*, errW_none, errW_some] <;> rfl), by repeat (first | (with_reducible first | exact HB.out | apply below_alloc | apply pw_below_drewN | apply below_drew1 | refine below_set ?_ GE328.out | refine below_set ?_ GE340.out) | exact HB.out)⟩) : P := h
set_option maxRecDepth 100000 in
theorem laws_FnExactEntriesOfKind.L2 {P : Prop} (h : P := by
  go_wp2_with (first | (go_at_call 8; (with_reducible refine (laws_eqStringS.calls kj11 _ _ t341 _ _ t333 _ _ ?side1 ?side2 ?side3 ?side4 A47.out).mono ?_); (case side1 => repeat (first | exact (Kd.R_reads' HO_9.out).2.2 | (with_reducible refine Kd.C_alloc ?_ _) | (with_reducible refine Kd.C_drewN ?_ _) | (with_reducible refine Kd.C_drew ?_))); (case side2 => exact (Kd.R_reads' HO_9.out).2.1); (case side3 => repeat (first | exact (Kd.R_reads' HO_6.out).2.2 | (with_reducible refine Kd.C_alloc ?_ _) | (with_reducible refine Kd.C_drewN ?_ _) | (with_reducible refine Kd.C_drew ?_))); (case side4 => exact (Kd.R_reads' HO_6.out).2.1); rintro e w' ⟨rfl, ⟨nd, rfl⟩⟩))
  go_meet
  case rel => first | (exact ⟨_, ((t344 != t336)), au72, H', ⟨by have := HJ11.out; first | omega | exact Nat.le_refl _⟩, ⟨by (with_reducible repeat (first | apply Kd.R_alloc | apply Kd.R_drewN | apply Kd.R_drew)); exact HO_6.out⟩, ⟨by (with_reducible repeat (first | apply Kd.R_alloc | apply Kd.R_drewN | apply Kd.R_drew)); exact HO_9.out⟩, ⟨by (with_reducible repeat (first | apply Kd.R_alloc | apply Kd.R_drewN | apply Kd.R_drew)); exact Kd.R_mono HO_341000.out (fun _ hk => ⟨hk.1.1, hk.1.2⟩)⟩, ⟨by (with_reducible repeat (first | refine blk_drewN ?_ _ | refine blk_drew ?_ | refine blk_alloc ?_ _)); exact BK328.out⟩, ⟨by (with_reducible repeat (first | refine blk_drewN ?_ _ | refine blk_drew ?_ | refine blk_alloc ?_ _)); exact BK340.out⟩, ⟨by repeat (first | (with_reducible first | exact HB.out | apply below_alloc | apply pw_below_drewN | apply below_drew1 | refine below_set ?_ GE328.out | refine below_set ?_ GE340.out) | exact HB.out)⟩⟩) | (exact ⟨_, (true), au72, H', ⟨by have := HJ11.out; first | omega | exact Nat.le_refl _⟩, ⟨by (with_reducible repeat (first | apply Kd.R_alloc | apply Kd.R_drewN | apply Kd.R_drew)); exact HO_6.out⟩, ⟨by (with_reducible repeat (first | apply Kd.R_alloc | apply Kd.R_drewN | apply Kd.R_drew)); exact HO_9.out⟩, ⟨by (with_reducible repeat (first | apply Kd.R_alloc | apply Kd.R_drewN | apply Kd.R_drew)); exact Kd.R_mono HO_341000.out (fun _ hk => ⟨hk.1.1, hk.1.2⟩)⟩, ⟨by (with_reducible repeat (first | refine blk_drewN ?_ _ | refine blk_drew ?_ | refine blk_alloc ?_ _)); exact BK328.out⟩, ⟨by (with_reducible repeat (first | refine blk_drewN ?_ _ | refine blk_drew ?_ | refine blk_alloc ?_ _)); exact BK340.out⟩, ⟨by repeat (first | (with_reducible first | exact HB.out | apply below_alloc | apply pw_below_drewN | apply below_drew1 | refine below_set ?_ GE328.out | refine below_set ?_ GE340.out) | exact HB.out)⟩⟩)) : P := h
set_option maxHeartbeats 8000000 in
set_option maxRecDepth 100000 in
theorem laws_FnExactEntriesOfKind.calls (k : Nat) (A0_0 : Option Addr) (c0_0 : Nat) (l0_0 : List (S55)) (a1 : Int) (w : World) {gF1 gF2 gF3 : Bool} (hG : GL gF1 gF2 gF3 w) (hr0_0 : Kd.C k55 w A0_0 l0_0.length l0_0) (hc0_0 : l0_0.length ≤ c0_0) (h : laws_FnExactEntriesOfKind.f k l0_0 a1 = some true) :
  Calls Tryd.prog 3 #[.agg #[.slice A0_0 l0_0.length c0_0], .int .i64 a1] w fun e w' => e = .returned (.bool true) ∧ Below w.heap.size w w' := by
 obtain ⟨r, hr_⟩ : ∃ r, r = true := ⟨true, rfl⟩
 rw [← hr_] at h ⊢
 have HRT := Aside0.mk hr_
 clear hr_
 have HG := Aside0.mk hG
 clear hG
 have hu24 := Tryd.underlying24
 have hu31 := Tryd.underlying31
 have HR0_0 := Aside0.mk hr0_0
 have HC0_0 := Aside0.mk hc0_0
 clear hr0_0 hc0_0
 have HB := Aside0.mk (Below.refl w.heap.size w)
 have H : ((laws_szLibrary.f k l0_0 1048576).bind fun t329 => (if t329 < 0 then (some true) else ((laws_toLibrary.f k l0_0).bind fun t330 => ((spec_EntriesOfKind.f k t330 a1).bind fun bt333 => ((laws_toLibrary.f k l0_0).bind fun t337 => ((impl_EntriesOfKind.f k t337 a1).bind fun bt341 => ((laws_eqStringS.f k bt341.1 bt333.1).bind fun t345 => (if t345 = true then (laws_FnExactEntriesOfKind.j0 k a1 bt333.1 bt333.2 bt341.1 bt341.2 (bt341.2 != bt333.2) l0_0 t337) else (laws_FnExactEntriesOfKind.j0 k a1 bt333.1 bt333.2 bt341.1 bt341.2 true l0_0 t337))))))))) = some r := h
 clear h
 replace H := Option.bind_eq_some_iff.mp H
 obtain ⟨t329, A30, H⟩ := H
 try dsimp only at H
 have A3 := Aside0.mk A30
 clear A30
 by_cases c4 : t329 < 0
 ·
  rw [if_pos c4] at H
  have c4b0 : decide (t329 < 0) = true := decide_eq_true c4
  clear c4
  obtain rfl := Option.some.inj H
  go_enter Tryd.func3, Tryd.ntmps3
  go_wp2_with (first | ((with_reducible refine gate_dst (N := 2) rfl ?_); refine box_event ?hg (N := 2) ?hd (cs := #[.slice A0_0 l0_0.length c0_0]) (t := 24) ?hr ?_; (case hd => rfl); (case hg => rfl); (case hr => first | (go_simp; done) | (go_simp; rfl)); intro gb328 hg w5 hbox hb; have BK328 := Aside0.mk (hbox); have GW328 := Aside0.mk (bsz hg au36); have GE328 := Aside0.mk (bsz hg au36); replace HB := Aside0.mk (below_step au36 hb); clear hb hbox hg; have hcz6_0 : w5.cell? ⟨gb328, 0, none⟩ = some (.slice A0_0 l0_0.length c0_0) := (blk_cell BK328.out 0).trans rfl; have hfz6_0 := blk_frozen BK328.out 0) | ((with_reducible refine gate_callee (f := 4) rfl ?_); refine goesL_ (some 18) rfl rfl Tryd.func4 (by kernel_rfl) rfl #[.agg #[.slice A0_0 l0_0.length c0_0], .int .i64 1048576] rfl au35 ?_; (with_reducible refine (laws_szLibrary.calls k _ _ l0_0 1048576 t329 _ ?side1 ?side2 A3.out).mono ?_); (case side1 => repeat (first | exact (Kd.C_below HR0_0.out HB.out) | (with_reducible refine Kd.C_alloc ?_ _) | (with_reducible refine Kd.C_drewN ?_ _) | (with_reducible refine Kd.C_drew ?_))); (case side2 => exact HC0_0.out); rintro e w7 ⟨rfl, hb⟩; refine ⟨_, rfl, ?_⟩; replace BK328 := Aside0.mk (blk_below (g := gb328) au62 hb); replace HB := Aside0.mk (below_step au34 hb); (try clear hb)))
  go_ret
  exact ⟨by first | rfl | (simp [errW_none, errW_some] <;> rfl) | (simp [*, errW_none, errW_some] <;> rfl), by repeat (first | (with_reducible first | exact HB.out | apply below_alloc | apply pw_below_drewN | apply below_drew1 | refine below_set ?_ GE328.out) | exact HB.out)⟩
 ·
  rw [if_neg c4] at H
  have c4b0 : decide (t329 < 0) = false := decide_eq_false c4
  clear c4
  replace H := Option.bind_eq_some_iff.mp H
  obtain ⟨t330, A80, H⟩ := H
  try dsimp only at H
  have A8 := Aside0.mk A80
  clear A80
  replace H := Option.bind_eq_some_iff.mp H
  obtain ⟨⟨t333, t336⟩, A90, H⟩ := H
  replace H : ((laws_toLibrary.f k l0_0).bind fun t337 => ((impl_EntriesOfKind.f k t337 a1).bind fun bt341 => ((laws_eqStringS.f k bt341.1 t333).bind fun t345 => (if t345 = true then (laws_FnExactEntriesOfKind.j0 k a1 t333 t336 bt341.1 bt341.2 (bt341.2 != t336) l0_0 t337) else (laws_FnExactEntriesOfKind.j0 k a1 t333 t336 bt341.1 bt341.2 true l0_0 t337))))) = some r := H
  have A9 := Aside0.mk A90
  clear A90
  replace H := Option.bind_eq_some_iff.mp H
  obtain ⟨t337, A100, H⟩ := H
  try dsimp only at H
  have A10 := Aside0.mk A100
  clear A100
  replace H := Option.bind_eq_some_iff.mp H
  obtain ⟨⟨t341, t344⟩, A110, H⟩ := H
  replace H : ((laws_eqStringS.f k t341 t333).bind fun t345 => (if t345 = true then (laws_FnExactEntriesOfKind.j0 k a1 t333 t336 t341 t344 (t344 != t336) l0_0 t337) else (laws_FnExactEntriesOfKind.j0 k a1 t333 t336 t341 t344 true l0_0 t337))) = some r := H
  have A11 := Aside0.mk A110
  clear A110
  have HC12 := Aside0.mk H
  clear H
  go_enter Tryd.func3, Tryd.ntmps3
  go_upto_region 8 with (first | ((with_reducible refine gate_dst (N := 2) rfl ?_); refine box_event ?hg (N := 2) ?hd (cs := #[.slice A0_0 l0_0.length c0_0]) (t := 24) ?hr ?_; (case hd => rfl); (case hg => rfl); (case hr => first | (go_simp; done) | (go_simp; rfl)); intro gb328 hg w13 hbox hb; have BK328 := Aside0.mk (hbox); have GW328 := Aside0.mk (bsz hg au36); have GE328 := Aside0.mk (bsz hg au36); replace HB := Aside0.mk (below_step au36 hb); clear hb hbox hg; have hcz14_0 : w13.cell? ⟨gb328, 0, none⟩ = some (.slice A0_0 l0_0.length c0_0) := (blk_cell BK328.out 0).trans rfl; have hfz14_0 := blk_frozen BK328.out 0) | ((with_reducible refine gate_callee (f := 4) rfl ?_); refine goesL_ (some 18) rfl rfl Tryd.func4 (by kernel_rfl) rfl #[.agg #[.slice A0_0 l0_0.length c0_0], .int .i64 1048576] rfl au35 ?_; (with_reducible refine (laws_szLibrary.calls k _ _ l0_0 1048576 t329 _ ?side1 ?side2 A3.out).mono ?_); (case side1 => repeat (first | exact (Kd.C_below HR0_0.out HB.out) | (with_reducible refine Kd.C_alloc ?_ _) | (with_reducible refine Kd.C_drewN ?_ _) | (with_reducible refine Kd.C_drew ?_))); (case side2 => exact HC0_0.out); rintro e w15 ⟨rfl, hb⟩; refine ⟨_, rfl, ?_⟩; replace BK328 := Aside0.mk (blk_below (g := gb328) au62 hb); replace HB := Aside0.mk (below_step au34 hb); (try clear hb); have hcz16_0 : w15.cell? ⟨gb328, 0, none⟩ = some (.slice A0_0 l0_0.length c0_0) := (blk_cell BK328.out 0).trans rfl; have hfz16_0 := blk_frozen BK328.out 0) | ((with_reducible refine gate_callee (f := 6) rfl ?_); refine goesL_ (some 23) rfl rfl Tryd.func6 (by kernel_rfl) rfl #[.agg #[.slice A0_0 l0_0.length c0_0]] rfl au35 ?_; (with_reducible refine (laws_toLibrary.calls k _ _ l0_0 t330 _ ?side1 ?side2 A8.out).mono ?_); (case side1 => repeat (first | exact (Kd.C_below HR0_0.out HB.out) | (with_reducible refine Kd.C_alloc ?_ _) | (with_reducible refine Kd.C_drewN ?_ _) | (with_reducible refine Kd.C_drew ?_))); (case side2 => exact HC0_0.out); rintro e w17 ⟨v331, rfl, ho0, hb⟩; refine ⟨_, rfl, ?_⟩; have HO332 := Aside0.mk (Kd.R_lower ho0 (below_size au34)); replace BK328 := Aside0.mk (blk_below (g := gb328) au62 hb); replace HB := Aside0.mk (below_step au34 hb); (try clear hb); (try clear ho0); obtain ⟨Ao18, co18, eo18⟩ := Kd.R_slice HO332.out; subst eo18) | ((with_reducible refine gate_callee (f := 5) rfl ?_); refine goesL_ (some 25) rfl rfl Tryd.func5 (by kernel_rfl) rfl #[.agg #[.slice Ao18 t330.length co18], .int .i64 a1] rfl au35 ?_; (with_reducible refine (spec_EntriesOfKind.calls k _ _ t330 a1 t333 t336 _ ?side1 ?side2 A9.out).mono ?_); (case side1 => repeat (first | exact (Kd.R_reads' HO332.out).2.2 | (with_reducible refine Kd.C_alloc ?_ _) | (with_reducible refine Kd.C_drewN ?_ _) | (with_reducible refine Kd.C_drew ?_))); (case side2 => exact (Kd.R_reads' HO332.out).2.1); rintro e w19 ⟨v334, rfl, ho0, hb⟩; refine ⟨_, rfl, ?_⟩; replace HO332 := Aside0.mk (Kd.R_elder' au65 (Kd.R_base ho0) hb); have HO335 := Aside0.mk (Kd.R_lower ho0 (below_size au34)); replace BK328 := Aside0.mk (blk_below (g := gb328) au62 hb); replace HB := Aside0.mk (below_step au34 hb); (try clear hb); (try clear ho0); have hcz20_0 : w19.cell? ⟨gb328, 0, none⟩ = some (.slice A0_0 l0_0.length c0_0) := (blk_cell BK328.out 0).trans rfl; have hfz20_0 := blk_frozen BK328.out 0) | ((with_reducible refine gate_callee (f := 6) rfl ?_); refine goesL_ (some 29) rfl rfl Tryd.func6 (by kernel_rfl) rfl #[.agg #[.slice A0_0 l0_0.length c0_0]] rfl au35 ?_; (with_reducible refine (laws_toLibrary.calls k _ _ l0_0 t337 _ ?side1 ?side2 A10.out).mono ?_); (case side1 => repeat (first | exact (Kd.C_below HR0_0.out HB.out) | (with_reducible refine Kd.C_alloc ?_ _) | (with_reducible refine Kd.C_drewN ?_ _) | (with_reducible refine Kd.C_drew ?_))); (case side2 => exact HC0_0.out); rintro e w21 ⟨v338, rfl, ho0, hb⟩; refine ⟨_, rfl, ?_⟩; have HO339 := Aside0.mk (Kd.R_lower (Kd.R_new' (Kd.R_new' ho0 (Kd.R_lt au65)) (Kd.R_lt au66)) (below_size au34)); replace HO332 := Aside0.mk (Kd.R_elder' au65 (Kd.R_base ho0) hb); replace HO335 := Aside0.mk (Kd.R_below au66 hb); replace BK328 := Aside0.mk (blk_below (g := gb328) au62 hb); replace HB := Aside0.mk (below_step au34 hb); (try clear hb); (try clear ho0)) | ((with_reducible refine gate_dst (N := 8) rfl ?_); refine box_event ?hg (N := 8) ?hd (cs := #[.slice none 0 0]) (t := 31) ?hr ?_; (case hd => rfl); (case hg => rfl); (case hr => first | (go_simp; done) | (go_simp; rfl)); intro gb340 hg w22 hbox hb; replace HO332 := Aside0.mk (Kd.R_below au65 hb); replace HO335 := Aside0.mk (Kd.R_below au66 hb); replace HO339 := Aside0.mk (Kd.R_below (by (with_reducible repeat (first | apply Kd.R_alloc | apply Kd.R_drewN | apply Kd.R_drew)); exact HO339.out) hb); have BK340 := Aside0.mk (hbox); have GW340 := Aside0.mk (bsz hg au34); have GE340 := Aside0.mk (bsz hg au34); replace HB := Aside0.mk (below_step au34 hb); have NB328_340 := Aside0.mk (bne (g := gb328) hg au62); have NB340_328 := Aside0.mk (ben (g := gb328) hg au62); replace BK328 := Aside0.mk (blk_below (g := gb328) au62 hb); clear hb hbox hg; obtain ⟨Ao23, co23, eo23⟩ := Kd.R_slice HO339.out; subst eo23; have hnb24 := NB340_328.out; have hnc24 := NB328_340.out; have hcz25_0 : w22.cell? ⟨gb340, 0, none⟩ = some (.slice none 0 0) := (blk_cell BK340.out 0).trans rfl; have hfz25_0 := blk_frozen BK340.out 0) | ((with_reducible refine gate_callee (f := 7) rfl ?_); refine goesL_ (some 33) rfl rfl Tryd.func7 (by kernel_rfl) rfl #[.agg #[.slice Ao23 t337.length co23], .int .i64 a1] rfl au35 ?_; (with_reducible refine (impl_EntriesOfKind.calls (hG := au0) k _ _ t337 a1 t341 t344 _ ?side1 ?side2 A11.out).mono ?_); (case side1 => refine (Kd.R_reads' (e := 45) (base := w.heap.size) (ok := fun k_ => ((True ∧ some k_ ≠ (.slice Ao18 t330.length co18 : Value).ownBlock) ∧ some k_ ≠ (v334 : Value).ownBlock)) (n := t337.length) (c := co23) ?_).2.2; exact au2); (case side2 => exact (Kd.R_reads' HO339.out).2.1); rintro e w26 ⟨v342, rfl, ho0, hb⟩; refine ⟨_, rfl, ?_⟩; replace HO332 := Aside0.mk (Kd.R_elder' (by (with_reducible repeat (first | apply Kd.R_alloc | apply Kd.R_drewN | apply Kd.R_drew)); exact (Kd.R_mono (Kd.R_far (p := ⟨gb340, 0, none⟩) (Kd.R_types HO332.out BK340.out (by decide)) (fun _ hk => hk.2) (.slice Ao23 t337.length co23)) (fun _ h_ => h_.1))) (Kd.R_base ho0) hb); replace HO339 := Aside0.mk (Kd.R_elder' au2 (Kd.R_base ho0) hb); have HO343 := Aside0.mk (Kd.R_lower (Kd.R_new' ho0 (Kd.R_lt au3)) (below_size au15)); replace HO335 := Aside0.mk (Kd.R_elder' au3 (Kd.R_base ho0) hb); replace BK328 := Aside0.mk (blk_below (g := gb328) (o := .cells #[.slice A0_0 l0_0.length c0_0] 24 (0, 0)) (by (with_reducible repeat (first | refine blk_drewN ?_ _ | refine blk_drew ?_ | refine blk_alloc ?_ _)); refine blk_far ?_ NB328_340.out _; (with_reducible repeat (first | refine blk_drewN ?_ _ | refine blk_drew ?_ | refine blk_alloc ?_ _)); exact BK328.out) hb); replace BK340 := Aside0.mk (blk_below (g := gb340) (o := .cells #[.slice Ao23 t337.length co23] 31 (0, 0)) (by (with_reducible repeat (first | refine blk_drewN ?_ _ | refine blk_drew ?_ | refine blk_alloc ?_ _)); refine blk_put (cs := #[.slice none 0 0]) ?_ 0 _ rfl; (with_reducible repeat (first | refine blk_drewN ?_ _ | refine blk_drew ?_ | refine blk_alloc ?_ _)); exact BK340.out) hb); replace HB := Aside0.mk (below_step au15 hb); (try clear hb); (try clear ho0)))
  (try simp only [Act.put, List.setIfInBounds_toArray, List.set_cons_zero, List.set_cons_succ])
  go_cut [44] (fun v44 wc => ∃ (kq : Nat) (x44_11 : Bool), v44 = .bool x44_11 ∧ Aside0 (laws_FnExactEntriesOfKind.j0 kq a1 t333 t336 t341 t344 x44_11 l0_0 t337 = some r) ∧ Aside0 (kq ≤ k) ∧ Aside0 (Kd.R Kd.string 9 wc w.heap.size (fun k_ => some k_ ≠ (v342 : Value).ownBlock) v334 t333) ∧ Aside0 (Kd.R Kd.string 9 wc w.heap.size (fun k_ => some k_ ≠ (v334 : Value).ownBlock) v342 t341) ∧ Aside0 (Kd.R k45 45 wc w.heap.size (fun k_ => some k_ ≠ (v334 : Value).ownBlock ∧ some k_ ≠ (v342 : Value).ownBlock) (.slice Ao23 t337.length co23) t337) ∧ Aside0 (wc.heap[gb328]? = some (.cells #[(.slice A0_0 l0_0.length c0_0)] 24 (0, 0))) ∧ Aside0 (wc.heap[gb340]? = some (.cells #[(.slice Ao23 t337.length co23)] 31 (0, 0))) ∧ Aside0 (Below w.heap.size w wc))
  case first =>
   have H := HC12.out
   clear HC12
   replace H := Option.bind_eq_some_iff.mp H
   obtain ⟨t345, A270, H⟩ := H
   try dsimp only at H
   have A27 := Aside0.mk A270
   clear A270
   by_cases c28 : t345 = true
   ·
    subst c28
    replace H := (if_pos rfl).symm.trans H
    have H' := Aside0.mk H
    clear H
    obtain ⟨Ao29, co29, eo29⟩ := Kd.R_slice HO343.out
    subst eo29
    obtain ⟨Ao30, co30, eo30⟩ := Kd.R_slice HO335.out
    subst eo30
    exact laws_FnExactEntriesOfKind.L0
   ·
    replace c28 := Bool.eq_false_iff.mpr c28
    subst c28
    replace H := (if_neg (show ¬ (false = true) by decide)).symm.trans H
    have H' := Aside0.mk H
    clear H
    obtain ⟨Ao31, co31, eo31⟩ := Kd.R_slice HO343.out
    subst eo31
    obtain ⟨Ao32, co32, eo32⟩ := Kd.R_slice HO335.out
    subst eo32
    go_wp2_with (first | ((with_reducible refine gate_callee (f := 8) rfl ?_); refine goesL_ (some 38) rfl rfl Tryd.func8 (by kernel_rfl) rfl #[.slice Ao31 t341.length co31, .slice Ao32 t333.length co32] rfl au35 ?_; (with_reducible refine (laws_eqStringS.calls k _ _ t341 _ _ t333 _ _ ?side1 ?side2 ?side3 ?side4 A27.out).mono ?_); (case side1 => repeat (first | exact (Kd.R_reads' HO343.out).2.2 | (with_reducible refine Kd.C_alloc ?_ _) | (with_reducible refine Kd.C_drewN ?_ _) | (with_reducible refine Kd.C_drew ?_))); (case side2 => exact (Kd.R_reads' HO343.out).2.1); (case side3 => repeat (first | exact (Kd.R_reads' HO335.out).2.2 | (with_reducible refine Kd.C_alloc ?_ _) | (with_reducible refine Kd.C_drewN ?_ _) | (with_reducible refine Kd.C_drew ?_))); (case side4 => exact (Kd.R_reads' HO335.out).2.1); rintro e w' ⟨rfl, ⟨nd, rfl⟩⟩; refine ⟨_, rfl, ?_⟩))
    go_meet
    case rel => exact ⟨_, (true), au72, H', ⟨by first | omega | exact Nat.le_refl _⟩, ⟨by (with_reducible repeat (first | apply Kd.R_alloc | apply Kd.R_drewN | apply Kd.R_drew)); exact Kd.R_mono HO335.out (fun _ hk => hk.2)⟩, ⟨by (with_reducible repeat (first | apply Kd.R_alloc | apply Kd.R_drewN | apply Kd.R_drew)); exact Kd.R_mono HO343.out (fun _ hk => hk.2)⟩, ⟨by (with_reducible repeat (first | apply Kd.R_alloc | apply Kd.R_drewN | apply Kd.R_drew)); exact Kd.R_mono HO339.out (fun _ hk => ⟨hk.1.2, hk.2⟩)⟩, ⟨by (with_reducible repeat (first | refine blk_drewN ?_ _ | refine blk_drew ?_ | refine blk_alloc ?_ _)); exact BK328.out⟩, ⟨by (with_reducible repeat (first | refine blk_drewN ?_ _ | refine blk_drew ?_ | refine blk_alloc ?_ _)); exact BK340.out⟩, ⟨by repeat (first | (with_reducible first | exact HB.out | apply below_alloc | apply pw_below_drewN | apply below_drew1 | refine below_set ?_ GE328.out | refine below_set ?_ GE340.out) | exact HB.out)⟩⟩
  case rest =>
   clear HC12
   try clear c2
   try clear p2
   try clear c3
   try clear c4
   try clear c4b0
   try clear c5
   try clear c6
   try clear c7
   try clear c8
   try clear c24
   try clear c28
   try clear hcz14_0
   try clear hcz16_0
   try clear hcz20_0
   try clear hcz25_0
   try clear hcz6_0
   try clear hfz14_0
   try clear hfz16_0
   try clear hfz20_0
   try clear hfz25_0
   try clear hfz6_0
   obtain ⟨kq, x44_11, rfl, HA, HJ11, HO_6, HO_9, HO_341000, BK328, BK340, HB⟩ := hcut
   cases kq with
   | zero => exact absurd HA.out (by simp [laws_FnExactEntriesOfKind.j0])
   | succ kj11 =>
    have H := HA.out
    clear HA
    simp only [laws_FnExactEntriesOfKind.j0] at H
    by_cases c33 : x44_11 = true
    ·
     subst c33
     replace H := (if_pos rfl).symm.trans H
     exact absurd ((Option.some.inj H).trans HRT.out) (by simp)
    ·
     replace c33 := Bool.eq_false_iff.mpr c33
     subst c33
     replace H := (if_neg (show ¬ (false = true) by decide)).symm.trans H
     replace H := Option.bind_eq_some_iff.mp H
     obtain ⟨t346, A340, H⟩ := H
     try dsimp only at H
     have A34 := Aside0.mk A340
     clear A340
     replace H := Option.bind_eq_some_iff.mp H
     obtain ⟨t349, A350, H⟩ := H
     try dsimp only at H
     have A35 := Aside0.mk A350
     clear A350
     by_cases c36 : t349 = true
     ·
      subst c36
      replace H := (if_pos rfl).symm.trans H
      replace H := Option.bind_eq_some_iff.mp H
      obtain ⟨t350, A370, H⟩ := H
      try dsimp only at H
      have A37 := Aside0.mk A370
      clear A370
      have HC38 := Aside0.mk H
      clear H
      try go_wp2
      replace HO_6 := Aside0.mk (Kd.R_drew HO_6.out)
      replace HO_9 := Aside0.mk (Kd.R_drew HO_9.out)
      replace HO_341000 := Aside0.mk (Kd.R_drew HO_341000.out)
      replace BK328 := Aside0.mk (blk_drew BK328.out)
      replace BK340 := Aside0.mk (blk_drew BK340.out)
      replace HB := Aside0.mk (below_drew1 HB.out)
      refine start_ (n := 5) (S := fun w' => w'.cell? ⟨gb340, 0, none⟩ = some (.slice Ao23 t337.length co23) ∧ w'.cell? ⟨gb328, 0, none⟩ = some (.slice A0_0 l0_0.length c0_0)) (ds := []) #[false, false, false, false, false] (by kernel_rfl) rfl rfl ⟨(blk_cell BK340.out 0).trans rfl, (blk_cell BK328.out 0).trans rfl⟩ (fun hHeld => ?_)
      generalize wc.drew = w39 at HO_6 HO_9 HO_341000 BK328 BK340 HB hHeld ⊢
      refine take_ (i := 0) (N := some 45) (v := ?_) (a' := ?_) #[true, false, false, false, false] rfl rfl (by kernel_rfl) (fun _ _ _ h => h) (Or.inl ⟨by rfl, ?_⟩) hHeld ?_ ?_
      rotate_left
      ·
       rintro w' ⟨s0, s1⟩
       go_simp
       with_reducible rfl
      rotate_left
      ·
       simp only [Act.put, List.setIfInBounds_toArray, List.set_cons_zero, List.set_cons_succ, i64_w, i32_w]
       rfl
      refine take_ (i := 1) (N := some 46) (v := ?_) (a' := ?_) #[true, true, false, false, false] rfl rfl (by kernel_rfl) (fun _ _ _ h => h) (Or.inl ⟨by rfl, ?_⟩) hHeld ?_ ?_
      rotate_left
      ·
       rintro w' ⟨s0, s1⟩
       go_simp
       with_reducible rfl
      rotate_left
      ·
       simp only [Act.put, List.setIfInBounds_toArray, List.set_cons_zero, List.set_cons_succ, i64_w, i32_w]
       rfl
      refine one_ (i := 2) (N := some 47) #[true, true, true, false, false] rfl rfl (by kernel_rfl) (by decide) (fun K hK => ?_)
      refine gs_ Tryd.func6 #[.agg #[.slice A0_0 l0_0.length c0_0]] ?_
      with_reducible refine (laws_toLibrary.calls kj11 _ _ l0_0 t346 _ ?side1 ?side2 A34.out).mono ?_
      (case side1 => repeat (first | exact (Kd.C_below HR0_0.out HB.out) | (with_reducible refine Kd.C_alloc ?_ _) | (with_reducible refine Kd.C_drewN ?_ _) | (with_reducible refine Kd.C_drew ?_)))
      (case side2 => exact HC0_0.out)
      rintro e w40 ⟨v347, rfl, ho0, hb⟩
      refine ⟨_, rfl, ?_⟩
      have HO348 := Aside0.mk (Kd.R_lower (Kd.R_new' (Kd.R_new' (Kd.R_new' ho0 (Kd.R_lt au68)) (Kd.R_lt au69)) (Kd.R_lt au64)) (below_size au15))
      replace HO_6 := Aside0.mk (Kd.R_below au68 hb)
      replace HO_9 := Aside0.mk (Kd.R_below au69 hb)
      replace HO_341000 := Aside0.mk (Kd.R_elder' au64 (Kd.R_base ho0) hb)
      replace BK328 := Aside0.mk (blk_below (g := gb328) au62 hb)
      replace BK340 := Aside0.mk (blk_below (g := gb340) au63 hb)
      replace HB := Aside0.mk (below_step au15 hb)
      (try clear hb)
      (try clear ho0)
      obtain ⟨Ao41, co41, eo41⟩ := Kd.R_slice HO348.out
      (first | subst eo41 | (injection eo41 with f1_ f2_ f3_; have f4_ := f1_.symm; have f5_ := f3_.symm; clear f1_ f2_ f3_; subst f4_; subst f5_))
      refine hK.out _ _ ⟨(blk_cell BK340.out 0).trans rfl, (blk_cell BK328.out 0).trans rfl⟩ (fun hHeld => ?_)
      clear hK K
      refine no_ (some 47) ?_
      refine one_ (i := 3) (N := some 48) #[true, true, true, true, false] rfl rfl (by kernel_rfl) (by decide) (fun K hK => ?_)
      refine gs_ Tryd.func9 #[.agg #[.slice Ao23 t337.length co23], .agg #[.slice Ao41 t346.length co41]] ?_
      with_reducible refine (laws_eqLibrary.calls kj11 _ _ t337 _ _ t346 _ _ ?side1 ?side2 ?side3 ?side4 A35.out).mono ?_
      (case side1 => repeat (first | exact (Kd.R_reads' HO_341000.out).2.2 | (with_reducible refine Kd.C_alloc ?_ _) | (with_reducible refine Kd.C_drewN ?_ _) | (with_reducible refine Kd.C_drew ?_)))
      (case side2 => exact (Kd.R_reads' HO_341000.out).2.1)
      (case side3 => repeat (first | exact (Kd.R_reads' HO348.out).2.2 | (with_reducible refine Kd.C_alloc ?_ _) | (with_reducible refine Kd.C_drewN ?_ _) | (with_reducible refine Kd.C_drew ?_)))
      (case side4 => exact (Kd.R_reads' HO348.out).2.1)
      rintro e w42 ⟨rfl, hb⟩
      refine ⟨_, rfl, ?_⟩
      replace HO_6 := Aside0.mk (Kd.R_below au68 hb)
      replace HO_9 := Aside0.mk (Kd.R_below au69 hb)
      replace HO_341000 := Aside0.mk (Kd.R_below au64 hb)
      replace HO348 := Aside0.mk (Kd.R_below (by (with_reducible repeat (first | apply Kd.R_alloc | apply Kd.R_drewN | apply Kd.R_drew)); exact HO348.out) hb)
      replace BK328 := Aside0.mk (blk_below (g := gb328) au62 hb)
      replace BK340 := Aside0.mk (blk_below (g := gb340) au63 hb)
      replace HB := Aside0.mk (below_step au15 hb)
      (try clear hb)
      refine hK.out _ _ ⟨(blk_cell BK340.out 0).trans rfl, (blk_cell BK328.out 0).trans rfl⟩ (fun hHeld => ?_)
      clear hK K
      refine no_ (some 48) ?_
      refine pure_ (i := 4) (N := some 49) (v := ?_) (a' := ?_) #[true, true, true, true, true] rfl rfl (by kernel_rfl) (fun _ _ _ h => h) (Or.inl ⟨by rfl, ?_⟩) ?_ ?_
      rotate_left
      ·
       intro w'
       go_simp
       with_reducible rfl
      rotate_left
      ·
       simp only [Act.put, List.setIfInBounds_toArray, List.set_cons_zero, List.set_cons_succ, i64_w, i32_w]
       rfl
      refine done_ (by kernel_rfl) ?_
      have hnb43 := NB340_328.out
      have hnc43 := NB328_340.out
      have hcz44_0 : w42.cell? ⟨gb340, 0, none⟩ = some (.slice Ao23 t337.length co23) := (blk_cell BK340.out 0).trans rfl
      have hfz44_0 := blk_frozen BK340.out 0
      go_upto_region 14 with (first | ((with_reducible refine gate_callee (f := 10) rfl ?_); refine goesL_ (some 52) rfl rfl Tryd.func10 (by kernel_rfl) rfl #[.agg #[.slice Ao23 t337.length co23], .int .i64 1] rfl au35 ?_; have HQ0_ := Aside0.mk (Kd.R_types (Kd.R_types HO_341000.out BK328.out (by decide)) BK340.out (by decide)); (with_reducible refine (laws_markLibrary.calls HQ0_.out 1 t350 _ ?side1 ?side2 A37.out).mono ?_); (case side1 => (with_reducible repeat (first | apply Kd.R_alloc | apply Kd.R_drewN | apply Kd.R_drew)); exact HQ0_.out); (case side2 => exact Below.size (show Below w.heap.size w _ from au15)); rintro e w45 ⟨rfl, hb, hk, ⟨m0_, hr0_⟩⟩; refine ⟨_, rfl, ?_⟩; have n0_ := Aside0.mk (R_kept_flat rfl au68 hk (fun k_ => (fun hP => hP.1.1.1.1))); have n1_ := Aside0.mk (R_kept_flat rfl au69 hk (fun k_ => (fun hP => hP.1.1.1.2))); have n2_ := Aside0.mk (Kd.R_mono hr0_ (fun _ h_ => h_.1.1)); have n3_ := Aside0.mk (blk_keptP (g := gb328) (o := .cells #[.slice A0_0 l0_0.length c0_0] 24 (0, 0)) au62 hk (fun hP => hP.1.2 rfl)); have n4_ := Aside0.mk (blk_keptP (g := gb340) (o := .cells #[.slice Ao23 t337.length co23] 31 (0, 0)) au63 hk (fun hP => hP.2 rfl)); have n5_ := Aside0.mk (Below.trans (show Below w.heap.size w _ from au15) hb); clear HO_6; clear HO_9; clear HO_341000; clear HO348; clear BK328; clear BK340; clear HB; have HO_6 := n0_; have HO_9 := n1_; have HO_341000 := n2_; have BK328 := n3_; have BK340 := n4_; have HB := n5_; clear n0_ n1_ n2_ n3_ n4_ n5_ HQ0_; (try clear hb); (try clear hk); clear hr0_))
      (try simp only [Act.put, List.setIfInBounds_toArray, List.set_cons_zero, List.set_cons_succ])
      go_cut [65] (fun v65 wc => ∃ (kq : Nat) (x65_37 : Bool), v65 = .bool x65_37 ∧ Aside0 (laws_FnExactEntriesOfKind.j1 kq a1 t333 t336 t341 x65_37 l0_0 = some r) ∧ Aside0 (kq ≤ kj11) ∧ Aside0 (Kd.R Kd.string 9 wc w.heap.size (fun k_ => some k_ ≠ (v342 : Value).ownBlock) v334 t333) ∧ Aside0 (Kd.R Kd.string 9 wc w.heap.size (fun k_ => some k_ ≠ (v334 : Value).ownBlock) v342 t341) ∧ Aside0 (Kd.R k45 45 wc w.heap.size (fun k_ => some k_ ≠ (v334 : Value).ownBlock ∧ some k_ ≠ (v342 : Value).ownBlock) (.slice Ao23 t337.length co23) m0_) ∧ Aside0 (wc.heap[gb328]? = some (.cells #[(.slice A0_0 l0_0.length c0_0)] 24 (0, 0))) ∧ Aside0 (wc.heap[gb340]? = some (.cells #[(.slice Ao23 t337.length co23)] 31 (0, 0))) ∧ Aside0 (Below w.heap.size w wc))
      case first =>
       have H := HC38.out
       clear HC38
       by_cases c46 : t350 < 0
       ·
        rw [if_pos c46] at H
        have c46b0 : decide (t350 < 0) = true := decide_eq_true c46
        clear c46
        (first | rw [c46b0] | (simp only [i64_w, i32_w]; rw [c46b0]) | skip)
        have H' := Aside0.mk H
        clear H
        exact laws_FnExactEntriesOfKind.L0
       ·
        rw [if_neg c46] at H
        have c46b0 : decide (t350 < 0) = false := decide_eq_false c46
        clear c46
        (first | rw [c46b0] | (simp only [i64_w, i32_w]; rw [c46b0]) | skip)
        replace H := Option.bind_eq_some_iff.mp H
        obtain ⟨t351, A470, H⟩ := H
        try dsimp only at H
        have A47 := Aside0.mk A470
        clear A470
        by_cases c48 : t351 = true
        ·
         subst c48
         replace H := (if_pos rfl).symm.trans H
         have H' := Aside0.mk H
         clear H
         obtain ⟨Ao49, co49, eo49⟩ := Kd.R_slice HO_9.out
         subst eo49
         obtain ⟨Ao50, co50, eo50⟩ := Kd.R_slice HO_6.out
         subst eo50
         exact laws_FnExactEntriesOfKind.L2
        ·
         replace c48 := Bool.eq_false_iff.mpr c48
         subst c48
         replace H := (if_neg (show ¬ (false = true) by decide)).symm.trans H
         have H' := Aside0.mk H
         clear H
         obtain ⟨Ao51, co51, eo51⟩ := Kd.R_slice HO_9.out
         subst eo51
         obtain ⟨Ao52, co52, eo52⟩ := Kd.R_slice HO_6.out
         subst eo52
         exact laws_FnExactEntriesOfKind.L2
      case rest =>
       clear HC38
       try clear c1
       try clear c2
       try clear p2
       try clear c3
       try clear c4
       try clear c4b0
       try clear c5
       try clear c6
       try clear c7
       try clear c8
       try clear c9
       try clear c10
       try clear c24
       try clear c28
       try clear c33
       try clear c36
       try clear c43
       try clear c46
       try clear c46b0
       try clear c48
       try clear hcz14_0
       try clear hcz16_0
       try clear hcz20_0
       try clear hcz25_0
       try clear hcz44_0
       try clear hcz6_0
       try clear hfz14_0
       try clear hfz16_0
       try clear hfz20_0
       try clear hfz25_0
       try clear hfz44_0
       try clear hfz6_0
       try clear p2
       obtain ⟨kq, x65_37, rfl, HA, HJ37, HO_6, HO_9, HO_341000, BK328, BK340, HB⟩ := hcut
       cases kq with
       | zero => exact absurd HA.out (by simp [laws_FnExactEntriesOfKind.j1])
       | succ kj37 =>
        have H := HA.out
        clear HA
        simp only [laws_FnExactEntriesOfKind.j1] at H
        by_cases c53 : x65_37 = true
        ·
         subst c53
         replace H := (if_pos rfl).symm.trans H
         exact absurd ((Option.some.inj H).trans HRT.out) (by simp)
        ·
         replace c53 := Bool.eq_false_iff.mpr c53
         subst c53
         replace H := (if_neg (show ¬ (false = true) by decide)).symm.trans H
         replace H := Option.bind_eq_some_iff.mp H
         obtain ⟨⟨t352, t353⟩, A540, H⟩ := H
         replace H : ((laws_heldStringS.f kj37 t353 1).bind fun t354 => (if t354 < 0 then (some false) else (if t354 = t352 then ((laws_toLibrary.f kj37 l0_0).bind fun t355 => ((impl_EntriesOfKind.f kj37 t355 a1).bind fun bt358 => ((laws_eqStringS.f kj37 bt358.1 t333).bind fun t362 => (if t362 = true then (laws_FnExactEntriesOfKind.j2 kj37 t353 t352 (bt358.2 != t336)) else (laws_FnExactEntriesOfKind.j2 kj37 t353 t352 true))))) else (some false)))) = some r := H
         have A54 := Aside0.mk A540
         clear A540
         replace H := Option.bind_eq_some_iff.mp H
         obtain ⟨t354, A550, H⟩ := H
         try dsimp only at H
         have A55 := Aside0.mk A550
         clear A550
         by_cases c56 : t354 < 0
         ·
          rw [if_pos c56] at H
          have c56b0 : decide (t354 < 0) = true := decide_eq_true c56
          clear c56
          exact absurd ((Option.some.inj H).trans HRT.out) (by simp)
         ·
          rw [if_neg c56] at H
          have c56b0 : decide (t354 < 0) = false := decide_eq_false c56
          clear c56
          by_cases c60 : t354 = t352
          ·
           rw [if_pos c60] at H
           have c60b0 : (t354 == t352) = true := beq_iff_eq.mpr c60
           have c60b1 : (t354 != t352) = false := bne_eq_false_iff_eq.mpr c60
           clear c60
           replace H := Option.bind_eq_some_iff.mp H
           obtain ⟨t355, A610, H⟩ := H
           try dsimp only at H
           have A61 := Aside0.mk A610
           clear A610
           replace H := Option.bind_eq_some_iff.mp H
           obtain ⟨⟨t358, t361⟩, A620, H⟩ := H
           replace H : ((laws_eqStringS.f kj37 t358 t333).bind fun t362 => (if t362 = true then (laws_FnExactEntriesOfKind.j2 kj37 t353 t352 (t361 != t336)) else (laws_FnExactEntriesOfKind.j2 kj37 t353 t352 true))) = some r := H
           have A62 := Aside0.mk A620
           clear A620
           have HC63 := Aside0.mk H
           clear H
           obtain ⟨Ao64, co64, eo64⟩ := Kd.R_slice HO_9.out
           subst eo64
           go_upto_region 25 with (first | ((with_reducible refine gate_callee (f := 11) rfl ?_); refine goesL_ (some 68) rfl rfl Tryd.func11 (by kernel_rfl) rfl #[.slice Ao64 t341.length co64, .int .i64 1] rfl au35 ?_; (with_reducible refine (laws_markStringS.calls kj37 (fun k_ => some k_ = (.slice Ao64 t341.length co64 : Value).ownBlock) (.slice Ao64 t341.length co64) t341 1 t352 t353 w _ ?side1 ?side2 A54.out).mono ?_); (case side1 => repeat (first | (with_reducible first | exact HB.out | apply below_alloc | apply pw_below_drewN | apply below_drew1 | refine below_set ?_ GE328.out | refine below_set ?_ GE340.out) | exact HB.out)); (case side2 => exact Kd.R_tight rfl HO_9.out); rintro e w65 ⟨rfl, hy0, hb, hkp⟩; refine ⟨_, rfl, ?_⟩; replace HO_6 := Aside0.mk (Kd.R_mono (ok' := fun k_ => some k_ ≠ (.slice Ao64 t341.length co64 : Value).ownBlock) (Kd.R_keptB (HO_6.out) hkp (fun k_ hk_ hs_ => (hk_) hs_)) (fun k_ hk_ => hk_.1)); replace HO_341000 := Aside0.mk (Kd.R_mono (ok' := fun k_ => some k_ ≠ (v334 : Value).ownBlock ∧ some k_ ≠ (.slice Ao64 t341.length co64 : Value).ownBlock) (Kd.R_keptB (HO_341000.out) hkp (fun k_ hk_ hs_ => (hk_.2) hs_)) (fun k_ hk_ => ⟨hk_.1.1, hk_.1.2⟩)); replace BK328 := Aside0.mk (blk_kept au62 hkp (fun hs_ => (fun e_ => (Kd.R_ne HO_9.out BK328.out (by decide)) e_) hs_)); replace BK340 := Aside0.mk (blk_kept au63 hkp (fun hs_ => (fun e_ => (Kd.R_ne HO_9.out BK340.out (by decide)) e_) hs_)); replace HO_9 := Aside0.mk (Kd.R_reok rfl hy0 (fun k_ e_ => HO_9.out.1 k_ e_)); replace HB := Aside0.mk (hb); (try clear hb); (try clear hkp); (try clear hy0)) | ((with_reducible refine gate_callee (f := 12) rfl ?_); refine goesL_ (some 71) rfl rfl Tryd.func12 (by kernel_rfl) rfl #[.slice Ao64 t353.length co64, .int .i64 1] rfl au7 ?_; (with_reducible refine (laws_heldStringS.calls kj37 _ _ t353 1 t354 _ ?side1 ?side2 A55.out).mono ?_); (case side1 => repeat (first | exact (Kd.R_reads' HO_9.out).2.2 | (with_reducible refine Kd.C_alloc ?_ _) | (with_reducible refine Kd.C_drewN ?_ _) | (with_reducible refine Kd.C_drew ?_))); (case side2 => rw [show t353.length = t341.length from (Kd.R_reads' HO_9.out).1.symm]; exact (Kd.R_reads' HO_9.out).2.1); rintro e w66 ⟨rfl, hb⟩; refine ⟨_, rfl, ?_⟩; replace HO_6 := Aside0.mk (Kd.R_below au68 hb); replace HO_9 := Aside0.mk (Kd.R_below au69 hb); replace HO_341000 := Aside0.mk (Kd.R_below au64 hb); replace BK328 := Aside0.mk (blk_below (g := gb328) au62 hb); replace BK340 := Aside0.mk (blk_below (g := gb340) au63 hb); replace HB := Aside0.mk (below_step au15 hb); (try clear hb); have hnb67 := NB328_340.out; have hnc67 := NB340_328.out; have hcz68_0 : w66.cell? ⟨gb328, 0, none⟩ = some (.slice A0_0 l0_0.length c0_0) := (blk_cell BK328.out 0).trans rfl; have hfz68_0 := blk_frozen BK328.out 0) | ((with_reducible refine gate_callee (f := 6) rfl ?_); refine goesL_ (some 79) rfl rfl Tryd.func6 (by kernel_rfl) rfl #[.agg #[.slice A0_0 l0_0.length c0_0]] rfl au35 ?_; (with_reducible refine (laws_toLibrary.calls kj37 _ _ l0_0 t355 _ ?side1 ?side2 A61.out).mono ?_); (case side1 => repeat (first | exact (Kd.C_below HR0_0.out HB.out) | (with_reducible refine Kd.C_alloc ?_ _) | (with_reducible refine Kd.C_drewN ?_ _) | (with_reducible refine Kd.C_drew ?_))); (case side2 => exact HC0_0.out); rintro e w69 ⟨v356, rfl, ho0, hb⟩; refine ⟨_, rfl, ?_⟩; have HO357 := Aside0.mk (Kd.R_lower (Kd.R_new' (Kd.R_new' (Kd.R_new' ho0 (Kd.R_lt au68)) (Kd.R_lt au69)) (Kd.R_lt au64)) (below_size au15)); replace HO_6 := Aside0.mk (Kd.R_below au68 hb); replace HO_9 := Aside0.mk (Kd.R_below au69 hb); replace HO_341000 := Aside0.mk (Kd.R_elder' au64 (Kd.R_base ho0) hb); replace BK328 := Aside0.mk (blk_below (g := gb328) au62 hb); replace BK340 := Aside0.mk (blk_below (g := gb340) au63 hb); replace HB := Aside0.mk (below_step au15 hb); (try clear hb); (try clear ho0); obtain ⟨Ao70, co70, eo70⟩ := Kd.R_slice HO357.out; subst eo70) | ((with_reducible refine gate_callee (f := 7) rfl ?_); refine goesL_ (some 81) rfl rfl Tryd.func7 (by kernel_rfl) rfl #[.agg #[.slice Ao70 t355.length co70], .int .i64 a1] rfl au35 ?_; (with_reducible refine (impl_EntriesOfKind.calls (hG := au0) kj37 _ _ t355 a1 t358 t361 _ ?side1 ?side2 A62.out).mono ?_); (case side1 => repeat (first | exact (Kd.R_reads' HO357.out).2.2 | (with_reducible refine Kd.C_alloc ?_ _) | (with_reducible refine Kd.C_drewN ?_ _) | (with_reducible refine Kd.C_drew ?_))); (case side2 => exact (Kd.R_reads' HO357.out).2.1); rintro e w71 ⟨v359, rfl, ho0, hb⟩; refine ⟨_, rfl, ?_⟩; replace HO_341000 := Aside0.mk (Kd.R_elder' au64 (Kd.R_base ho0) hb); replace HO357 := Aside0.mk (Kd.R_elder' (by (with_reducible repeat (first | apply Kd.R_alloc | apply Kd.R_drewN | apply Kd.R_drew)); exact HO357.out) (Kd.R_base ho0) hb); have HO360 := Aside0.mk (Kd.R_lower (Kd.R_new' (Kd.R_new' ho0 (Kd.R_lt au68)) (Kd.R_lt au69)) (below_size au15)); replace HO_6 := Aside0.mk (Kd.R_elder' au68 (Kd.R_base ho0) hb); replace HO_9 := Aside0.mk (Kd.R_elder' au69 (Kd.R_base ho0) hb); replace BK328 := Aside0.mk (blk_below (g := gb328) au62 hb); replace BK340 := Aside0.mk (blk_below (g := gb340) au63 hb); replace HB := Aside0.mk (below_step au15 hb); (try clear hb); (try clear ho0)))
           (try simp only [Act.put, List.setIfInBounds_toArray, List.set_cons_zero, List.set_cons_succ])
           go_cut [92] (fun v92 wc => ∃ (kq : Nat) (x92_62 : Bool), v92 = .bool x92_62 ∧ Aside0 (laws_FnExactEntriesOfKind.j2 kq t353 t352 x92_62 = some r) ∧ Aside0 (kq ≤ kj37) ∧ Aside0 (Kd.R Kd.string 9 wc w.heap.size (fun _ => True) (.slice Ao64 t341.length co64) t353) ∧ Aside0 (Kd.R k45 45 wc w.heap.size (fun k_ => some k_ ≠ ((.slice Ao64 t341.length co64) : Value).ownBlock) (.slice Ao23 t337.length co23) m0_) ∧ Aside0 (wc.heap[gb328]? = some (.cells #[(.slice A0_0 l0_0.length c0_0)] 24 (0, 0))) ∧ Aside0 (wc.heap[gb340]? = some (.cells #[(.slice Ao23 t337.length co23)] 31 (0, 0))) ∧ Aside0 (Below w.heap.size w wc))
           case first =>
            have H := HC63.out
            clear HC63
            replace H := Option.bind_eq_some_iff.mp H
            obtain ⟨t362, A720, H⟩ := H
            try dsimp only at H
            have A72 := Aside0.mk A720
            clear A720
            by_cases c73 : t362 = true
            ·
             subst c73
             replace H := (if_pos rfl).symm.trans H
             have H' := Aside0.mk H
             clear H
             obtain ⟨Ao74, co74, eo74⟩ := Kd.R_slice HO360.out
             subst eo74
             obtain ⟨Ao75, co75, eo75⟩ := Kd.R_slice HO_6.out
             subst eo75
             go_wp2_with (first | ((with_reducible refine gate_callee (f := 8) rfl ?_); refine goesL_ (some 86) rfl rfl Tryd.func8 (by kernel_rfl) rfl #[.slice Ao74 t358.length co74, .slice Ao75 t333.length co75] rfl au35 ?_; (with_reducible refine (laws_eqStringS.calls kj37 _ _ t358 _ _ t333 _ _ ?side1 ?side2 ?side3 ?side4 A72.out).mono ?_); (case side1 => repeat (first | exact (Kd.R_reads' HO360.out).2.2 | (with_reducible refine Kd.C_alloc ?_ _) | (with_reducible refine Kd.C_drewN ?_ _) | (with_reducible refine Kd.C_drew ?_))); (case side2 => exact (Kd.R_reads' HO360.out).2.1); (case side3 => repeat (first | exact (Kd.R_reads' HO_6.out).2.2 | (with_reducible refine Kd.C_alloc ?_ _) | (with_reducible refine Kd.C_drewN ?_ _) | (with_reducible refine Kd.C_drew ?_))); (case side4 => exact (Kd.R_reads' HO_6.out).2.1); rintro e w' ⟨rfl, ⟨nd, rfl⟩⟩; refine ⟨_, rfl, ?_⟩))
             go_meet
             case rel => exact ⟨_, ((t361 != t336)), au72, H', ⟨by have := HJ11.out; have := HJ37.out; first | omega | exact Nat.le_refl _⟩, ⟨by (with_reducible repeat (first | apply Kd.R_alloc | apply Kd.R_drewN | apply Kd.R_drew)); exact Kd.R_mono HO_9.out (fun _ hk => trivial)⟩, ⟨by (with_reducible repeat (first | apply Kd.R_alloc | apply Kd.R_drewN | apply Kd.R_drew)); exact Kd.R_mono HO_341000.out (fun _ hk => hk.1.1.2)⟩, ⟨by (with_reducible repeat (first | refine blk_drewN ?_ _ | refine blk_drew ?_ | refine blk_alloc ?_ _)); exact BK328.out⟩, ⟨by (with_reducible repeat (first | refine blk_drewN ?_ _ | refine blk_drew ?_ | refine blk_alloc ?_ _)); exact BK340.out⟩, ⟨by repeat (first | (with_reducible first | exact HB.out | apply below_alloc | apply pw_below_drewN | apply below_drew1 | refine below_set ?_ GE328.out | refine below_set ?_ GE340.out) | exact HB.out)⟩⟩
            ·
             replace c73 := Bool.eq_false_iff.mpr c73
             subst c73
             replace H := (if_neg (show ¬ (false = true) by decide)).symm.trans H
             have H' := Aside0.mk H
             clear H
             obtain ⟨Ao76, co76, eo76⟩ := Kd.R_slice HO360.out
             subst eo76
             obtain ⟨Ao77, co77, eo77⟩ := Kd.R_slice HO_6.out
             subst eo77
             go_wp2_with (first | ((with_reducible refine gate_callee (f := 8) rfl ?_); refine goesL_ (some 86) rfl rfl Tryd.func8 (by kernel_rfl) rfl #[.slice Ao76 t358.length co76, .slice Ao77 t333.length co77] rfl au35 ?_; (with_reducible refine (laws_eqStringS.calls kj37 _ _ t358 _ _ t333 _ _ ?side1 ?side2 ?side3 ?side4 A72.out).mono ?_); (case side1 => repeat (first | exact (Kd.R_reads' HO360.out).2.2 | (with_reducible refine Kd.C_alloc ?_ _) | (with_reducible refine Kd.C_drewN ?_ _) | (with_reducible refine Kd.C_drew ?_))); (case side2 => exact (Kd.R_reads' HO360.out).2.1); (case side3 => repeat (first | exact (Kd.R_reads' HO_6.out).2.2 | (with_reducible refine Kd.C_alloc ?_ _) | (with_reducible refine Kd.C_drewN ?_ _) | (with_reducible refine Kd.C_drew ?_))); (case side4 => exact (Kd.R_reads' HO_6.out).2.1); rintro e w' ⟨rfl, ⟨nd, rfl⟩⟩; refine ⟨_, rfl, ?_⟩))
             go_meet
             case rel => exact ⟨_, (true), au72, H', ⟨by have := HJ11.out; have := HJ37.out; first | omega | exact Nat.le_refl _⟩, ⟨by (with_reducible repeat (first | apply Kd.R_alloc | apply Kd.R_drewN | apply Kd.R_drew)); exact Kd.R_mono HO_9.out (fun _ hk => trivial)⟩, ⟨by (with_reducible repeat (first | apply Kd.R_alloc | apply Kd.R_drewN | apply Kd.R_drew)); exact Kd.R_mono HO_341000.out (fun _ hk => hk.1.1.2)⟩, ⟨by (with_reducible repeat (first | refine blk_drewN ?_ _ | refine blk_drew ?_ | refine blk_alloc ?_ _)); exact BK328.out⟩, ⟨by (with_reducible repeat (first | refine blk_drewN ?_ _ | refine blk_drew ?_ | refine blk_alloc ?_ _)); exact BK340.out⟩, ⟨by repeat (first | (with_reducible first | exact HB.out | apply below_alloc | apply pw_below_drewN | apply below_drew1 | refine below_set ?_ GE328.out | refine below_set ?_ GE340.out) | exact HB.out)⟩⟩
           case rest =>
            clear HC63
            try clear c1
            try clear c2
            try clear p2
            try clear c3
            try clear c4
            try clear c4b0
            try clear c5
            try clear c6
            try clear c7
            try clear c8
            try clear c9
            try clear c10
            try clear c11
            try clear c12
            try clear c24
            try clear c28
            try clear c33
            try clear c36
            try clear c43
            try clear c46
            try clear c46b0
            try clear c48
            try clear c53
            try clear c56
            try clear c56b0
            try clear c60
            try clear c60b0
            try clear c60b1
            try clear c67
            try clear c73
            try clear hcz14_0
            try clear hcz16_0
            try clear hcz20_0
            try clear hcz25_0
            try clear hcz44_0
            try clear hcz68_0
            try clear hcz6_0
            try clear hfz14_0
            try clear hfz16_0
            try clear hfz20_0
            try clear hfz25_0
            try clear hfz44_0
            try clear hfz68_0
            try clear hfz6_0
            try clear p2
            obtain ⟨kq, x92_62, rfl, HA, HJ62, HO_9, HO_341000, BK328, BK340, HB⟩ := hcut
            have hl9_62 := (Kd.R_reads' HO_9.out).1
            rw [hl9_62] at HO_9
            (try simp only [hl9_62])
            (try simp only [hl9_62] at BK328)
            (try simp only [hl9_62] at BK340)
            (try simp only [hl9_62] at HO_341000)
            cases kq with
            | zero => exact absurd HA.out (by simp [laws_FnExactEntriesOfKind.j2])
            | succ kj62 =>
             have H := HA.out
             clear HA
             simp only [laws_FnExactEntriesOfKind.j2] at H
             by_cases c78 : x92_62 = true
             ·
              subst c78
              replace H := (if_pos rfl).symm.trans H
              exact absurd ((Option.some.inj H).trans HRT.out) (by simp)
             ·
              replace c78 := Bool.eq_false_iff.mpr c78
              subst c78
              replace H := (if_neg (show ¬ (false = true) by decide)).symm.trans H
              replace H := Option.bind_eq_some_iff.mp H
              obtain ⟨t363, A790, H⟩ := H
              try dsimp only at H
              have A79 := Aside0.mk A790
              clear A790
              by_cases c80 : t363 < 0
              ·
               rw [if_pos c80] at H
               have c80b0 : decide (t363 < 0) = true := decide_eq_true c80
               clear c80
               exact absurd ((Option.some.inj H).trans HRT.out) (by simp)
              ·
               rw [if_neg c80] at H
               have c80b0 : decide (t363 < 0) = false := decide_eq_false c80
               clear c80
               by_cases c82 : t363 = t352
               ·
                rw [if_pos c82] at H
                have c82b0 : (t363 == t352) = true := beq_iff_eq.mpr c82
                have c82b1 : (t363 != t352) = false := bne_eq_false_iff_eq.mpr c82
                clear c82
                obtain rfl := Option.some.inj H
                exact laws_FnExactEntriesOfKind.L1
               ·
                rw [if_neg c82] at H
                have c82b0 : (t363 == t352) = false := beq_eq_false_iff_ne.mpr c82
                have c82b1 : (t363 != t352) = true := bne_iff_ne.mpr c82
                obtain rfl := Option.some.inj H
                exact laws_FnExactEntriesOfKind.L1
          ·
           rw [if_neg c60] at H
           have c60b0 : (t354 == t352) = false := beq_eq_false_iff_ne.mpr c60
           have c60b1 : (t354 != t352) = true := bne_iff_ne.mpr c60
           obtain rfl := Option.some.inj H
           obtain ⟨Ao85, co85, eo85⟩ := Kd.R_slice HO_9.out
           subst eo85
           go_wp2_with (first | ((with_reducible refine gate_callee (f := 11) rfl ?_); refine goesL_ (some 68) rfl rfl Tryd.func11 (by kernel_rfl) rfl #[.slice Ao85 t341.length co85, .int .i64 1] rfl au35 ?_; (with_reducible refine (laws_markStringS.calls kj37 (fun k_ => some k_ = (.slice Ao85 t341.length co85 : Value).ownBlock) (.slice Ao85 t341.length co85) t341 1 t352 t353 w _ ?side1 ?side2 A54.out).mono ?_); (case side1 => repeat (first | (with_reducible first | exact HB.out | apply below_alloc | apply pw_below_drewN | apply below_drew1 | refine below_set ?_ GE328.out | refine below_set ?_ GE340.out) | exact HB.out)); (case side2 => exact Kd.R_tight rfl HO_9.out); rintro e w86 ⟨rfl, hy0, hb, hkp⟩; refine ⟨_, rfl, ?_⟩; replace HO_6 := Aside0.mk (Kd.R_mono (ok' := fun k_ => some k_ ≠ (.slice Ao85 t341.length co85 : Value).ownBlock) (Kd.R_keptB (HO_6.out) hkp (fun k_ hk_ hs_ => (hk_) hs_)) (fun k_ hk_ => hk_.1)); replace HO_341000 := Aside0.mk (Kd.R_mono (ok' := fun k_ => some k_ ≠ (v334 : Value).ownBlock ∧ some k_ ≠ (.slice Ao85 t341.length co85 : Value).ownBlock) (Kd.R_keptB (HO_341000.out) hkp (fun k_ hk_ hs_ => (hk_.2) hs_)) (fun k_ hk_ => ⟨hk_.1.1, hk_.1.2⟩)); replace BK328 := Aside0.mk (blk_kept au62 hkp (fun hs_ => (fun e_ => (Kd.R_ne HO_9.out BK328.out (by decide)) e_) hs_)); replace BK340 := Aside0.mk (blk_kept au63 hkp (fun hs_ => (fun e_ => (Kd.R_ne HO_9.out BK340.out (by decide)) e_) hs_)); replace HO_9 := Aside0.mk (Kd.R_reok rfl hy0 (fun k_ e_ => HO_9.out.1 k_ e_)); replace HB := Aside0.mk (hb); (try clear hb); (try clear hkp); (try clear hy0)) | ((with_reducible refine gate_callee (f := 12) rfl ?_); refine goesL_ (some 71) rfl rfl Tryd.func12 (by kernel_rfl) rfl #[.slice Ao85 t353.length co85, .int .i64 1] rfl au7 ?_; (with_reducible refine (laws_heldStringS.calls kj37 _ _ t353 1 t354 _ ?side1 ?side2 A55.out).mono ?_); (case side1 => repeat (first | exact (Kd.R_reads' HO_9.out).2.2 | (with_reducible refine Kd.C_alloc ?_ _) | (with_reducible refine Kd.C_drewN ?_ _) | (with_reducible refine Kd.C_drew ?_))); (case side2 => rw [show t353.length = t341.length from (Kd.R_reads' HO_9.out).1.symm]; exact (Kd.R_reads' HO_9.out).2.1); rintro e w87 ⟨rfl, hb⟩; refine ⟨_, rfl, ?_⟩; replace HO_6 := Aside0.mk (Kd.R_below au68 hb); replace HO_9 := Aside0.mk (Kd.R_below au69 hb); replace HO_341000 := Aside0.mk (Kd.R_below au64 hb); replace BK328 := Aside0.mk (blk_below (g := gb328) au62 hb); replace BK340 := Aside0.mk (blk_below (g := gb340) au63 hb); replace HB := Aside0.mk (below_step au15 hb); (try clear hb)))
           go_ret
           exact ⟨by first | rfl | (simp [errW_none, errW_some] <;> rfl) | (simp [*, errW_none, errW_some] <;> rfl), by repeat (first | (with_reducible first | exact HB.out | apply below_alloc | apply pw_below_drewN | apply below_drew1 | refine below_set ?_ GE328.out | refine below_set ?_ GE340.out) | exact HB.out)⟩
     ·
      replace c36 := Bool.eq_false_iff.mpr c36
      subst c36
      replace H := (if_neg (show ¬ (false = true) by decide)).symm.trans H
      exact absurd ((Option.some.inj H).trans HRT.out) (by simp)

end Go.Proofs.YthhdodlpbpagfaaDoor.G

namespace Go.Proofs.YthhdodlpbpagfaaDoor.Opn
open Go.RowKit Go.Proofs.YthhdodlpbpagfaaDoorW.PrintWords
set_option linter.unusedVariables false
set_option linter.unusedSimpArgs false
variable {H : Type} {enc : TypeId × Value → H} {P : Program} {w : World} {base : Nat} {spare : Nat → Bool} {held : Bool}
def okInt (k : IntKind) (n : Int) : Prop := (Lit.int k n).wf = true
def okBool (_ : Bool) : Prop := True
def okStr (s : ByteArray) : Prop := s.size ≤ 9223372036854775807
def okList {α : Type} (p : α → Prop) (xs : List α) : Prop := xs.length ≤ 9223372036854775807 ∧ ∀ x ∈ xs, p x
theorem of_int {t : TypeId} {k : IntKind} {fuel : Nat} {cs : List Value} {x : DataW H × List MemPlace} (ht : P.underlying t = some (.int k)) (h : DataW.trod enc P w base spare held fuel t cs = some x) :
    ∃ n, (Kd.int k).K w n cs ∧ okInt k n := by
  obtain ⟨n, rfl, rfl, hw⟩ := DataW.trod_int ht h
  exact ⟨n, rfl, hw⟩
theorem of_bool {t : TypeId} {fuel : Nat} {cs : List Value} {x : DataW H × List MemPlace} (ht : P.underlying t = some .bool) (h : DataW.trod enc P w base spare held fuel t cs = some x) :
    ∃ n, Kd.bool.K w n cs ∧ okBool n := by
  cases fuel with
  | zero => simp [DataW.trod] at h
  | succ fuel =>
    match cs with
    | [] => simp [DataW.trod, ht] at h
    | [v] => cases v <;> simp [DataW.trod, ht] at h; exact ⟨_, rfl, trivial⟩
    | _ :: _ :: _ => simp [DataW.trod, ht] at h
theorem of_string {t : TypeId} {fuel : Nat} {cs : List Value} {x : DataW H × List MemPlace} (ht : P.underlying t = some .string) (h : DataW.trod enc P w base spare held fuel t cs = some x) :
    ∃ n, Kd.string.K w n cs ∧ okStr n := by
  cases fuel with
  | zero => simp [DataW.trod] at h
  | succ fuel =>
    match cs with
    | [] => simp [DataW.trod, ht] at h
    | [v] => cases v <;> simp [DataW.trod, ht] at h; exact ⟨_, rfl, h.1⟩
    | _ :: _ :: _ => simp [DataW.trod, ht] at h
theorem add_add (a : Addr) (k i : Nat) : (a.add k).add i = a.add (k + i) := by
  unfold Addr.add
  by_cases hk : k = 0 <;> by_cases hi : i = 0 <;> simp [hk, hi, Nat.add_assoc]
theorem of_slice {α : Type} {d : Kd α} {ok : α → Prop} {t e : TypeId} {fuel : Nat} {cs : List Value} {x : DataW H × List MemPlace} (ht : P.underlying t = some (.slice e)) (hc : P.cellsOf e = d.sz)
    (ih : ∀ n cs x, DataW.trod enc P w base spare held n e cs = some x → ∃ y, d.K w y cs ∧ ok y) (h : DataW.trod enc P w base spare held fuel t cs = some x) :
    ∃ ys, (Kd.slice e d).K w ys cs ∧ okList ok ys := by
  rcases Go.Deep.open_slice ht h with ⟨rfl, _⟩ | ⟨a, len, cap, m, n, D, Pl, rfl, hb, hl, hm, hmm, hxe, hel⟩
  · exact ⟨[], ⟨none, 0, rfl, by simp, rfl, by simp, fun h => absurd h (by simp)⟩, by simp, fun x hx => by simp at hx⟩
  · have hlm : len ≤ m := by rw [hmm]; split <;> omega
    have hm' : len ≤ 9223372036854775807 := by unfold maxLen at hm; omega
    have key : ∀ i, i < len → ∃ cs' y, w.cells? base (a.add (i * P.cellsOf e)) (P.cellsOf e) = some cs' ∧ d.K w y cs' ∧ ok y := by
      intro i hi
      obtain ⟨cs', h1, h2⟩ := hel i (by omega)
      obtain ⟨y, hy, ho⟩ := ih _ _ _ h2
      exact ⟨cs', y, h1, hy, ho⟩
    obtain ⟨ys, hlen, hys⟩ : ∃ ys : List α, ys.length = len ∧ ∀ i (hi : i < ys.length), ∃ cs', w.cells? base (a.add (i * P.cellsOf e)) (P.cellsOf e) = some cs' ∧ d.K w ys[i] cs' ∧ ok ys[i] := by
      clear h hxe hel hmm hlm hl hm hm'
      induction len with
      | zero => exact ⟨[], rfl, fun i hi => by simp at hi⟩
      | succ len ihl =>
        obtain ⟨ys, h1, h2⟩ := ihl (fun i hi => key i (by omega))
        obtain ⟨cs', y, h3, h4, h5⟩ := key len (by omega)
        refine ⟨ys ++ [y], by simp [h1], fun i hi => ?_⟩
        by_cases hi' : i < ys.length
        · rw [List.getElem_append_left hi']; exact h2 i hi'
        · have : i = len := by simp at hi; omega
          subst this
          refine ⟨cs', h3, ?_, ?_⟩ <;> rw [List.getElem_append_right (by omega)] <;> simpa [h1]
    refine ⟨ys, ⟨some a, cap, by rw [hlen], by omega, rfl, by omega, fun _ => ⟨a, rfl, fun j p hj => ?_⟩⟩, by omega, fun y hy => ?_⟩
    · obtain ⟨hj', rfl⟩ := List.getElem?_eq_some_iff.1 hj
      obtain ⟨cs', h1, h2, _⟩ := hys j hj'
      rw [hc] at h1
      refine ⟨cs', d.K_len h2, h2, fun i u hu => ?_⟩
      obtain ⟨_, hl', hcell⟩ := World.cells?_some h1
      have hi : i < d.sz := by have := (List.getElem?_eq_some_iff.1 hu).1; omega
      have := hcell i hi
      rw [hu, add_add] at this
      exact this
    · obtain ⟨i, hi, rfl⟩ := List.getElem_of_mem hy
      obtain ⟨_, _, _, h3⟩ := hys i hi
      exact h3
theorem mapM_all {α β : Type} {f : α → Option β} : ∀ {l : List α} {ys : List β}, l.mapM f = some ys → ∀ x ∈ l, ∃ y, f x = some y
  | [], _, _, x, hx => by simp at hx
  | a :: l, ys, h, x, hx => by
    rw [List.mapM_cons] at h
    simp only [Option.bind_eq_bind, Option.bind_eq_some_iff] at h
    obtain ⟨y, h1, ys', h2, _⟩ := h
    rcases List.mem_cons.1 hx with rfl | hx
    · exact ⟨y, h1⟩
    · exact mapM_all h2 x hx
theorem of_fields {t : TypeId} {fs : Array Field} {fuel : Nat} {cs : List Value} {x : DataW H × List MemPlace} (ht : P.underlying t = some (.struct fs)) (h : DataW.trod enc P w base spare held fuel t cs = some x) :
    cs.length = P.cellsOf t ∧ ∃ n, ∀ f ∈ fs.toList, ∃ y, DataW.trod enc P w base spare held n f.type ((cs.drop f.offset).take (P.cellsOf f.type)) = some y := by
  cases fuel with
  | zero => simp [DataW.trod] at h
  | succ fuel =>
    simp only [DataW.trod, ht] at h
    split at h
    · rename_i hl
      refine ⟨hl, fuel, ?_⟩
      simp only [Option.map_eq_some_iff] at h
      obtain ⟨ys, h1, _⟩ := h
      exact mapM_all h1
    · simp at h
theorem pair_K {α β : Type} {a : Kd α} {b : Kd β} {x : α} {y : β} {cs : List Value} {n : Nat} (off : Nat) (hn : a.sz = n) (h0 : a.K w x ((cs.drop off).take n)) (h1 : b.K w y (cs.drop (off + n))) : (Kd.pair a b).K w (x, y) (cs.drop off) :=
  ⟨_, _, by rw [← List.drop_drop]; exact (List.take_append_drop n (cs.drop off)).symm, h0, h1⟩
theorem last_K {α : Type} {a : Kd α} {x : α} {cs : List Value} {n : Nat} (off : Nat) (hl : cs.length = off + n) (h0 : a.K w x ((cs.drop off).take n)) : a.K w x (cs.drop off) := by
  rwa [List.take_of_length_le (by rw [List.length_drop]; omega)] at h0
end Go.Proofs.YthhdodlpbpagfaaDoor.Opn

namespace Go.Proofs.YthhdodlpbpagfaaDoor.G
open Go.Proofs.YthhdodlpbpagfaaDoor.Opn
open Go.RowKit Go.Proofs.YthhdodlpbpagfaaDoorW.PrintWords Go.Proofs.YthhdodlpbpagfaaDoorW.PrintLast Go.Proofs.YthhdodlpbpagfaaDoorW.PrintMore
open Go.Proofs.YthhdodlpbpagfaaDoor.Gl Go.Proofs.YthhdodlpbpagfaaDoor.Ext
attribute [local go_sem] max2_int min2_int max_two min_two max_three min_three max_four min_four   -- for this text's walks alone
set_option linter.unusedVariables false
set_option linter.unusedSimpArgs false

theorem cells3 : Tryd.prog.cellsOf 3 = 1 := by kernel_rfl
theorem cells4 : Tryd.prog.cellsOf 4 = 1 := by kernel_rfl
theorem cells9 : Tryd.prog.cellsOf 9 = 1 := by kernel_rfl
theorem cells22 : Tryd.prog.cellsOf 22 = 1 := by kernel_rfl
theorem cells24 : Tryd.prog.cellsOf 24 = 1 := by kernel_rfl
theorem cells26 : Tryd.prog.cellsOf 26 = 1 := by kernel_rfl
theorem cells52 : Tryd.prog.cellsOf 52 = 1 := by kernel_rfl
theorem cells53 : Tryd.prog.cellsOf 53 = 4 := by kernel_rfl
theorem cells55 : Tryd.prog.cellsOf 55 = 14 := by kernel_rfl
theorem cells72 : Tryd.prog.cellsOf 72 = 4 := by kernel_rfl
def ok72 (y : S72) : Prop := okList (okStr) y.f0 ∧ okStr y.f1 ∧ okStr y.f2 ∧ okStr y.f3
theorem of_T72 {H : Type} {enc : TypeId × Value → H} {w : World} {base : Nat} {spare : Nat → Bool} {held : Bool} {fuel : Nat} {cs : List Value} {x : DataW H × List MemPlace} (h : DataW.trod enc Tryd.prog w base spare held fuel 72 cs = some x) : ∃ y : S72, k72.K w y cs ∧ ok72 y := by
  obtain ⟨hl, n, hf⟩ := of_fields Tryd.underlying72 h
  rw [cells72] at hl
  simp only [List.mem_cons, List.not_mem_nil, or_false, forall_eq_or_imp, forall_eq] at hf
  obtain ⟨⟨y0, f0⟩, ⟨y1, f1⟩, ⟨y2, f2⟩, ⟨y3, f3⟩⟩ := hf
  rw [cells26] at f0
  obtain ⟨x0, g0, b0⟩ := of_slice (ok := okStr) Tryd.underlying26 cells9 (fun _ _ _ h_ => of_string Tryd.underlying9 h_) f0
  rw [cells9] at f1
  obtain ⟨x1, g1, b1⟩ := of_string Tryd.underlying9 f1
  rw [cells9] at f2
  obtain ⟨x2, g2, b2⟩ := of_string Tryd.underlying9 f2
  rw [cells9] at f3
  obtain ⟨x3, g3, b3⟩ := of_string Tryd.underlying9 f3
  exact ⟨⟨x0, x1, x2, x3⟩, (pair_K (n := 1) 0 rfl g0 (pair_K (n := 1) 1 rfl g1 (pair_K (n := 1) 2 rfl g2 (last_K (n := 1) 3 hl g3)))), ⟨b0, b1, b2, b3⟩⟩
def ok53 (y : S53) : Prop := okInt .i64 y.f0 ∧ okInt .i64 y.f1 ∧ okInt .i64 y.f2 ∧ okBool y.f3
theorem of_T53 {H : Type} {enc : TypeId × Value → H} {w : World} {base : Nat} {spare : Nat → Bool} {held : Bool} {fuel : Nat} {cs : List Value} {x : DataW H × List MemPlace} (h : DataW.trod enc Tryd.prog w base spare held fuel 53 cs = some x) : ∃ y : S53, k53.K w y cs ∧ ok53 y := by
  obtain ⟨hl, n, hf⟩ := of_fields Tryd.underlying53 h
  rw [cells53] at hl
  simp only [List.mem_cons, List.not_mem_nil, or_false, forall_eq_or_imp, forall_eq] at hf
  obtain ⟨⟨y0, f0⟩, ⟨y1, f1⟩, ⟨y2, f2⟩, ⟨y3, f3⟩⟩ := hf
  rw [cells3] at f0
  obtain ⟨x0, g0, b0⟩ := of_int Tryd.underlying3 f0
  rw [cells3] at f1
  obtain ⟨x1, g1, b1⟩ := of_int Tryd.underlying3 f1
  rw [cells3] at f2
  obtain ⟨x2, g2, b2⟩ := of_int Tryd.underlying3 f2
  rw [cells4] at f3
  obtain ⟨x3, g3, b3⟩ := of_bool Tryd.underlying4 f3
  exact ⟨⟨x0, x1, x2, x3⟩, (pair_K (n := 1) 0 rfl g0 (pair_K (n := 1) 1 rfl g1 (pair_K (n := 1) 2 rfl g2 (last_K (n := 1) 3 hl g3)))), ⟨b0, b1, b2, b3⟩⟩
def ok55 (y : S55) : Prop := okStr y.f0 ∧ okInt .i64 y.f1 ∧ okList (ok72) y.f2 ∧ okList (ok72) y.f3 ∧ okStr y.f4 ∧ okStr y.f5 ∧ okStr y.f6 ∧ ok53 y.f7 ∧ okInt .i64 y.f8 ∧ okStr y.f9 ∧ okStr y.f10
theorem of_T55 {H : Type} {enc : TypeId × Value → H} {w : World} {base : Nat} {spare : Nat → Bool} {held : Bool} {fuel : Nat} {cs : List Value} {x : DataW H × List MemPlace} (h : DataW.trod enc Tryd.prog w base spare held fuel 55 cs = some x) : ∃ y : S55, k55.K w y cs ∧ ok55 y := by
  obtain ⟨hl, n, hf⟩ := of_fields Tryd.underlying55 h
  rw [cells55] at hl
  simp only [List.mem_cons, List.not_mem_nil, or_false, forall_eq_or_imp, forall_eq] at hf
  obtain ⟨⟨y0, f0⟩, ⟨y1, f1⟩, ⟨y2, f2⟩, ⟨y3, f3⟩, ⟨y4, f4⟩, ⟨y5, f5⟩, ⟨y6, f6⟩, ⟨y7, f7⟩, ⟨y8, f8⟩, ⟨y9, f9⟩, ⟨y10, f10⟩⟩ := hf
  rw [cells9] at f0
  obtain ⟨x0, g0, b0⟩ := of_string Tryd.underlying9 f0
  rw [cells3] at f1
  obtain ⟨x1, g1, b1⟩ := of_int Tryd.underlying3 f1
  rw [cells52] at f2
  obtain ⟨x2, g2, b2⟩ := of_slice (ok := ok72) Tryd.underlying52 cells72 (fun _ _ _ h_ => of_T72 h_) f2
  rw [cells52] at f3
  obtain ⟨x3, g3, b3⟩ := of_slice (ok := ok72) Tryd.underlying52 cells72 (fun _ _ _ h_ => of_T72 h_) f3
  rw [cells9] at f4
  obtain ⟨x4, g4, b4⟩ := of_string Tryd.underlying9 f4
  rw [cells9] at f5
  obtain ⟨x5, g5, b5⟩ := of_string Tryd.underlying9 f5
  rw [cells9] at f6
  obtain ⟨x6, g6, b6⟩ := of_string Tryd.underlying9 f6
  rw [cells53] at f7
  obtain ⟨x7, g7, b7⟩ := of_T53 f7
  rw [cells3] at f8
  obtain ⟨x8, g8, b8⟩ := of_int Tryd.underlying3 f8
  rw [cells9] at f9
  obtain ⟨x9, g9, b9⟩ := of_string Tryd.underlying9 f9
  rw [cells9] at f10
  obtain ⟨x10, g10, b10⟩ := of_string Tryd.underlying9 f10
  exact ⟨⟨x0, x1, x2, x3, x4, x5, x6, x7, x8, x9, x10⟩, (pair_K (n := 1) 0 rfl g0 (pair_K (n := 1) 1 rfl g1 (pair_K (n := 1) 2 rfl g2 (pair_K (n := 1) 3 rfl g3 (pair_K (n := 1) 4 rfl g4 (pair_K (n := 1) 5 rfl g5 (pair_K (n := 1) 6 rfl g6 (pair_K (n := 4) 7 rfl g7 (pair_K (n := 1) 11 rfl g8 (pair_K (n := 1) 12 rfl g9 (last_K (n := 1) 13 hl g10))))))))))), ⟨b0, b1, b2, b3, b4, b5, b6, b7, b8, b9, b10⟩⟩
def ok24 (y : S24) : Prop := okList (ok55) y.f0
theorem of_T24 {H : Type} {enc : TypeId × Value → H} {w : World} {base : Nat} {spare : Nat → Bool} {held : Bool} {fuel : Nat} {cs : List Value} {x : DataW H × List MemPlace} (h : DataW.trod enc Tryd.prog w base spare held fuel 24 cs = some x) : ∃ y : S24, k24.K w y cs ∧ ok24 y := by
  obtain ⟨hl, n, hf⟩ := of_fields Tryd.underlying24 h
  rw [cells24] at hl
  simp only [List.mem_cons, List.not_mem_nil, or_false, forall_eq_or_imp, forall_eq] at hf
  obtain ⟨y0, f0⟩ := hf
  rw [cells22] at f0
  obtain ⟨x0, g0, b0⟩ := of_slice (ok := ok55) Tryd.underlying22 cells55 (fun _ _ _ h_ => of_T55 h_) f0
  exact ⟨⟨x0⟩, (last_K (n := 1) 0 (by simpa using hl) g0), b0⟩

def laws_FnExactEntriesOfKind.Pur : Prop := ∀ (l0_0 : List (S55)) (a1 : Int), okList (ok55) l0_0 → okInt .i64 a1 → ∃ k, laws_FnExactEntriesOfKind.f k l0_0 a1 = some true
theorem laws_FnExactEntriesOfKind.wlk (P : laws_FnExactEntriesOfKind.Pur) (A0_0 : Option Addr) (c0_0 : Nat) (l0_0 : List (S55)) (a1 : Int) (w : World) (hr0_0 : Kd.C k55 w A0_0 l0_0.length l0_0) (hc0_0 : l0_0.length ≤ c0_0) {gF1 gF2 gF3 : Bool} (hG : GL gF1 gF2 gF3 w) (bl0_0 : okList (ok55) l0_0) (ba1 : okInt .i64 a1) :
    Calls Tryd.prog 3 #[.agg #[.slice A0_0 l0_0.length c0_0], .int .i64 a1] w fun e w' => e = .returned (.bool true) ∧ Below w.heap.size w w' := by
  obtain ⟨k, h⟩ := P l0_0 a1 bl0_0 ba1
  refine (laws_FnExactEntriesOfKind.calls k A0_0 c0_0 l0_0 a1 w hG hr0_0 hc0_0 h).mono ?_
  rintro e w' ⟨rfl, hd⟩
  exact ⟨rfl, hd⟩

end Go.Proofs.YthhdodlpbpagfaaDoor.G

namespace Go.Proofs.YthhdodlpbpagfaaDoor.B
open Go.RowKit Go.Proofs.YthhdodlpbpagfaaDoorW.PrintWords Go.Proofs.YthhdodlpbpagfaaDoorW.PrintLast
set_option linter.unusedVariables false
set_option linter.unusedSimpArgs false
def ahd (seg : List UInt8) : List (List UInt8) → List (List UInt8)
  | [] => [seg]
  | h :: t => (seg ++ h) :: t
def spl (b : UInt8) : List UInt8 → List (List UInt8)
  | [] => [[]]
  | c :: cs => if c = b then [] :: spl b cs else ahd [c] (spl b cs)
theorem spl_cons (b c : UInt8) (cs : List UInt8) : spl b (c :: cs) = if c = b then [] :: spl b cs else ahd [c] (spl b cs) := rfl
theorem spl_ne (b : UInt8) (l : List UInt8) : spl b l ≠ [] := by
  cases l with
  | nil => simp [spl]
  | cons c cs => unfold spl; split <;> simp; unfold ahd; split <;> simp
theorem ahd_nil (p : List (List UInt8)) (h : p ≠ []) : ahd [] p = p := by cases p <;> simp_all [ahd]
theorem ahd_ahd (a b : List UInt8) (p : List (List UInt8)) : ahd a (ahd b p) = ahd (a ++ b) p := by cases p <;> simp [ahd]
theorem spl_length (b : UInt8) (l : List UInt8) : (spl b l).length ≤ l.length + 1 := by
  induction l with
  | nil => simp [spl]
  | cons c cs ih =>
    unfold spl
    split
    · simp; omega
    · cases h : spl b cs with
      | nil => exact absurd h (spl_ne b cs)
      | cons p q => rw [h] at ih; simp [ahd] at ih ⊢; omega
theorem spl_step (b : UInt8) (l : List UInt8) (from_ i : Nat) (hi : i < l.length) (hf : from_ ≤ i) :
    ahd ((l.drop from_).take (i - from_)) (spl b (l.drop i)) =
      if l[i] = b then ((l.drop from_).take (i - from_)) :: spl b (l.drop (i + 1)) else ahd ((l.drop from_).take (i + 1 - from_)) (spl b (l.drop (i + 1))) := by
  rw [List.drop_eq_getElem_cons hi, spl_cons]
  by_cases h : l[i] = b
  · rw [if_pos h, if_pos h]
    simp [ahd]
  · rw [if_neg h, if_neg h]
    have e : (l.drop from_).take (i + 1 - from_) = (l.drop from_).take (i - from_) ++ [l[i]] := by
      rw [show i + 1 - from_ = (i - from_) + 1 by omega, List.take_succ_eq_append_getElem (by rw [List.length_drop]; omega)]
      congr 2
      rw [List.getElem_drop]
      congr 1
      omega
    rw [e]
    exact ahd_ahd _ _ _
theorem spl_none (c : UInt8) : ∀ l : List UInt8, (∀ k : Nat, l[k]? ≠ some c) → spl c l = [l]
  | [], _ => rfl
  | a :: l, h => by
    have h0 : a ≠ c := fun e => h 0 (by simp [e])
    rw [spl_cons, if_neg h0, spl_none c l (fun k => by simpa using h (k + 1))]; rfl
theorem spl_first (c : UInt8) : ∀ (i : Nat) (l : List UInt8), l[i]? = some c → (∀ k : Nat, k < i → l[k]? ≠ some c) → spl c l = l.take i :: spl c (l.drop (i + 1))
  | 0, [], h, _ => by simp at h
  | 0, a :: l, h, _ => by
    have h0 : a = c := by simpa using h
    rw [spl_cons, if_pos h0]; rfl
  | i + 1, [], h, _ => by simp at h
  | i + 1, a :: l, h, hk => by
    have h0 : a ≠ c := fun e => hk 0 (by omega) (by simp [e])
    rw [spl_cons, if_neg h0, spl_first c i l (by simpa using h) (fun k hk' => by simpa using hk (k + 1) (by omega))]
    rfl
theorem indexB_one (s : ByteArray) (c : UInt8) : Lib.indexB s (mkB [c]) = Lib.indexByte (L s) c := by
  unfold Lib.indexB
  have : (mkB [c]).data.toList = [c] := L_mk [c]
  rw [this]
  exact Lib.index_one _ _
theorem splitB_spl (c : UInt8) (n : Nat) : ∀ s : ByteArray, s.size ≤ n → (Lib.splitB (mkB [c]) 0 (Lib.countB s (mkB [c])) s).map L = spl c (L s) := by
  have h1 : (mkB [c]).size = 1 := by rw [size_mk]; rfl
  induction n with
  | zero =>
    intro s hs
    rcases Lib.indexB_cases s (mkB [c]) with hm | ⟨i, hi, hr⟩
    · rw [Lib.splitB_miss _ _ _ _ hm]
      have := Lib.indexByte_none (by rw [← indexB_one]; exact hm : Lib.indexByte (L s) c = -1)
      rw [spl_none c (L s) this]; rfl
    · omega
  | succ n ih =>
    intro s hs
    rcases Lib.indexB_cases s (mkB [c]) with hm | ⟨i, hi, hr⟩
    · rw [Lib.splitB_miss _ _ _ _ hm]
      have := Lib.indexByte_none (by rw [← indexB_one]; exact hm : Lib.indexByte (L s) c = -1)
      rw [spl_none c (L s) this]; rfl
    · rw [h1] at hr
      have hc := Lib.countB_hit s (mkB [c]) i (by omega) hi
      rw [h1] at hc
      rw [hc, Nat.add_comm 1, Lib.splitB_hit _ _ _ _ i hi, h1, List.map_cons, ih (s.extract (i + 1) s.size) (by rw [ByteArray.size_extract]; omega)]
      obtain ⟨a, b⟩ := Lib.indexByte_some (by rw [← indexB_one]; exact hi : Lib.indexByte (L s) c = i)
      rw [spl_first c i (L s) a b, L_extract, L_extract]
      congr 1
      congr 1
      rw [List.take_of_length_le (by rw [List.length_drop, L_len]; omega)]
theorem splitB_eq (c : UInt8) (s : ByteArray) : Lib.splitB (mkB [c]) 0 (Lib.countB s (mkB [c])) s = (spl c (L s)).map mkB := by
  rw [← splitB_spl c s.size s (Nat.le_refl _), List.map_map]
  have : (mkB ∘ L) = id := by funext x; exact mk_L x
  rw [this, List.map_id]
end Go.Proofs.YthhdodlpbpagfaaDoor.B

namespace Go.Proofs.YthhdodlpbpagfaaDoor.G
open Go.RowKit Go.Proofs.YthhdodlpbpagfaaDoorW.PrintWords Go.Proofs.YthhdodlpbpagfaaDoorW.PrintLast Go.Proofs.YthhdodlpbpagfaaDoor.B
set_option linter.unusedVariables false
set_option linter.unusedSimpArgs false
theorem split_loop (s : ByteArray) (b : UInt8) (hs : s.size ≤ 8796093022000) (d : Nat) : ∀ (out : List ByteArray) (f i : Nat), out.length ≤ i → f ≤ i → i ≤ s.size → s.size - i = d →
    Ev (fun k => spec_l1Split.l0 k s (b.toNat : Int) out f i) (out ++ (ahd (((L s).drop f).take (i - f)) (spl b ((L s).drop i))).map mkB) := by
  have hL : (L s).length = s.size := L_len s
  induction d with
  | zero =>
    intro out f i h0 h1 h2 hd
    have e : i = s.size := by omega
    refine Ev.step (f := fun _ => some (out ++ [s.extract f s.size])) (fun k => ?_) (ev_eq (Ev.now _) ?_)
    · simp only [spec_l1Split.l0]
      rw [if_neg (by omega), if_pos (by omega), if_pos (by omega), if_pos (by omega)]
      simp
    · rw [List.drop_of_length_le (l := L s) (i := i) (by omega)]
      simp [spl, ahd]
      apply L_inj
      rw [L_extract, L_mk, e]
  | succ d ih =>
    intro out f i h0 h1 h2 hd
    have hlt : i < s.size := by omega
    have hlt' : i < (L s).length := by omega
    rw [spl_step b (L s) f i hlt' h1]
    have hw : wrap64 ((i : Int) + 1) = ((i + 1 : Nat) : Int) := by rw [w64 (by omega) (by omega)]; rfl
    by_cases e : (L s)[i] = b
    · rw [if_pos e]
      refine Ev.step (f := fun k => spec_l1Split.l0 k s (b.toNat : Int) (out ++ [s.extract f i]) ((i + 1 : Nat) : Int) ((i + 1 : Nat) : Int)) (fun k => ?_) (ev_eq (ih (out ++ [s.extract f i]) (i + 1) (i + 1) (by simp; omega) (by omega) (by omega) (by omega)) ?_)
      · simp only [spec_l1Split.l0]
        rw [if_pos (by omega), if_pos (by omega), if_pos (by rw [bt_get s i hlt, e]), if_pos (by omega), if_pos (by omega), if_pos (by omega), if_pos (by omega), hw]
        simp
      · rw [Nat.sub_self, List.take_zero, ahd_nil _ (spl_ne b _), List.append_assoc]
        congr 1
        simp
        apply L_inj
        rw [L_extract, L_mk]
    · rw [if_neg e]
      refine Ev.step (f := fun k => spec_l1Split.l0 k s (b.toNat : Int) out f ((i + 1 : Nat) : Int)) (fun k => ?_) (ih out f (i + 1) (by omega) (by omega) (by omega) (by omega))
      simp only [spec_l1Split.l0]
      rw [if_pos (by omega), if_pos (by omega), if_neg (by rw [bt_get s i hlt]; exact fun h => e (u8_inj h)), hw]
theorem split_ev (s : ByteArray) (b : UInt8) (hs : s.size ≤ 8796093022000) : Ev (fun k => spec_l1Split.f k s (b.toNat : Int)) ((spl b (L s)).map mkB) := by
  have := split_loop s b hs s.size [] 0 0 (by simp) (by omega) (by omega) (by omega)
  unfold spec_l1Split.f
  simpa [ahd_nil _ (spl_ne b _)] using this
def upD (c : Int) : Bool := decide (65 ≤ c) && decide (c ≤ 90)
def loD (c : Int) : Bool := decide (97 ≤ c) && decide (c ≤ 122)
def leD (c : Int) : Bool := upD c || loD c
def inD (n : Nat) : Bool := decide (1 ≤ n) && decide (n ≤ 12)
theorem spec_up (c : Int) : spec_l2Upper.f c = some (upD c) := by unfold spec_l2Upper.f upD; by_cases h : 65 ≤ c <;> simp [h]
theorem spec_lo (c : Int) : spec_l2Lower.f c = some (loD c) := by unfold spec_l2Lower.f loD; by_cases h : 97 ≤ c <;> simp [h]
theorem impl_up (c : Int) : impl_isUpper.f c = some (upD c) := by unfold impl_isUpper.f upD; by_cases h : 65 ≤ c <;> simp [h]
theorem impl_lo (c : Int) : impl_isLower.f c = some (loD c) := by unfold impl_isLower.f loD; by_cases h : 97 ≤ c <;> simp [h]
theorem spec_le (c : Int) : spec_l2Letter.f c = some (leD c) := by unfold spec_l2Letter.f leD; rw [spec_up, spec_lo]; cases upD c <;> simp
theorem impl_le (c : Int) : impl_isLetter.f c = some (leD c) := by unfold impl_isLetter.f leD; rw [impl_up, impl_lo]; cases upD c <;> simp
theorem in12 (n : Nat) : (if (n : Int) ≥ 1 then some (decide ((n : Int) ≤ 12)) else some false) = some (inD n) := by
  unfold inD
  by_cases h : 1 ≤ n
  · rw [if_pos (by omega)]
    congr 1
    rw [decide_eq_true h, Bool.true_and, decide_eq_decide]; omega
  · rw [if_neg (by omega)]; simp [h]
theorem spec_in (s : ByteArray) : spec_l1In.f (s.size : Int) 1 12 = some (inD s.size) := in12 s.size
theorem impl_in (s : ByteArray) : impl_inside.f (s.size : Int) 1 12 = some (inD s.size) := in12 s.size
theorem inD_iff {n : Nat} : inD n = true ↔ 1 ≤ n ∧ n ≤ 12 := by simp [inD]
def okD (s : ByteArray) (i : Nat) : Bool := leD (bt s i) || ((decide (bt s i = 45) || decide (bt s i = 39)) && leD (bt s ((i : Int) - 1)))
def wlD (s : ByteArray) : Nat → Nat → Bool
  | 0, _ => true
  | d + 1, i => okD s i && wlD s d (i + 1)
def wordD (s : ByteArray) : Bool := inD s.size && ((leD (bt s 0) && leD (bt s ((s.size : Int) - 1))) && wlD s (s.size - 1) 1)
def greatD (s : ByteArray) : Bool := wordD s && upD (bt s 0)
theorem word_step (s : ByteArray) (i k : Nat) (h1 : 1 ≤ i) (h2 : i < s.size) (h3 : s.size ≤ 12) : spec_l2Word.l0 (k + 1) s (i : Int) = if okD s i = true then spec_l2Word.l0 k s ((i + 1 : Nat) : Int) else some false := by
  have hw : wrap64 ((i : Int) + 1) = ((i + 1 : Nat) : Int) := by rw [w64 (by omega) (by omega)]; rfl
  have hw' : wrap64 ((i : Int) - 1) = (i : Int) - 1 := w64 (by omega) (by omega)
  have a1 : (0 : Int) ≤ (i : Int) - 1 := by omega
  have a2 : (i : Int) - 1 < (s.size : Int) := by omega
  simp only [spec_l2Word.l0]
  rw [if_pos (show (i : Int) < (s.size : Int) by omega), if_pos (show (0 : Int) ≤ (i : Int) by omega), spec_le, hw, hw']
  simp only [Option.bind_some, if_pos a1, if_pos a2, spec_le]
  unfold okD
  generalize ((i + 1 : Nat) : Int) = j
  cases leD (bt s i) <;> cases leD (bt s ((i : Int) - 1)) <;> by_cases c : bt s i = 45 <;> by_cases d : bt s i = 39 <;> simp [c, d]
theorem word_loop (s : ByteArray) (hs : s.size ≤ 12) (d : Nat) : ∀ i : Nat, 1 ≤ i → i ≤ s.size → s.size - i = d → Ev (fun k => spec_l2Word.l0 k s (i : Int)) (wlD s d i) := by
  induction d with
  | zero =>
    intro i h1 h2 hd
    refine Ev.step (f := fun _ => some true) (fun k => ?_) (Ev.now _)
    simp only [spec_l2Word.l0]; rw [if_neg (by omega)]
  | succ d ih =>
    intro i h1 h2 hd
    refine Ev.step (f := fun k => if okD s i = true then spec_l2Word.l0 k s ((i + 1 : Nat) : Int) else some false) (fun k => word_step s i k h1 (by omega) hs) ?_
    unfold wlD
    cases h : okD s i with
    | true => exact ev_pos rfl (ev_eq (ih (i + 1) (by omega) (by omega) (by omega)) (by simp))
    | false => exact ev_neg (by simp) (ev_eq (Ev.now _) (by simp))
theorem loops_eq (s : ByteArray) (k : Nat) : ∀ i : Int, impl_isNameWord.l0 k s i = spec_l2Word.l0 k s i := by
  induction k with
  | zero => intro i; simp [impl_isNameWord.l0, spec_l2Word.l0]
  | succ k ih => intro i; simp only [impl_isNameWord.l0, spec_l2Word.l0, impl_le, spec_le, ih]
theorem spec_word (s : ByteArray) : Ev (fun k => spec_l2Word.f k s) (wordD s) := by
  unfold spec_l2Word.f wordD
  cases h : inD s.size with
  | false =>
    refine Ev.step (f := fun _ => some false) (fun k => ?_) (ev_eq (Ev.now _) (by simp))
    simp only [spec_in, h, Option.bind_some, spec_l2Word.j0]; simp
  | true =>
    obtain ⟨h1, h2⟩ := inD_iff.1 h
    have hw : wrap64 ((s.size : Int) - 1) = (s.size : Int) - 1 := w64 (by omega) (by omega)
    refine Ev.step (f := fun k => if (leD (bt s 0) && leD (bt s ((s.size : Int) - 1))) = true then spec_l2Word.l0 k s ((1 : Nat) : Int) else some false) (fun k => ?_) ?_
    · have a1 : (0 : Int) < (s.size : Int) := by omega
      have a2 : (0 : Int) ≤ (s.size : Int) - 1 := by omega
      have a3 : (s.size : Int) - 1 < (s.size : Int) := by omega
      simp only [spec_in, h, Option.bind_some, if_pos a1, if_pos a2, if_pos a3, hw, spec_le, spec_l2Word.j0]
      cases leD (bt s 0) <;> cases leD (bt s ((s.size : Int) - 1)) <;> simp
    · cases h3 : (leD (bt s 0) && leD (bt s ((s.size : Int) - 1))) with
      | true => exact ev_pos rfl (ev_eq (word_loop s h2 (s.size - 1) 1 (by omega) (by omega) rfl) (by simp))
      | false => exact ev_neg (by simp) (ev_eq (Ev.now _) (by simp))
theorem impl_word (s : ByteArray) : Ev (fun k => impl_isNameWord.f k s) (wordD s) := by
  unfold impl_isNameWord.f wordD
  cases h : inD s.size with
  | false =>
    refine Ev.step (f := fun _ => some false) (fun k => ?_) (ev_eq (Ev.now _) (by simp))
    simp only [impl_in, h, Option.bind_some, impl_isNameWord.j0]; simp
  | true =>
    obtain ⟨h1, h2⟩ := inD_iff.1 h
    have hw : wrap64 ((s.size : Int) - 1) = (s.size : Int) - 1 := w64 (by omega) (by omega)
    refine Ev.step (f := fun k => if (leD (bt s 0) && leD (bt s ((s.size : Int) - 1))) = true then spec_l2Word.l0 k s ((0 : Nat) : Int) else some false) (fun k => ?_) ?_
    · have a1 : (0 : Int) < (s.size : Int) := by omega
      have a2 : (0 : Int) ≤ (s.size : Int) - 1 := by omega
      have a3 : (s.size : Int) - 1 < (s.size : Int) := by omega
      simp only [impl_in, h, Option.bind_some, if_pos a1, if_pos a2, if_pos a3, hw, impl_le, impl_isNameWord.j0, loops_eq]
      cases leD (bt s 0) <;> cases leD (bt s ((s.size : Int) - 1)) <;> simp
    · cases h3 : (leD (bt s 0) && leD (bt s ((s.size : Int) - 1))) with
      | true =>
        refine ev_pos rfl (Ev.step (f := fun k => spec_l2Word.l0 k s ((1 : Nat) : Int)) (fun k => ?_) (ev_eq (word_loop s h2 (s.size - 1) 1 (by omega) (by omega) rfl) (by simp)))
        have h0 : leD (bt s 0) = true := by simp at h3; exact h3.1
        simp only [spec_l2Word.l0]
        rw [if_pos (by omega), if_pos (by omega), spec_le, show ((0 : Nat) : Int) = 0 from rfl, h0, w64 (by omega) (by omega)]
        simp
      | false => exact ev_neg (by simp) (ev_eq (Ev.now _) (by simp))
theorem word_in {s : ByteArray} (h : wordD s = true) : 1 ≤ s.size ∧ s.size ≤ 12 := by
  unfold wordD at h
  cases hi : inD s.size with
  | true => exact inD_iff.1 hi
  | false => rw [hi] at h; simp at h
theorem impl_great (s : ByteArray) : Ev (fun k => impl_isGreatWord.f k s) (greatD s) := by
  unfold impl_isGreatWord.f greatD
  refine Ev.bind (impl_word s) ?_
  cases h : wordD s with
  | true =>
    have := word_in h
    refine ev_pos rfl (ev_pos (by omega) (ev_eq (Ev.congr (f := fun _ => some (upD (bt s 0))) (fun k => by rw [impl_up]; rfl) (Ev.now _)) (by simp)))
  | false => exact ev_neg (by simp) (ev_eq (Ev.now _) (by simp))
def lowF (s : ByteArray) (j : Nat) : Bool := ((L s).drop j).all fun b => loD (b.toNat : Int)
def lowD (s : ByteArray) : Bool := lowF s 0
def wsD (l : List ByteArray) : Bool := l.all fun w => inD w.size && lowD w
theorem lowF_step (s : ByteArray) (j : Nat) (h : j < s.size) : lowF s j = (loD (bt s j) && lowF s (j + 1)) := by
  unfold lowF
  have hl : j < (L s).length := by rw [L_len]; exact h
  rw [List.drop_eq_getElem_cons hl, List.all_cons, bt_get s j h]
theorem lowF_end (s : ByteArray) (j : Nat) (h : s.size ≤ j) : lowF s j = true := by
  unfold lowF
  rw [List.drop_of_length_le (by rw [L_len]; exact h)]; rfl
theorem low_all (s : ByteArray) (h : lowD s = true) (j : Nat) (hj : j < s.size) : leD (bt s j) = true := by
  have hl : j < (L s).length := by rw [L_len]; exact hj
  have := List.all_eq_true.1 h _ (by rw [List.drop_zero]; exact List.getElem_mem hl)
  rw [bt_get s j hj]
  unfold leD
  rw [this]; simp
theorem wl_low (s : ByteArray) (h : lowD s = true) (d : Nat) : ∀ i, i + d ≤ s.size → wlD s d i = true := by
  induction d with
  | zero => intro i _; rfl
  | succ d ih =>
    intro i hi
    unfold wlD okD
    rw [low_all s h i (by omega), ih (i + 1) (by omega)]; rfl
theorem word_low (s : ByteArray) : (wordD s && lowD s) = (inD s.size && lowD s) := by
  cases h : lowD s with
  | false => simp
  | true =>
    unfold wordD
    cases hi : inD s.size with
    | false => simp
    | true =>
      obtain ⟨h1, h2⟩ := inD_iff.1 hi
      have e1 := low_all s h 0 (by omega)
      have e2 := low_all s h (s.size - 1) (by omega)
      rw [show ((s.size - 1 : Nat) : Int) = (s.size : Int) - 1 by omega] at e2
      rw [show ((0 : Nat) : Int) = 0 from rfl] at e1
      rw [e1, e2, wl_low s h (s.size - 1) 1 (by omega)]; rfl
theorem rd_get (l : List ByteArray) (i : Nat) (h : i < l.length) : rdOf ByteArray.empty l (i : Int) = l[i] := by simp [rdOf, h]
theorem spec_inner (ws : List ByteArray) (i : Nat) (hi : i < ws.length) (hs : (ws[i]).size ≤ 12) (hl : ws.length ≤ 4611686018427387904) (T : Bool) (hT : Ev (fun k => spec_l2Particle.l0 k ws ((i + 1 : Nat) : Int)) T) (d : Nat) : ∀ j : Nat, j ≤ (ws[i]).size → (ws[i]).size - j = d →
    Ev (fun k => spec_l2Particle.l1 k ws (i : Int) (j : Int)) (lowF ws[i] j && T) := by
  have hw : wrap64 ((i : Int) + 1) = ((i + 1 : Nat) : Int) := by rw [w64 (by omega) (by omega)]; rfl
  induction d with
  | zero =>
    intro j h1 hd
    refine Ev.step (f := fun k => spec_l2Particle.l0 k ws ((i + 1 : Nat) : Int)) (fun k => ?_) (ev_eq hT (by rw [lowF_end _ _ (by omega)]; simp))
    simp only [spec_l2Particle.l1, rd_get ws i hi]
    rw [if_pos (by omega), if_pos (by omega), if_neg (by omega), hw]
  | succ d ih =>
    intro j h1 hd
    rw [lowF_step _ j (by omega)]
    have hw' : wrap64 ((j : Int) + 1) = ((j + 1 : Nat) : Int) := by rw [w64 (by omega) (by omega)]; rfl
    refine Ev.step (f := fun k => if loD (bt ws[i] (j : Int)) = true then spec_l2Particle.l1 k ws (i : Int) ((j + 1 : Nat) : Int) else some false) (fun k => ?_) ?_
    · simp only [spec_l2Particle.l1, rd_get ws i hi]
      rw [if_pos (by omega), if_pos (by omega), if_pos (by omega), if_pos (by omega), hw', spec_lo]; rfl
    · cases h : loD (bt ws[i] (j : Int)) with
      | true => exact ev_pos rfl (ev_eq (ih (j + 1) (by omega) (by omega)) (by simp))
      | false => exact ev_neg (by simp) (ev_eq (Ev.now _) (by simp))
theorem spec_outer (ws : List ByteArray) (hl : ws.length ≤ 4611686018427387904) (d : Nat) : ∀ i : Nat, i ≤ ws.length → ws.length - i = d →
    Ev (fun k => spec_l2Particle.l0 k ws (i : Int)) (wsD (ws.drop i) && decide (ws.length ≤ 2)) := by
  induction d with
  | zero =>
    intro i h1 hd
    refine Ev.step (f := fun k => some (decide ((ws.length : Int) ≤ 2))) (fun k => ?_) (ev_eq (Ev.now _) ?_)
    · simp only [spec_l2Particle.l0]; rw [if_neg (by omega)]
    · rw [List.drop_of_length_le (by omega)]
      show decide _ = (true && decide _)
      rw [Bool.true_and, decide_eq_decide]; omega
  | succ d ih =>
    intro i h1 hd
    have hi : i < ws.length := by omega
    refine Ev.step (f := fun k => (spec_l2Word.f k ws[i]).bind fun t => if t = true then spec_l2Particle.l1 k ws (i : Int) ((0 : Nat) : Int) else some false) (fun k => ?_) ?_
    · simp only [spec_l2Particle.l0, rd_get ws i hi]
      rw [if_pos (by omega), if_pos (by omega)]; rfl
    · refine Ev.bind (spec_word _) ?_
      have e : (wsD (ws.drop i) && decide (ws.length ≤ 2)) = ((wordD ws[i] && lowD ws[i]) && (wsD (ws.drop (i + 1)) && decide (ws.length ≤ 2))) := by
        rw [word_low, List.drop_eq_getElem_cons hi]
        simp only [wsD, List.all_cons, Bool.and_assoc]
      rw [e]
      cases h : wordD ws[i] with
      | true => exact ev_pos rfl (ev_eq (spec_inner ws i hi (word_in h).2 hl _ (ih (i + 1) (by omega) (by omega)) _ 0 (by omega) rfl) (by simp [lowD]))
      | false => exact ev_neg (by simp) (ev_eq (Ev.now _) (by simp))
theorem impl_inner (ws ws' : List ByteArray) (n i : Nat) (w : ByteArray) (hi : i < 4611686018427387904) (hs : w.size ≤ 12) (T : Bool) (hT : Ev (fun k => impl_isParticle.l0 k ws ws' (n : Int) ((i + 1 : Nat) : Int)) T) (d : Nat) : ∀ j : Nat, j ≤ w.size → w.size - j = d →
    Ev (fun k => impl_isParticle.l1 k ws w (j : Int) ws' (n : Int) (i : Int)) (lowF w j && T) := by
  have hw : wrap64 ((i : Int) + 1) = ((i + 1 : Nat) : Int) := by rw [w64 (by omega) (by omega)]; rfl
  induction d with
  | zero =>
    intro j h1 hd
    refine Ev.step (f := fun k => impl_isParticle.l0 k ws ws' (n : Int) ((i + 1 : Nat) : Int)) (fun k => ?_) (ev_eq hT (by rw [lowF_end _ _ (by omega)]; simp))
    simp only [impl_isParticle.l1]
    rw [if_neg (by omega), hw]
  | succ d ih =>
    intro j h1 hd
    rw [lowF_step _ j (by omega)]
    have hw' : wrap64 ((j : Int) + 1) = ((j + 1 : Nat) : Int) := by rw [w64 (by omega) (by omega)]; rfl
    refine Ev.step (f := fun k => if loD (bt w (j : Int)) = true then impl_isParticle.l1 k ws w ((j + 1 : Nat) : Int) ws' (n : Int) (i : Int) else some false) (fun k => ?_) ?_
    · simp only [impl_isParticle.l1]
      rw [if_pos (by omega), if_pos (by omega), hw', impl_lo]; rfl
    · cases h : loD (bt w (j : Int)) with
      | true => exact ev_pos rfl (ev_eq (ih (j + 1) (by omega) (by omega)) (by simp))
      | false => exact ev_neg (by simp) (ev_eq (Ev.now _) (by simp))
theorem impl_outer (ws : List ByteArray) (hl : ws.length ≤ 4611686018427387904) (d : Nat) : ∀ i : Nat, i ≤ ws.length → ws.length - i = d →
    Ev (fun k => impl_isParticle.l0 k ws ws (ws.length : Int) (i : Int)) (wsD (ws.drop i) && decide (ws.length ≤ 2)) := by
  induction d with
  | zero =>
    intro i h1 hd
    refine Ev.step (f := fun k => some (decide ((ws.length : Int) ≤ 2))) (fun k => ?_) (ev_eq (Ev.now _) ?_)
    · simp only [impl_isParticle.l0]; rw [if_neg (by omega)]
    · rw [List.drop_of_length_le (by omega)]
      show decide _ = (true && decide _)
      rw [Bool.true_and, decide_eq_decide]; omega
  | succ d ih =>
    intro i h1 hd
    have hi : i < ws.length := by omega
    have e : (wsD (ws.drop i) && decide (ws.length ≤ 2)) = (inD (ws[i]).size && (lowD ws[i] && (wsD (ws.drop (i + 1)) && decide (ws.length ≤ 2)))) := by
      rw [List.drop_eq_getElem_cons hi]
      simp only [wsD, List.all_cons, Bool.and_assoc]
    rw [e]
    refine Ev.step (f := fun k => if inD (ws[i]).size = true then impl_isParticle.l1 k ws ws[i] ((0 : Nat) : Int) ws (ws.length : Int) (i : Int) else some false) (fun k => ?_) ?_
    · simp only [impl_isParticle.l0, rd_get ws i hi]
      rw [if_pos (by omega), if_pos (by omega), if_pos (by omega), impl_in]; rfl
    · cases h : inD (ws[i]).size with
      | true => exact ev_pos rfl (ev_eq (impl_inner ws ws ws.length i ws[i] (by omega) (inD_iff.1 h).2 _ (ih (i + 1) (by omega) (by omega)) _ 0 (by omega) rfl) (by simp [lowD]))
      | false => exact ev_neg (by simp) (ev_eq (Ev.now _) (by simp))
def wordsOf (s : ByteArray) : List ByteArray := (spl 32 (L s)).map mkB
def partD (s : ByteArray) : Bool := decide (s.size = 0) || (wsD (wordsOf s) && decide ((wordsOf s).length ≤ 2))
theorem wordsOf_len (s : ByteArray) : (wordsOf s).length ≤ s.size + 1 := by
  have := spl_length 32 (L s)
  rw [L_len] at this
  unfold wordsOf
  rw [List.length_map]; exact this
theorem nil_iff (s : ByteArray) : s.toList = ([] : List UInt8) ↔ s.size = 0 := by rw [toList_L, size_pos_iff]
theorem split_sp (s : ByteArray) (c : UInt8) (hs : s.size ≤ 4294967280) : strings_Split.f s (⟨#[c]⟩ : ByteArray) = some ((spl c (L s)).map mkB) := by
  have e : (⟨#[c]⟩ : ByteArray) = mkB [c] := rfl
  have h1 : (mkB [c]).size = 1 := by rw [size_mk]; rfl
  have hc := Lib.countB_le (mkB [c]) (by omega) s.size s (Nat.le_refl _)
  unfold strings_Split.f
  rw [e, if_pos ⟨by omega, by omega, Lib.splitB_all (mkB [c]) (by omega) 0 _ s rfl, by omega⟩, splitB_eq]
theorem spec_part (s : ByteArray) (hs : s.size ≤ 4294967280) : Ev (fun k => spec_l2Particle.f k s) (partD s) := by
  unfold spec_l2Particle.f partD
  by_cases h : s.size = 0
  · exact ev_pos ((nil_iff s).2 h) (ev_eq (Ev.now _) (by simp [h]))
  · refine ev_neg (fun e => h ((nil_iff s).1 e)) (Ev.bind (split_ev s 32 (by omega)) (ev_eq (spec_outer (wordsOf s) (by have := wordsOf_len s; omega) _ 0 (by omega) rfl) ?_))
    simp [h]
theorem impl_part (s : ByteArray) (hs : s.size ≤ 4294967280) : Ev (fun k => impl_isParticle.f k s) (partD s) := by
  unfold impl_isParticle.f partD
  by_cases h : s.size = 0
  · exact ev_pos ((nil_iff s).2 h) (ev_eq (Ev.now _) (by simp [h]))
  · refine ev_neg (fun e => h ((nil_iff s).1 e)) (ev_bind0 (split_sp s 32 hs) (ev_eq (impl_outer (wordsOf s) (by have := wordsOf_len s; omega) _ 0 (by omega) rfl) ?_))
    simp [h]
def rngD (c : Int) : Bool := decide (32 ≤ c) && decide (c ≤ 126)
def rngF (s : ByteArray) : Nat → Nat → Bool
  | 0, _ => true
  | d + 1, i => rngD (bt s (i : Int)) && rngF s d (i + 1)
def edgeD (s : ByteArray) : Bool := !decide (bt s 0 = 32) && !decide (bt s ((s.size : Int) - 1) = 32)
theorem trimR (n : Nat) : ∀ s : ByteArray, s.size = n → n ≤ 4611686018427387904 → ∃ t, Ev (fun k => strings_trimRightByte.f k s 32) t ∧ t.size ≤ n ∧ (1 ≤ n → bt s ((n : Int) - 1) = 32 → t.size < n) ∧ ((n = 0 ∨ bt s ((n : Int) - 1) ≠ 32) → t = s) := by
  induction n with
  | zero =>
    intro s hs hb
    refine ⟨s, Ev.step (f := fun _ => some s) (fun k => ?_) (Ev.now _), by omega, fun h => by omega, fun _ => rfl⟩
    simp only [strings_trimRightByte.f, strings_trimRightByte.l0]; rw [if_neg (by omega)]
  | succ n ih =>
    intro s hs hb
    have hw : wrap64 ((s.size : Int) - 1) = (n : Int) := by rw [w64 (by omega) (by omega)]; omega
    have e0 : ((n + 1 : Nat) : Int) - 1 = (n : Int) := by omega
    rw [e0]
    by_cases c : bt s (n : Int) = 32
    · have hs' : (s.extract 0 n).size = n := by rw [ByteArray.size_extract]; omega
      obtain ⟨t, ht, h1, _, _⟩ := ih (s.extract 0 n) hs' (by omega)
      refine ⟨t, Ev.step (f := fun k => strings_trimRightByte.f k (s.extract 0 n) 32) (fun k => ?_) ht, by omega, fun _ _ => by omega, fun h => ?_⟩
      · simp only [strings_trimRightByte.f, strings_trimRightByte.l0, hw]
        rw [if_pos (by omega), if_pos (by omega), if_pos (by omega), if_pos c, if_pos (by omega), Int.toNat_natCast]
      · rcases h with h | h
        · omega
        · exact absurd c h
    · refine ⟨s, Ev.step (f := fun _ => some s) (fun k => ?_) (Ev.now _), by omega, fun _ h => absurd h c, fun _ => rfl⟩
      simp only [strings_trimRightByte.f, strings_trimRightByte.l0, hw]
      rw [if_pos (by omega), if_pos (by omega), if_pos (by omega), if_neg c]
theorem trimL (n : Nat) : ∀ s : ByteArray, s.size = n → n ≤ 4611686018427387904 → ∃ t, Ev (fun k => strings_trimLeftByte.f k s 32) t ∧ t.size ≤ n ∧ (1 ≤ n → bt s 0 = 32 → t.size < n) ∧ ((n = 0 ∨ bt s 0 ≠ 32) → t = s) := by
  induction n with
  | zero =>
    intro s hs hb
    refine ⟨s, Ev.step (f := fun _ => some s) (fun k => ?_) (Ev.now _), by omega, fun h => by omega, fun _ => rfl⟩
    simp only [strings_trimLeftByte.f, strings_trimLeftByte.l0]; rw [if_neg (by omega)]
  | succ n ih =>
    intro s hs hb
    by_cases c : bt s 0 = 32
    · have hs' : (s.extract 1 s.size).size = n := by rw [ByteArray.size_extract]; omega
      obtain ⟨t, ht, h1, _, _⟩ := ih (s.extract 1 s.size) hs' (by omega)
      refine ⟨t, Ev.step (f := fun k => strings_trimLeftByte.f k (s.extract 1 s.size) 32) (fun k => ?_) ht, by omega, fun _ _ => by omega, fun h => ?_⟩
      · simp only [strings_trimLeftByte.f, strings_trimLeftByte.l0]
        rw [if_pos (by omega), if_pos (by omega), if_pos c, if_pos (by omega)]
      · rcases h with h | h
        · omega
        · exact absurd c h
    · refine ⟨s, Ev.step (f := fun _ => some s) (fun k => ?_) (Ev.now _), by omega, fun _ h => absurd h c, fun _ => rfl⟩
      simp only [strings_trimLeftByte.f, strings_trimLeftByte.l0]
      rw [if_pos (by omega), if_pos (by omega), if_neg c]
theorem trim_ev (s : ByteArray) (h1 : 1 ≤ s.size) (h2 : s.size ≤ 4611686018427387904) : ∃ t, Ev (fun k => strings_Trim.f k s (⟨#[32]⟩ : ByteArray)) t ∧ (t.toList == s.toList) = edgeD s := by
  obtain ⟨t1, ht1, ha, hb, hc⟩ := trimR s.size s rfl h2
  obtain ⟨t2, ht2, ha', hb', hc'⟩ := trimL t1.size t1 rfl (by omega)
  refine ⟨t2, ?_, ?_⟩
  · unfold strings_Trim.f
    have hz : ¬ s.toList = ([] : List UInt8) := fun e => by rw [toList_L] at e; have := (size_pos_iff s).2 e; omega
    refine ev_neg hz ?_
    have e1 : ((⟨#[32]⟩ : ByteArray).toList == ([] : List UInt8)) = false := by rw [toList_L]; rfl
    have e2 : ((⟨#[32]⟩ : ByteArray).size : Int) = 1 := rfl
    have e3 : bt (⟨#[32]⟩ : ByteArray) 0 = 32 := rfl
    rw [e1]
    refine Ev.step (f := fun k => strings_Trim.j1 k s (⟨#[32]⟩ : ByteArray) true) (fun k => ?_) (Ev.step (f := fun k => (strings_trimRightByte.f k s 32).bind fun t => (strings_trimLeftByte.f k t 32).bind fun u => some u) (fun k => ?_) (Ev.bind ht1 (Ev.bind ht2 (Ev.now _))))
    · simp only [strings_Trim.j0]
      rw [if_neg (by simp), e2, if_pos rfl, if_pos (by omega), e3]; rfl
    · simp only [strings_Trim.j1]
      rw [if_pos trivial, e2, if_pos (by omega), e3]
  · unfold edgeD
    by_cases c : bt s ((s.size : Int) - 1) = 32
    · have : t2.size < s.size := by have := hb h1 c; omega
      have ne : ¬ t2.toList = s.toList := fun e => by have := toList_eq_iff.1 e; subst this; omega
      rw [show (t2.toList == s.toList) = false by simpa using ne]; simp [c]
    · have e := hc (Or.inr c)
      subst e
      by_cases c0 : bt t1 0 = 32
      · have h3 := hb' h1 c0
        have ne : ¬ t2.toList = t1.toList := fun e => by have := toList_eq_iff.1 e; subst this; omega
        rw [show (t2.toList == t1.toList) = false by simpa using ne]; simp [c0]
      · have e := hc' (Or.inr c0)
        subst e
        simp [c, c0]
theorem print_loop (s : ByteArray) (h1 : 1 ≤ s.size) (h2 : s.size ≤ 100) (d : Nat) : ∀ i : Nat, i ≤ s.size → s.size - i = d →
    Ev (fun k => impl_isPrintable.l0 k s (i : Int)) (rngF s d i && edgeD s) := by
  induction d with
  | zero =>
    intro i hi hd
    obtain ⟨t, ht, e⟩ := trim_ev s h1 (by omega)
    refine Ev.step (f := fun k => (strings_Trim.f k s (⟨#[32]⟩ : ByteArray)).bind fun t231 => (some (t231.toList == s.toList))) (fun k => ?_) (Ev.bind ht (ev_eq (Ev.now _) (by rw [e]; simp [rngF])))
    simp only [impl_isPrintable.l0]; rw [if_neg (by omega)]
  | succ d ih =>
    intro i hi hd
    have hw : wrap64 ((i : Int) + 1) = ((i + 1 : Nat) : Int) := by rw [w64 (by omega) (by omega)]; rfl
    refine Ev.step (f := fun k => if rngD (bt s (i : Int)) = true then impl_isPrintable.l0 k s ((i + 1 : Nat) : Int) else some false) (fun k => ?_) ?_
    · simp only [impl_isPrintable.l0]
      rw [if_pos (by omega), if_pos (by omega), hw]
      unfold rngD
      by_cases c1 : bt s (i : Int) < 32
      · rw [if_pos c1, if_neg (by simp; omega)]
      · rw [if_neg c1]
        by_cases c2 : bt s (i : Int) > 126
        · rw [if_pos c2, if_neg (by simp; omega)]
        · rw [if_neg c2, if_pos (by simp; omega)]
    · unfold rngF
      cases h : rngD (bt s (i : Int)) with
      | true => exact ev_pos rfl (ev_eq (ih (i + 1) (by omega) (by omega)) (by simp))
      | false => exact ev_neg (by simp) (ev_eq (Ev.now _) (by simp))
theorem trim_nil (s : ByteArray) (h : s.size = 0) : Ev (fun k => strings_Trim.f k s (⟨#[32]⟩ : ByteArray)) s := by
  unfold strings_Trim.f
  refine ev_pos ((nil_iff s).2 h) (Ev.step (f := fun _ => some s) (fun k => ?_) (Ev.now _))
  simp only [strings_Trim.j0]
  rw [if_pos trivial]
def textD (s : ByteArray) : Bool := decide (s.size ≤ 40) && (decide (s.size = 0) || (rngF s s.size 0 && edgeD s))
theorem impl_text (s : ByteArray) : Ev (fun k => impl_isText.f k s) (textD s) := by
  unfold impl_isText.f textD
  by_cases h : s.size ≤ 40
  · refine ev_pos (by omega) ?_
    unfold impl_isPrintable.f
    by_cases h0 : s.size = 0
    · refine Ev.bind (a := true) ?_ (ev_eq (Ev.now _) (by simp [h, h0]))
      refine Ev.step (f := fun k => (strings_Trim.f k s (⟨#[32]⟩ : ByteArray)).bind fun t231 => (some (t231.toList == s.toList))) (fun k => ?_) (Ev.bind (trim_nil s h0) (ev_eq (Ev.now _) (by simp)))
      simp only [impl_isPrintable.l0]; rw [if_neg (by omega)]
    · exact Ev.bind (print_loop s (by omega) (by omega) _ 0 (by omega) rfl) (ev_eq (Ev.now _) (by simp [h, h0]))
  · exact ev_neg (by omega) (ev_eq (Ev.now _) (by simp [h]))
theorem spec_text_end (s : ByteArray) (h2 : s.size ≤ 40) : Ev (fun k => spec_l4Text.l0 k s (s.size : Int)) (decide (s.size = 0) || edgeD s) := by
  refine Ev.step (f := fun _ => some (decide (s.size = 0) || edgeD s)) (fun k => ?_) (Ev.now _)
  simp only [spec_l4Text.l0]
  rw [if_neg (by omega)]
  by_cases h0 : s.size = 0
  · rw [if_pos ((nil_iff s).2 h0)]; simp [h0]
  · have hw : wrap64 ((s.size : Int) - 1) = (s.size : Int) - 1 := w64 (by omega) (by omega)
    rw [if_neg (fun e => h0 ((nil_iff s).1 e)), if_pos (by omega)]
    unfold edgeD
    by_cases c : bt s 0 = 32
    · rw [if_pos c]; simp [c, h0]
    · rw [if_neg c, hw, if_pos (by omega), if_pos (by omega)]
      by_cases e : bt s ((s.size : Int) - 1) = 32
      · rw [e]; simp [h0]
      · rw [show (bt s ((s.size : Int) - 1) != 32) = true from bne_iff_ne.2 e]; simp [c, e, h0]
theorem spec_text_loop (s : ByteArray) (h2 : s.size ≤ 40) (d : Nat) : ∀ i : Nat, i ≤ s.size → s.size - i = d →
    Ev (fun k => spec_l4Text.l0 k s (i : Int)) (rngF s d i && (decide (s.size = 0) || edgeD s)) := by
  induction d with
  | zero =>
    intro i hi hd
    obtain rfl : i = s.size := by omega
    exact ev_eq (spec_text_end s h2) (by simp [rngF])
  | succ d ih =>
    intro i hi hd
    have hw : wrap64 ((i : Int) + 1) = ((i + 1 : Nat) : Int) := by rw [w64 (by omega) (by omega)]; rfl
    refine Ev.step (f := fun k => if rngD (bt s (i : Int)) = true then spec_l4Text.l0 k s ((i + 1 : Nat) : Int) else some false) (fun k => ?_) ?_
    · simp only [spec_l4Text.l0]
      rw [if_pos (by omega), if_pos (by omega), hw]
      unfold rngD
      by_cases c1 : bt s (i : Int) < 32
      · rw [if_pos c1, if_neg (by simp; omega)]
      · rw [if_neg c1]
        by_cases c2 : bt s (i : Int) > 126
        · rw [if_pos c2, if_neg (by simp; omega)]
        · rw [if_neg c2, if_pos (by simp; omega)]
    · unfold rngF
      cases h : rngD (bt s (i : Int)) with
      | true => exact ev_pos rfl (ev_eq (ih (i + 1) (by omega) (by omega)) (by simp))
      | false => exact ev_neg (by simp) (ev_eq (Ev.now _) (by simp))
theorem spec_text (s : ByteArray) : Ev (fun k => spec_l4Text.f k s) (textD s) := by
  unfold spec_l4Text.f textD
  by_cases h : s.size ≤ 40
  · refine ev_neg (by omega) (ev_eq (spec_text_loop s h _ 0 (by omega) rfl) ?_)
    by_cases h0 : s.size = 0
    · rw [h0]; simp [rngF]
    · simp [h, h0]
  · exact ev_pos (by omega) (ev_eq (Ev.now _) (by simp [h]))
def digD (c : Int) : Bool := decide (48 ≤ c) && decide (c ≤ 57)
def keyC (c : Int) : Bool := loD c || digD c
def keyF (s : ByteArray) : Nat → Nat → Bool
  | 0, _ => true
  | d + 1, i => keyC (bt s (i : Int)) && keyF s d (i + 1)
def inK (n : Nat) : Bool := decide (1 ≤ n) && decide (n ≤ 10)
def keyD (s : ByteArray) : Bool := inK s.size && (loD (bt s 0) && keyF s s.size 0)
theorem in10 (n : Nat) : (if (n : Int) ≥ 1 then some (decide ((n : Int) ≤ 10)) else some false) = some (inK n) := by
  unfold inK
  by_cases h : 1 ≤ n
  · rw [if_pos (by omega)]
    congr 1
    rw [decide_eq_true h, Bool.true_and, decide_eq_decide]; omega
  · rw [if_neg (by omega)]; simp [h]
theorem inK_iff {n : Nat} : inK n = true ↔ 1 ≤ n ∧ n ≤ 10 := by simp [inK]
theorem impl_dig (c : Int) : impl_isDigit.f c = some (digD c) := by unfold impl_isDigit.f digD; by_cases h : 48 ≤ c <;> simp [h]
theorem spec_key_loop (s : ByteArray) (h2 : s.size ≤ 10) (d : Nat) : ∀ i : Nat, i ≤ s.size → s.size - i = d → Ev (fun k => spec_l4Key.l0 k s (i : Int)) (keyF s d i) := by
  induction d with
  | zero =>
    intro i hi hd
    refine Ev.step (f := fun _ => some true) (fun k => ?_) (Ev.now _)
    simp only [spec_l4Key.l0]; rw [if_neg (by omega)]
  | succ d ih =>
    intro i hi hd
    have hw : wrap64 ((i : Int) + 1) = ((i + 1 : Nat) : Int) := by rw [w64 (by omega) (by omega)]; rfl
    refine Ev.step (f := fun k => if keyC (bt s (i : Int)) = true then spec_l4Key.l0 k s ((i + 1 : Nat) : Int) else some false) (fun k => ?_) ?_
    · simp only [spec_l4Key.l0]
      rw [if_pos (by omega), if_pos (by omega), hw, spec_lo]
      simp only [Option.bind_some]
      unfold keyC
      cases loD (bt s (i : Int)) with
      | true => rw [if_pos rfl, Bool.true_or, if_pos rfl]
      | false =>
        rw [if_neg (by simp)]
        unfold digD
        by_cases c1 : bt s (i : Int) < 48
        · rw [if_pos c1, if_neg (by simp; omega)]
        · rw [if_neg c1]
          by_cases c2 : bt s (i : Int) > 57
          · rw [if_pos c2, if_neg (by simp; omega)]
          · rw [if_neg c2, if_pos (by simp; omega)]
    · unfold keyF
      cases h : keyC (bt s (i : Int)) with
      | true => exact ev_pos rfl (ev_eq (ih (i + 1) (by omega) (by omega)) (by simp))
      | false => exact ev_neg (by simp) (ev_eq (Ev.now _) (by simp))
theorem impl_key_loop (s : ByteArray) (h2 : s.size ≤ 10) (d : Nat) : ∀ i : Nat, i ≤ s.size → s.size - i = d → Ev (fun k => impl_isKey.l0 k s (i : Int)) (keyF s d i) := by
  induction d with
  | zero =>
    intro i hi hd
    refine Ev.step (f := fun _ => some true) (fun k => ?_) (Ev.now _)
    simp only [impl_isKey.l0]; rw [if_neg (by omega)]
  | succ d ih =>
    intro i hi hd
    have hw : wrap64 ((i : Int) + 1) = ((i + 1 : Nat) : Int) := by rw [w64 (by omega) (by omega)]; rfl
    refine Ev.step (f := fun k => if keyC (bt s (i : Int)) = true then impl_isKey.l0 k s ((i + 1 : Nat) : Int) else some false) (fun k => ?_) ?_
    · simp only [impl_isKey.l0]
      rw [if_pos (by omega), if_pos (by omega), hw, impl_lo]
      simp only [Option.bind_some]
      unfold keyC
      cases loD (bt s (i : Int)) with
      | true => rw [if_pos rfl, Bool.true_or, if_pos rfl]
      | false =>
        rw [if_neg (by simp), impl_dig]
        simp only [Option.bind_some, Bool.false_or]
    · unfold keyF
      cases h : keyC (bt s (i : Int)) with
      | true => exact ev_pos rfl (ev_eq (ih (i + 1) (by omega) (by omega)) (by simp))
      | false => exact ev_neg (by simp) (ev_eq (Ev.now _) (by simp))
theorem spec_key (s : ByteArray) : Ev (fun k => spec_l4Key.f k s) (keyD s) := by
  have hj1 : Ev (fun k => spec_l4Key.j0 k s true) false := Ev.step (f := fun _ => some false) (fun k => by simp [spec_l4Key.j0]) (Ev.now _)
  unfold spec_l4Key.f spec_l1In.f keyD
  rw [in10]
  refine Ev.bind (a := inK s.size) (Ev.now _) ?_
  cases h : inK s.size with
  | false => exact ev_neg (by simp) (ev_eq hj1 (by simp))
  | true =>
    obtain ⟨h1, h2⟩ := inK_iff.1 h
    refine ev_pos rfl (ev_pos (by omega) (ev_bind0 (spec_lo _) ?_))
    cases loD (bt s 0) with
    | false => exact ev_eq hj1 (by simp)
    | true => exact Ev.step (f := fun k => spec_l4Key.l0 k s ((0 : Nat) : Int)) (fun k => by simp [spec_l4Key.j0]) (ev_eq (spec_key_loop s h2 _ 0 (by omega) rfl) (by simp))
theorem impl_key (s : ByteArray) : Ev (fun k => impl_isKey.f k s) (keyD s) := by
  have hj1 : Ev (fun k => impl_isKey.j0 k s true) false := Ev.step (f := fun _ => some false) (fun k => by simp [impl_isKey.j0]) (Ev.now _)
  unfold impl_isKey.f impl_inside.f keyD
  rw [in10]
  refine Ev.bind (a := inK s.size) (Ev.now _) ?_
  cases h : inK s.size with
  | false => exact ev_neg (by simp) (ev_eq hj1 (by simp))
  | true =>
    obtain ⟨h1, h2⟩ := inK_iff.1 h
    refine ev_pos rfl (ev_pos (by omega) (ev_bind0 (impl_lo _) ?_))
    cases loD (bt s 0) with
    | false => exact ev_eq hj1 (by simp)
    | true => exact Ev.step (f := fun k => impl_isKey.l0 k s ((0 : Nat) : Int)) (fun k => by simp [impl_isKey.j0]) (ev_eq (impl_key_loop s h2 _ 0 (by omega) rfl) (by simp))
def bytesS (l : List ByteArray) : Nat := (l.map (·.size)).sum
def bulkS (l : List ByteArray) : Nat := l.length + bytesS l
theorem bytesS_cons (a : ByteArray) (l : List ByteArray) : bytesS (a :: l) = a.size + bytesS l := by simp [bytesS]
def lftOf (left : Int) (n : Nat) : Int := if (n : Int) ≤ left then left - n else -1
theorem szS_loop (l : List ByteArray) (hb : ∀ s ∈ l, s.size ≤ 9223372036854775807) (hl : l.length ≤ 9223372036854775807) (d : Nat) : ∀ (left : Int) (i : Nat), 0 ≤ left → left ≤ 4611686018427387904 → l.length - i = d → i ≤ l.length →
    Ev (fun k => laws_szStringS.l0 k l left i) (lftOf left (bytesS (l.drop i))) := by
  induction d with
  | zero =>
    intro left i h0 h1 hd hi
    refine Ev.step (f := fun _ => some left) (fun k => ?_) (ev_eq (Ev.now _) ?_)
    · simp only [laws_szStringS.l0]; rw [if_neg (by omega)]
    · rw [List.drop_of_length_le (by omega)]; simp [lftOf, bytesS]; omega
  | succ d ih =>
    intro left i h0 h1 hd hi
    have hlt : i < l.length := by omega
    have hs := hb l[i] (List.getElem_mem hlt)
    have hr : rdOf ByteArray.empty l (i : Int) = l[i] := by simp [rdOf, hlt]
    have hw : wrap64 (left - (l[i].size : Int)) = left - (l[i].size : Int) := w64 (by omega) (by omega)
    rw [List.drop_eq_getElem_cons hlt, bytesS_cons]
    by_cases hn : left - (l[i].size : Int) < 0
    · refine Ev.step (f := fun _ => some (-1)) (fun k => ?_) (ev_eq (Ev.now _) ?_)
      · simp only [laws_szStringS.l0]; rw [if_pos (by omega), if_pos (by omega), hr, hw, if_pos hn]
      · unfold lftOf; rw [if_neg (by omega)]
    · refine Ev.step (f := fun k => laws_szStringS.l0 k l (left - (l[i].size : Int)) ((i + 1 : Nat) : Int)) (fun k => ?_) (ev_eq (ih (left - (l[i].size : Int)) (i + 1) (by omega) (by omega) (by omega) (by omega)) ?_)
      · simp only [laws_szStringS.l0]; rw [if_pos (by omega), if_pos (by omega), hr, hw, if_neg hn, w64 (x := (i : Int) + 1) (by omega) (by omega)]; rfl
      · unfold lftOf; split <;> split <;> omega
theorem szS_ev (l : List ByteArray) (hb : ∀ s ∈ l, s.size ≤ 9223372036854775807) (hl : l.length ≤ 9223372036854775807) (left : Int) (h0 : 0 ≤ left) (h1 : left ≤ 4611686018427387904) :
    Ev (fun k => laws_szStringS.f k l left) (lftOf left (bulkS l)) := by
  unfold laws_szStringS.f
  have hw : wrap64 (left - (l.length : Int)) = left - (l.length : Int) := w64 (by omega) (by omega)
  rw [hw]
  by_cases hn : left - (l.length : Int) < 0
  · refine ev_pos hn (ev_eq (Ev.now _) ?_)
    unfold lftOf bulkS; rw [if_neg (by omega)]
  · refine ev_neg hn (ev_eq (szS_loop l hb hl l.length (left - l.length) 0 (by omega) (by omega) rfl (by omega)) ?_)
    rw [List.drop_zero]
    unfold lftOf bulkS; split <;> split <;> omega
theorem toS_loop (l : List ByteArray) (hl : l.length ≤ 17592186044416) (d : Nat) : ∀ (i : Nat), l.length - i = d → i ≤ l.length →
    Ev (fun k => laws_toStringS.l0 k l (l.take i ++ List.replicate (l.length - i) (⟨#[]⟩ : ByteArray)) i) l := by
  induction d with
  | zero =>
    intro i hd hi
    refine Ev.step (f := fun _ => some l) (fun k => ?_) (Ev.now _)
    simp only [laws_toStringS.l0]; rw [if_neg (by omega), hd, List.take_of_length_le (by omega)]; simp
  | succ d ih =>
    intro i hd hi
    have hlt : i < l.length := by omega
    refine Ev.step (f := fun k => laws_toStringS.l0 k l (l.take (i + 1) ++ List.replicate (l.length - (i + 1)) (⟨#[]⟩ : ByteArray)) ((i + 1 : Nat) : Int)) (fun k => ?_) (ih (i + 1) (by omega) (by omega))
    have hr : rdOf ByteArray.empty l (i : Int) = l[i] := by simp [rdOf, hlt]
    have hlen : (l.take i).length = i := by simp; omega
    have e : (l.take i ++ List.replicate (l.length - i) (⟨#[]⟩ : ByteArray)).set i l[i] = l.take (i + 1) ++ List.replicate (l.length - (i + 1)) (⟨#[]⟩ : ByteArray) := by
      rw [List.set_append_right _ _ (by omega), hlen, Nat.sub_self, show l.length - i = (l.length - (i + 1)) + 1 by omega, List.replicate_succ, List.set_cons_zero, List.take_succ_eq_append_getElem hlt, List.append_assoc]
      rfl
    simp only [laws_toStringS.l0]
    rw [if_pos (by omega), if_pos (by omega), if_pos (by simp; omega), hr, w64 (x := (i : Int) + 1) (by omega) (by omega), Int.toNat_natCast, e]
    rfl
theorem toS_ev (l : List ByteArray) (hl : l.length ≤ 17592186044416) : Ev (fun k => laws_toStringS.f k l) l := by
  unfold laws_toStringS.f
  refine ev_pos (by omega) (ev_pos (by omega) ?_)
  have := toS_loop l hl l.length 0 rfl (by omega)
  simpa using this
def sufD (S : ByteArray) : Bool := decide (S.size = 0) || wordD S
def restD (P F S : ByteArray) : Bool := partD P && (greatD F && sufD S)
def goodN (G : List ByteArray) (P F S : ByteArray) : Bool := G.all greatD && (decide (G.length ≤ 3) && restD P F S)
theorem spec_tail (P F S : ByteArray) (hP : P.size ≤ 4294967280) : Ev (fun k => (spec_l2Particle.f k P).bind fun t134 => (if t134 = true then ((spec_l2Word.f k F).bind fun t135 => (if t135 = true then (if 0 < (F.size : Int) then ((spec_l2Upper.f (bt F 0)).bind fun t136 => (if t136 = true then (if S.toList = ([] : List UInt8) then (some true) else ((spec_l2Word.f k S).bind fun t137 => (some t137))) else (some false))) else (none)) else (some false))) else (some false))) (restD P F S) := by
  unfold restD
  refine Ev.bind (spec_part P hP) ?_
  cases partD P with
  | false => exact ev_neg (by simp) (Ev.now _)
  | true =>
    refine ev_pos rfl (Ev.bind (spec_word F) ?_)
    unfold greatD
    cases h : wordD F with
    | false => exact ev_neg (by simp) (Ev.now _)
    | true =>
      have := word_in h
      refine ev_pos rfl (ev_pos (by omega) (ev_bind0 (spec_up _) ?_))
      cases upD (bt F 0) with
      | false => exact ev_neg (by simp) (Ev.now _)
      | true =>
        refine ev_pos rfl ?_
        unfold sufD
        by_cases h : S.size = 0
        · exact ev_pos ((nil_iff S).2 h) (ev_eq (Ev.now _) (by simp [h]))
        · exact ev_neg (fun e => h ((nil_iff S).1 e)) (Ev.bind (spec_word S) (ev_eq (Ev.now _) (by simp [h])))
theorem spec_good_loop (G : List ByteArray) (P F S : ByteArray) (hG : G.length ≤ 4611686018427387904) (hP : P.size ≤ 4294967280) (d : Nat) : ∀ i : Nat, i ≤ G.length → G.length - i = d →
    Ev (fun k => spec_l2Good.l0 k (i : Int) G P F S) ((G.drop i).all greatD && (decide (G.length ≤ 3) && restD P F S)) := by
  induction d with
  | zero =>
    intro i h1 hd
    refine Ev.step (f := fun k => if (G.length : Int) ≤ 3 then ((spec_l2Particle.f k P).bind fun t134 => (if t134 = true then ((spec_l2Word.f k F).bind fun t135 => (if t135 = true then (if 0 < (F.size : Int) then ((spec_l2Upper.f (bt F 0)).bind fun t136 => (if t136 = true then (if S.toList = ([] : List UInt8) then (some true) else ((spec_l2Word.f k S).bind fun t137 => (some t137))) else (some false))) else (none)) else (some false))) else (some false))) else some false) (fun k => ?_) ?_
    · simp only [spec_l2Good.l0]; rw [if_neg (by omega)]
    · rw [List.drop_of_length_le (by omega)]
      by_cases h : G.length ≤ 3
      · exact ev_pos (by omega) (ev_eq (spec_tail P F S hP) (by simp [h]))
      · exact ev_neg (by omega) (ev_eq (Ev.now _) (by simp [h]))
  | succ d ih =>
    intro i h1 hd
    have hi : i < G.length := by omega
    have hw : wrap64 ((i : Int) + 1) = ((i + 1 : Nat) : Int) := by rw [w64 (by omega) (by omega)]; rfl
    rw [List.drop_eq_getElem_cons hi, List.all_cons, Bool.and_assoc]
    refine Ev.step (f := fun k => (spec_l2Word.f k G[i]).bind fun t131 => (if t131 = true then (if 0 < ((G[i]).size : Int) then ((spec_l2Upper.f (bt G[i] 0)).bind fun t133 => (if t133 = true then (spec_l2Good.l0 k ((i + 1 : Nat) : Int) G P F S) else (some false))) else (none)) else (some false))) (fun k => ?_) ?_
    · simp only [spec_l2Good.l0, rd_get G i hi]
      rw [if_pos (by omega), if_pos (by omega), hw]
    · refine Ev.bind (spec_word _) ?_
      rw [show greatD G[i] = (wordD G[i] && upD (bt G[i] 0)) from rfl]
      cases h : wordD G[i] with
      | false => exact ev_neg (by simp) (ev_eq (Ev.now _) (by simp))
      | true =>
        have := word_in h
        refine ev_pos rfl (ev_pos (by omega) (ev_bind0 (spec_up _) ?_))
        cases upD (bt G[i] 0) with
        | false => exact ev_neg (by simp) (ev_eq (Ev.now _) (by simp))
        | true => exact ev_pos rfl (ev_eq (ih (i + 1) (by omega) (by omega)) (by simp))
theorem spec_name (G : List ByteArray) (P F S : ByteArray) (hG : G.length ≤ 4611686018427387904) (hP : P.size ≤ 4294967280) : Ev (fun k => spec_l2Good.f k G P F S) (goodN G P F S) := by
  have := spec_good_loop G P F S hG hP _ 0 (by omega) rfl
  unfold spec_l2Good.f goodN
  rw [List.drop_zero] at this
  exact this
theorem idx_loop (G : List ByteArray) (hG : G.length ≤ 4611686018427387904) (d : Nat) : ∀ i : Nat, i ≤ G.length → G.length - i = d →
    ∃ v, Ev (fun k => slices_IndexFunc_string_string_at_62.l0 k G (G.length : Int) (i : Int)) v ∧ decide (v ≥ 0) = !((G.drop i).all greatD) := by
  induction d with
  | zero =>
    intro i h1 hd
    refine ⟨-1, Ev.step (f := fun _ => some (-1)) (fun k => ?_) (Ev.now _), ?_⟩
    · simp only [slices_IndexFunc_string_string_at_62.l0]; rw [if_neg (by omega)]
    · rw [List.drop_of_length_le (by omega)]; simp
  | succ d ih =>
    intro i h1 hd
    have hi : i < G.length := by omega
    have hw : wrap64 ((i : Int) + 1) = ((i + 1 : Nat) : Int) := by rw [w64 (by omega) (by omega)]; rfl
    rw [List.drop_eq_getElem_cons hi, List.all_cons]
    have hst : ∀ v, Ev (fun k => (impl_IsValidName_1.f k G[i]).bind fun t => if t = true then some (i : Int) else slices_IndexFunc_string_string_at_62.l0 k G (G.length : Int) ((i + 1 : Nat) : Int)) v → Ev (fun k => slices_IndexFunc_string_string_at_62.l0 k G (G.length : Int) (i : Int)) v := by
      intro v hv
      refine Ev.step (fun k => ?_) hv
      simp only [slices_IndexFunc_string_string_at_62.l0, rd_get G i hi]
      rw [if_pos (by omega), if_pos (by omega), if_pos (by omega), hw]
    have hf : Ev (fun k => impl_IsValidName_1.f k G[i]) (!greatD G[i]) := by
      unfold impl_IsValidName_1.f
      exact Ev.bind (impl_great _) (Ev.now _)
    cases h : greatD G[i] with
    | true =>
      obtain ⟨v, hv, e⟩ := ih (i + 1) (by omega) (by omega)
      refine ⟨v, hst v (Ev.bind hf (ev_neg (by simp [h]) hv)), ?_⟩
      rw [e]; simp
    | false =>
      refine ⟨(i : Int), hst _ (Ev.bind hf (ev_pos (by simp [h]) (Ev.now _))), ?_⟩
      simp
theorem contains_ev (G : List ByteArray) (hG : G.length ≤ 4611686018427387904) : Ev (fun k => slices_ContainsFunc_string_string_at_62.f k G) (!(G.all greatD)) := by
  obtain ⟨v, hv, e⟩ := idx_loop G hG _ 0 (by omega) rfl
  unfold slices_ContainsFunc_string_string_at_62.f slices_IndexFunc_string_string_at_62.f
  rw [List.drop_zero] at e
  exact Ev.bind hv (ev_eq (Ev.now _) e)
theorem impl_valid (G : List ByteArray) (P F S : ByteArray) (hG : G.length ≤ 4611686018427387904) (hP : P.size ≤ 4294967280) : Ev (fun k => impl_IsValidName.f k G P F S) (goodN G P F S) := by
  have hj1 : Ev (fun k => impl_IsValidName.j0 k true G P F S) false := Ev.step (f := fun _ => some false) (fun k => by simp [impl_IsValidName.j0]) (Ev.now _)
  have hj0 : Ev (fun k => impl_IsValidName.j0 k false G P F S) (restD P F S) := by
    refine Ev.step (f := fun k => (impl_isParticle.f k P).bind fun t172 => (if t172 = true then ((impl_isGreatWord.f k F).bind fun t173 => (if t173 = true then (if S.toList = ([] : List UInt8) then (some true) else ((impl_isNameWord.f k S).bind fun t174 => (some t174))) else (some false))) else (some false))) (fun k => by simp [impl_IsValidName.j0]) ?_
    unfold restD
    refine Ev.bind (impl_part P hP) ?_
    cases partD P with
    | false => exact ev_neg (by simp) (Ev.now _)
    | true =>
      refine ev_pos rfl (Ev.bind (impl_great F) ?_)
      cases greatD F with
      | false => exact ev_neg (by simp) (Ev.now _)
      | true =>
        refine ev_pos rfl ?_
        unfold sufD
        by_cases h : S.size = 0
        · exact ev_pos ((nil_iff S).2 h) (ev_eq (Ev.now _) (by simp [h]))
        · exact ev_neg (fun e => h ((nil_iff S).1 e)) (Ev.bind (impl_word S) (ev_eq (Ev.now _) (by simp [h])))
  unfold impl_IsValidName.f goodN
  by_cases h : G.length ≤ 3
  · refine ev_neg (by omega) (Ev.bind (contains_ev G hG) ?_)
    cases G.all greatD with
    | true => exact ev_eq hj0 (by simp [h])
    | false => exact ev_eq hj1 (by simp)
  · exact ev_pos (by omega) (ev_eq hj1 (by simp [h]))
def bulkN (G : List ByteArray) (P F S : ByteArray) : Nat := bulkS G + P.size + F.size + S.size
theorem szN_ev (G : List ByteArray) (P F S : ByteArray) (hb : ∀ s ∈ G, s.size ≤ 9223372036854775807) (hl : G.length ≤ 9223372036854775807) (hP : P.size ≤ 9223372036854775807) (hF : F.size ≤ 9223372036854775807) (hS : S.size ≤ 9223372036854775807) (left : Int) (h0 : 0 ≤ left) (h1 : left ≤ 4611686018427387904) :
    Ev (fun k => laws_szName.f k G P F S left) (lftOf left (bulkN G P F S)) := by
  unfold laws_szName.f
  refine Ev.bind (szS_ev G hb hl left h0 h1) ?_
  unfold bulkN
  by_cases c : (bulkS G : Int) ≤ left
  · have e : lftOf left (bulkS G) = left - bulkS G := by unfold lftOf; rw [if_pos c]
    rw [e]
    have w1 : wrap64 (left - (bulkS G : Int) - (P.size : Int)) = left - (bulkS G : Int) - (P.size : Int) := w64 (by omega) (by omega)
    rw [w1]
    refine ev_neg (by omega) ?_
    by_cases c1 : left - (bulkS G : Int) - (P.size : Int) < 0
    · exact ev_pos c1 (ev_eq (Ev.now _) (by unfold lftOf; rw [if_neg (by omega)]))
    refine ev_neg c1 ?_
    have w2 : wrap64 (left - (bulkS G : Int) - (P.size : Int) - (F.size : Int)) = left - (bulkS G : Int) - (P.size : Int) - (F.size : Int) := w64 (by omega) (by omega)
    rw [w2]
    by_cases c2 : left - (bulkS G : Int) - (P.size : Int) - (F.size : Int) < 0
    · exact ev_pos c2 (ev_eq (Ev.now _) (by unfold lftOf; rw [if_neg (by omega)]))
    refine ev_neg c2 ?_
    have w3 : wrap64 (left - (bulkS G : Int) - (P.size : Int) - (F.size : Int) - (S.size : Int)) = left - (bulkS G : Int) - (P.size : Int) - (F.size : Int) - (S.size : Int) := w64 (by omega) (by omega)
    rw [w3]
    by_cases c3 : left - (bulkS G : Int) - (P.size : Int) - (F.size : Int) - (S.size : Int) < 0
    · exact ev_pos c3 (ev_eq (Ev.now _) (by unfold lftOf; rw [if_neg (by omega)]))
    · exact ev_neg c3 (ev_eq (Ev.now _) (by unfold lftOf; rw [if_pos (by omega)]; omega))
  · have e : lftOf left (bulkS G) = -1 := by unfold lftOf; rw [if_neg c]
    rw [e]
    exact ev_pos (by omega) (ev_eq (Ev.now _) (by unfold lftOf; rw [if_neg (by omega)]))
theorem toN_ev (G : List ByteArray) (P F S : ByteArray) (hl : G.length ≤ 17592186044416) : Ev (fun k => laws_toName.f k G P F S) (G, P, F, S) := by
  unfold laws_toName.f
  exact Ev.bind (toS_ev G hl) (Ev.now _)
theorem eqS_same_loop (l : List ByteArray) (hl : l.length ≤ 4611686018427387904) (d : Nat) : ∀ i : Nat, i ≤ l.length → l.length - i = d → Ev (fun k => laws_eqStringS.l0 k l l (i : Int)) true := by
  induction d with
  | zero =>
    intro i h1 hd
    refine Ev.step (f := fun _ => some true) (fun k => ?_) (Ev.now _)
    simp only [laws_eqStringS.l0]; rw [if_neg (by omega)]
  | succ d ih =>
    intro i h1 hd
    have hw : wrap64 ((i : Int) + 1) = ((i + 1 : Nat) : Int) := by rw [w64 (by omega) (by omega)]; rfl
    refine Ev.step (f := fun k => laws_eqStringS.l0 k l l ((i + 1 : Nat) : Int)) (fun k => ?_) (ih (i + 1) (by omega) (by omega))
    simp only [laws_eqStringS.l0]
    rw [if_pos (by omega), if_pos (by omega), if_pos (by omega), if_pos trivial, hw]
theorem eqS_same (l : List ByteArray) (hl : l.length ≤ 4611686018427387904) : Ev (fun k => laws_eqStringS.f k l l) true := by
  unfold laws_eqStringS.f
  exact ev_pos rfl (eqS_same_loop l hl _ 0 (by omega) rfl)
theorem eqN_same (G : List ByteArray) (P F S : ByteArray) (hl : G.length ≤ 4611686018427387904) : Ev (fun k => laws_eqName.f k G P F S G P F S) true := by
  unfold laws_eqName.f
  exact Ev.bind (eqS_same G hl) (ev_pos rfl (ev_pos rfl (ev_pos rfl (ev_pos rfl (Ev.now _)))))


end Go.Proofs.YthhdodlpbpagfaaDoor.G

namespace Go.Proofs.YthhdodlpbpagfaaDoor.G
open Go.RowKit Go.Proofs.YthhdodlpbpagfaaDoorW.PrintWords Go.Proofs.YthhdodlpbpagfaaDoorW.PrintLast Go.Proofs.YthhdodlpbpagfaaDoor.B Go.Proofs.YthhdodlpbpagfaaDoor.Opn
set_option linter.unusedVariables false
set_option linter.unusedSimpArgs false
def conv (x : S72) : S70 := ⟨x.f0, x.f1, x.f2, x.f3⟩
def bulkL (l : List S72) : Nat := (l.map fun x => bulkN x.f0 x.f1 x.f2 x.f3).sum
theorem rd24 (l : List S72) (i : Nat) (h : i < l.length) : rd_T72 l (i : Int) = l[i] := by simp [rd_T72, h]
theorem rd27 (l : List S70) (i : Nat) (h : i < l.length) : rd_T70 l (i : Int) = l[i] := by simp [rd_T70, h]
theorem bulkL_cons (a : S72) (l : List S72) : bulkL (a :: l) = bulkN a.f0 a.f1 a.f2 a.f3 + bulkL l := by simp [bulkL]
theorem bulkL_mem {l : List S72} {x : S72} (h : x ∈ l) : bulkN x.f0 x.f1 x.f2 x.f3 ≤ bulkL l := by
  induction l with
  | nil => simp at h
  | cons a l ih =>
    rw [bulkL_cons]
    rcases List.mem_cons.1 h with rfl | h
    · omega
    · have := ih h; omega
theorem szL_loop (l : List S72) (hb : ∀ x ∈ l, ok72 x) (hl : l.length ≤ 9223372036854775807) (d : Nat) : ∀ (left : Int) (i : Nat), 0 ≤ left → left ≤ 1048576 → l.length - i = d → i ≤ l.length →
    Ev (fun k => laws_szNameS.l0 k l left (i : Int)) (lftOf left (bulkL (l.drop i))) := by
  induction d with
  | zero =>
    intro left i h0 h1 hd hi
    refine Ev.step (f := fun _ => some left) (fun k => ?_) (ev_eq (Ev.now _) ?_)
    · simp only [laws_szNameS.l0]; rw [if_neg (by omega)]
    · rw [List.drop_of_length_le (by omega)]; unfold lftOf bulkL; simp; omega
  | succ d ih =>
    intro left i h0 h1 hd hi
    have hlt : i < l.length := by omega
    obtain ⟨b0, b1, b2, b3⟩ := hb l[i] (List.getElem_mem hlt)
    have hsz := szN_ev (l[i]).f0 (l[i]).f1 (l[i]).f2 (l[i]).f3 b0.2 b0.1 b1 b2 b3 left h0 (by omega)
    have hw : wrap64 ((i : Int) + 1) = ((i + 1 : Nat) : Int) := by rw [w64 (by omega) (by omega)]; rfl
    rw [List.drop_eq_getElem_cons hlt, bulkL_cons]
    refine Ev.step (f := fun k => (laws_szName.f k (l[i]).f0 (l[i]).f1 (l[i]).f2 (l[i]).f3 left).bind fun t276 => (if t276 < 0 then (some (-1)) else (laws_szNameS.l0 k l t276 ((i + 1 : Nat) : Int)))) (fun k => ?_) (Ev.bind hsz ?_)
    · simp only [laws_szNameS.l0, rd24 l i hlt, hw]
      rw [if_pos (by omega), if_pos (by omega)]
    · by_cases c : (bulkN (l[i]).f0 (l[i]).f1 (l[i]).f2 (l[i]).f3 : Int) ≤ left
      · have e : lftOf left (bulkN (l[i]).f0 (l[i]).f1 (l[i]).f2 (l[i]).f3) = left - bulkN (l[i]).f0 (l[i]).f1 (l[i]).f2 (l[i]).f3 := by unfold lftOf; rw [if_pos c]
        rw [e]
        refine ev_neg (by omega) (ev_eq (ih _ (i + 1) (by omega) (by omega) (by omega) (by omega)) ?_)
        unfold lftOf; split <;> split <;> omega
      · have e : lftOf left (bulkN (l[i]).f0 (l[i]).f1 (l[i]).f2 (l[i]).f3) = -1 := by unfold lftOf; rw [if_neg c]
        rw [e]
        exact ev_pos (by omega) (ev_eq (Ev.now _) (by unfold lftOf; rw [if_neg (by omega)]))
theorem szL_ev (l : List S72) (hb : ∀ x ∈ l, ok72 x) (hl : l.length ≤ 9223372036854775807) (left : Int) (h0 : 0 ≤ left) (h1 : left ≤ 1048576) :
    Ev (fun k => laws_szNameS.f k l left) (lftOf left (l.length + bulkL l)) := by
  unfold laws_szNameS.f
  have hw : wrap64 (left - (l.length : Int)) = left - (l.length : Int) := w64 (by omega) (by omega)
  rw [hw]
  by_cases hn : left - (l.length : Int) < 0
  · exact ev_pos hn (ev_eq (Ev.now _) (by unfold lftOf; rw [if_neg (by omega)]))
  · refine ev_neg hn (ev_eq (szL_loop l hb hl l.length (left - l.length) 0 (by omega) (by omega) rfl (by omega)) ?_)
    rw [List.drop_zero]
    unfold lftOf; split <;> split <;> omega
theorem toL_loop (l : List S72) (hl : l.length ≤ 1048576) (hs : ∀ x ∈ l, x.f0.length ≤ 1048576) (d : Nat) : ∀ (i : Nat), l.length - i = d → i ≤ l.length →
    Ev (fun k => laws_toNameS.l0 k l ((l.take i).map conv ++ List.replicate (l.length - i) z70) (i : Int)) (l.map conv) := by
  induction d with
  | zero =>
    intro i hd hi
    refine Ev.step (f := fun _ => some (l.map conv)) (fun k => ?_) (Ev.now _)
    simp only [laws_toNameS.l0]; rw [if_neg (by omega), hd, List.take_of_length_le (by omega)]; simp
  | succ d ih =>
    intro i hd hi
    have hlt : i < l.length := by omega
    have hw : wrap64 ((i : Int) + 1) = ((i + 1 : Nat) : Int) := by rw [w64 (by omega) (by omega)]; rfl
    have hlen : ((l.take i).map conv).length = i := by simp; omega
    have hall : ((l.take i).map conv ++ List.replicate (l.length - i) z70).length = l.length := by simp; omega
    have e : ((l.take i).map conv ++ List.replicate (l.length - i) z70).set i (conv l[i]) = (l.take (i + 1)).map conv ++ List.replicate (l.length - (i + 1)) z70 := by
      rw [List.set_append_right _ _ (by omega), hlen, Nat.sub_self, show l.length - i = (l.length - (i + 1)) + 1 by omega, List.replicate_succ, List.set_cons_zero, List.take_succ_eq_append_getElem hlt, List.map_append, List.append_assoc]
      rfl
    have ht := toN_ev (l[i]).f0 (l[i]).f1 (l[i]).f2 (l[i]).f3 (by have := hs _ (List.getElem_mem hlt); omega)
    refine Ev.step (f := fun k => (laws_toName.f k (l[i]).f0 (l[i]).f1 (l[i]).f2 (l[i]).f3).bind fun bt289 => laws_toNameS.l0 k l (((l.take i).map conv ++ List.replicate (l.length - i) z70).set i (⟨bt289.1, bt289.2.1, bt289.2.2.1, bt289.2.2.2⟩ : S70)) ((i + 1 : Nat) : Int)) (fun k => ?_) (Ev.bind ht ?_)
    · have a3 : (i : Int) < ((((l.take i).map conv ++ List.replicate (l.length - i) z70).length : Nat) : Int) := by rw [hall]; omega
      simp only [laws_toNameS.l0, rd24 l i hlt, hw, if_pos a3, Int.toNat_natCast]
      rw [if_pos (by omega), if_pos (by omega)]
    · have hq := ih (i + 1) (by omega) (by omega)
      rw [← e] at hq
      exact hq
theorem toL_ev (l : List S72) (hl : l.length ≤ 1048576) (hs : ∀ x ∈ l, x.f0.length ≤ 1048576) : Ev (fun k => laws_toNameS.f k l) (l.map conv) := by
  unfold laws_toNameS.f
  refine ev_pos (by omega) (ev_pos (by omega) ?_)
  have := toL_loop l hl hs l.length 0 rfl (by omega)
  simpa using this
def goodS (x : S70) : Bool := goodN x.f0 x.f1 x.f2 x.f3
def okS (x : S70) : Prop := x.f0.length ≤ 4611686018427387904 ∧ x.f1.size ≤ 4294967280
def listD (l : List S70) : Bool := l.all goodS && decide (l.length ≤ 4)
theorem spec_list_loop (l : List S70) (ho : ∀ x ∈ l, okS x) (hl : l.length ≤ 1048576) (d : Nat) : ∀ i : Nat, i ≤ l.length → min l.length 5 - i = d → i ≤ 5 →
    Ev (fun k => spec_l2List.l0 k l (i : Int)) (((l.take 5).drop i).all goodS && decide (l.length ≤ 4)) := by
  have stop : ∀ i : Nat, Ev (fun k => spec_l2List.j1 k l (i : Int) false) (decide (l.length ≤ 4)) := fun i => by
    refine Ev.step (f := fun _ => some (decide ((l.length : Int) ≤ 4))) (fun k => by simp [spec_l2List.j1]) (ev_eq (Ev.now _) ?_)
    rw [decide_eq_decide]; omega
  induction d with
  | zero =>
    intro i h1 hd h5
    rw [List.drop_of_length_le (by rw [List.length_take]; omega)]
    refine Ev.step (f := fun k => spec_l2List.j1 k l (i : Int) false) (fun k => ?_) (ev_eq (stop i) (by simp))
    simp only [spec_l2List.l0]
    by_cases c : i < l.length
    · rw [if_pos (by omega), decide_eq_false (by omega)]
    · rw [if_neg (by omega)]
  | succ d ih =>
    intro i h1 hd h5
    have hi : i < l.length := by omega
    have hw : wrap64 ((i : Int) + 1) = ((i + 1 : Nat) : Int) := by rw [w64 (by omega) (by omega)]; rfl
    have hi' : i < (l.take 5).length := by rw [List.length_take]; omega
    have hx := ho _ (List.getElem_mem hi)
    rw [List.drop_eq_getElem_cons hi', List.all_cons, List.getElem_take, Bool.and_assoc]
    refine Ev.step (f := fun k => spec_l2List.j1 k l (i : Int) true) (fun k => ?_) (Ev.step (f := fun k => (spec_l2Good.f k (l[i]).f0 (l[i]).f1 (l[i]).f2 (l[i]).f3).bind fun t278 => (if t278 = true then (spec_l2List.l0 k l ((i + 1 : Nat) : Int)) else (some false))) (fun k => ?_) (Ev.bind (spec_name _ _ _ _ hx.1 hx.2) ?_))
    · simp only [spec_l2List.l0]
      rw [if_pos (by omega), decide_eq_true (by omega)]
    · simp only [spec_l2List.j1, rd27 l i hi, hw]
      rw [if_pos trivial, if_pos (by omega), if_pos (by omega)]
    · show Ev _ (goodN (l[i]).f0 (l[i]).f1 (l[i]).f2 (l[i]).f3 && _)
      cases goodN (l[i]).f0 (l[i]).f1 (l[i]).f2 (l[i]).f3 with
      | true => exact ev_pos rfl (ev_eq (ih (i + 1) (by omega) (by omega) (by omega)) (by simp))
      | false => exact ev_neg (by simp) (ev_eq (Ev.now _) (by simp))
theorem spec_list (l : List S70) (ho : ∀ x ∈ l, okS x) (hl : l.length ≤ 1048576) : Ev (fun k => spec_l2List.f k l) (listD l) := by
  have h := spec_list_loop l ho hl _ 0 (by omega) rfl (by omega)
  unfold spec_l2List.f listD
  refine ev_eq h ?_
  rw [List.drop_zero]
  by_cases c : l.length ≤ 4
  · rw [List.take_of_length_le (by omega)]
  · rw [decide_eq_false c]; simp
theorem idxN_loop (l : List S70) (ho : ∀ x ∈ l, okS x) (hl : l.length ≤ 1048576) (d : Nat) : ∀ i : Nat, i ≤ l.length → l.length - i = d →
    ∃ v, Ev (fun k => impl_Name_60_at_50.l0 k l (l.length : Int) (i : Int)) v ∧ decide (v ≥ 0) = !((l.drop i).all goodS) := by
  induction d with
  | zero =>
    intro i h1 hd
    refine ⟨-1, Ev.step (f := fun _ => some (-1)) (fun k => ?_) (Ev.now _), ?_⟩
    · simp only [impl_Name_60_at_50.l0]; rw [if_neg (by omega)]
    · rw [List.drop_of_length_le (by omega)]; simp
  | succ d ih =>
    intro i h1 hd
    have hi : i < l.length := by omega
    have hw : wrap64 ((i : Int) + 1) = ((i + 1 : Nat) : Int) := by rw [w64 (by omega) (by omega)]; rfl
    have hx := ho _ (List.getElem_mem hi)
    rw [List.drop_eq_getElem_cons hi, List.all_cons]
    have hst : ∀ v, Ev (fun k => (impl_areNames_1.f k (l[i]).f0 (l[i]).f1 (l[i]).f2 (l[i]).f3).bind fun t => if t = true then some (i : Int) else impl_Name_60_at_50.l0 k l (l.length : Int) ((i + 1 : Nat) : Int)) v → Ev (fun k => impl_Name_60_at_50.l0 k l (l.length : Int) (i : Int)) v := by
      intro v hv
      refine Ev.step (fun k => ?_) hv
      simp only [impl_Name_60_at_50.l0, rd27 l i hi, hw]
      rw [if_pos (by omega), if_pos (by omega), if_pos (by omega)]
    have hf : Ev (fun k => impl_areNames_1.f k (l[i]).f0 (l[i]).f1 (l[i]).f2 (l[i]).f3) (!goodS l[i]) := by
      unfold impl_areNames_1.f
      exact Ev.bind (impl_valid _ _ _ _ hx.1 hx.2) (Ev.now _)
    cases h : goodS l[i] with
    | true =>
      obtain ⟨v, hv, e⟩ := ih (i + 1) (by omega) (by omega)
      refine ⟨v, hst v (Ev.bind hf (ev_neg (by simp [h]) hv)), ?_⟩
      rw [e]; simp
    | false =>
      refine ⟨(i : Int), hst _ (Ev.bind hf (ev_pos (by simp [h]) (Ev.now _))), ?_⟩
      simp
theorem impl_list (l : List S70) (ho : ∀ x ∈ l, okS x) (hl : l.length ≤ 1048576) : Ev (fun k => impl_areNames.f k l) (listD l) := by
  unfold impl_areNames.f listD
  by_cases c : l.length ≤ 4
  · obtain ⟨v, hv, e⟩ := idxN_loop l ho hl _ 0 (by omega) rfl
    rw [List.drop_zero] at e
    refine ev_pos (by omega) (Ev.bind (g := fun k => impl_Name_49_at_50.f k l) (a := decide (v ≥ 0)) ?_ (ev_eq (Ev.now _) ?_))
    · unfold impl_Name_49_at_50.f impl_Name_60_at_50.f
      exact Ev.bind hv (Ev.now _)
    · rw [e]; simp [c]
  · exact ev_neg (by omega) (ev_eq (Ev.now _) (by simp [c]))
theorem eqL_loop (l : List S70) (ho : ∀ x ∈ l, okS x) (hl : l.length ≤ 1048576) (d : Nat) : ∀ i : Nat, i ≤ l.length → l.length - i = d → Ev (fun k => laws_eqNameS.l0 k l l (i : Int)) true := by
  induction d with
  | zero =>
    intro i h1 hd
    refine Ev.step (f := fun _ => some true) (fun k => ?_) (Ev.now _)
    simp only [laws_eqNameS.l0]; rw [if_neg (by omega)]
  | succ d ih =>
    intro i h1 hd
    have hi : i < l.length := by omega
    have hw : wrap64 ((i : Int) + 1) = ((i + 1 : Nat) : Int) := by rw [w64 (by omega) (by omega)]; rfl
    refine Ev.step (f := fun k => (laws_eqName.f k (l[i]).f0 (l[i]).f1 (l[i]).f2 (l[i]).f3 (l[i]).f0 (l[i]).f1 (l[i]).f2 (l[i]).f3).bind fun t308 => (if t308 = true then (laws_eqNameS.l0 k l l ((i + 1 : Nat) : Int)) else (some false))) (fun k => ?_) (Ev.bind (eqN_same _ _ _ _ (ho _ (List.getElem_mem hi)).1) (ev_pos rfl (ih (i + 1) (by omega) (by omega))))
    simp only [laws_eqNameS.l0, rd27 l i hi, hw]
    rw [if_pos (by omega), if_pos (by omega), if_pos (by omega)]
theorem eqL_same (l : List S70) (ho : ∀ x ∈ l, okS x) (hl : l.length ≤ 1048576) : Ev (fun k => laws_eqNameS.f k l l) true := by
  unfold laws_eqNameS.f
  exact ev_pos rfl (eqL_loop l ho hl _ 0 (by omega) rfl)
theorem conv_ok {l : List S72} (h : bulkL l ≤ 1048576) : ∀ x ∈ l.map conv, okS x := by
  intro x hx
  obtain ⟨y, hy, rfl⟩ := List.mem_map.1 hx
  have := bulkL_mem hy
  unfold bulkN bulkS at this
  exact ⟨by show y.f0.length ≤ _; omega, by show y.f1.size ≤ _; omega⟩
end Go.Proofs.YthhdodlpbpagfaaDoor.G

namespace Go.Proofs.YthhdodlpbpagfaaDoor.G
open Go.RowKit Go.Proofs.YthhdodlpbpagfaaDoorW.PrintWords Go.Proofs.YthhdodlpbpagfaaDoorW.PrintLast
set_option linter.unusedVariables false
set_option linter.unusedSimpArgs false
def daysD (y m : Int) : Int :=
  if m = 2 then (if Int.tmod y 4 = 0 ∧ (Int.tmod y 100 ≠ 0 ∨ Int.tmod y 400 = 0) then 29 else 28) else if m = 4 ∨ m = 6 ∨ m = 9 ∨ m = 11 then 30 else 31
def goodD (y m d : Int) (c : Bool) : Bool :=
  if y = 0 ∧ m = 0 ∧ d = 0 ∧ c = false then true
  else if ¬ (1 ≤ y ∧ y ≤ 2999 ∧ 0 ≤ m ∧ m ≤ 12) then false
  else if m = 0 then decide (d = 0)
  else if c then false else decide (0 ≤ d ∧ d ≤ daysD y m)
theorem tmod_400_4 (y : Int) (h : Int.tmod y 400 = 0) : Int.tmod y 4 = 0 := by
  have h1 : (400 : Int) ∣ y := Int.dvd_of_tmod_eq_zero h
  exact Int.tmod_eq_zero_of_dvd (Int.dvd_trans (by decide) h1)
theorem spec_days (k : Nat) (y m : Int) : spec_l3Days.f (k + 1) y m = some (daysD y m) := by
  unfold spec_l3Days.f daysD
  by_cases h2 : m = 2
  · subst h2
    simp only [if_true, spec_l3Days.j0]
    by_cases a : Int.tmod y 4 = 0 <;> by_cases b : Int.tmod y 100 = 0 <;> by_cases c : Int.tmod y 400 = 0 <;> simp [a, b, c]
    · exact a (tmod_400_4 y c)
    · exact a (tmod_400_4 y c)
  · by_cases a : m = 4 <;> by_cases b : m = 6 <;> by_cases c : m = 9 <;> by_cases d : m = 11 <;> simp [h2, a, b, c, d]
theorem impl_days (y m : Int) : impl_daysInMonth.f y m = some (daysD y m) := by
  unfold impl_daysInMonth.f daysD
  by_cases h2 : m = 2
  · subst h2
    by_cases a : Int.tmod y 4 = 0 <;> by_cases b : Int.tmod y 100 = 0 <;> by_cases c : Int.tmod y 400 = 0 <;> simp [a, b, c]
  · by_cases a : m = 4 <;> by_cases b : m = 6 <;> by_cases c : m = 9 <;> by_cases d : m = 11 <;> simp [h2, a, b, c, d]
theorem spec_good (k : Nat) (y m d : Int) (c : Bool) : spec_l3Good.f (k + 2) y m d c = some (goodD y m d c) := by
  unfold spec_l3Good.f goodD
  by_cases z : y = 0 ∧ m = 0 ∧ d = 0 ∧ c = false
  · obtain ⟨rfl, rfl, rfl, rfl⟩ := z; simp
  · rw [if_neg (by simpa using z), if_neg z]
    simp only [spec_l1In.f]
    by_cases a : 1 ≤ y <;> by_cases b : y ≤ 2999 <;> by_cases e : 0 ≤ m <;> by_cases f : m ≤ 12 <;> simp [a, b, e, f, spec_l3Good.j0]
    rw [spec_days]
    by_cases g : m = 0 <;> by_cases h : d = 0 <;> by_cases i : 0 ≤ d <;> cases c <;> simp [g, h, i, spec_l1In.f, impl_inside.f]
theorem impl_good (k : Nat) (y m d : Int) (c : Bool) : impl_IsValidDate.f (k + 2) y m d c = some (goodD y m d c) := by
  unfold impl_IsValidDate.f goodD
  by_cases z : y = 0 ∧ m = 0 ∧ d = 0 ∧ c = false
  · obtain ⟨rfl, rfl, rfl, rfl⟩ := z; simp
  · rw [if_neg (by simpa using z), if_neg z]
    simp only [impl_inside.f]
    by_cases a : 1 ≤ y <;> by_cases b : y ≤ 2999 <;> by_cases e : 0 ≤ m <;> by_cases f : m ≤ 12 <;> simp [a, b, e, f, impl_IsValidDate.j0]
    rw [impl_days]
    by_cases g : m = 0 <;> by_cases h : d = 0 <;> by_cases i : 0 ≤ d <;> cases c <;> simp [g, h, i, spec_l1In.f, impl_inside.f]
end Go.Proofs.YthhdodlpbpagfaaDoor.G

namespace Go.Proofs.YthhdodlpbpagfaaDoor.G
open Go.RowKit Go.Proofs.YthhdodlpbpagfaaDoorW.PrintWords Go.Proofs.YthhdodlpbpagfaaDoorW.PrintLast Go.Proofs.YthhdodlpbpagfaaDoor.B Go.Proofs.YthhdodlpbpagfaaDoor.Opn
set_option linter.unusedVariables false
set_option linter.unusedSimpArgs false
def kindD (n : Int) : Bool := decide (1 ≤ n) && decide (n ≤ 4)
def volD (n : Int) : Bool := decide (0 ≤ n) && decide (n ≤ 9999)
def crossD (X K : ByteArray) : Bool := decide (X.size = 0) || (keyD X && (X.toList != K.toList))
theorem in_kind (n : Int) : (if n ≥ 1 then some (decide (n ≤ 4)) else some false) = some (kindD n) := by
  unfold kindD
  by_cases h : n ≥ 1
  · rw [if_pos h, decide_eq_true (show 1 ≤ n from h)]; rfl
  · rw [if_neg h, decide_eq_false (show ¬ 1 ≤ n from h)]; rfl
theorem in_vol (n : Int) : (if n ≥ 0 then some (decide (n ≤ 9999)) else some false) = some (volD n) := by
  unfold volD
  by_cases h : n ≥ 0
  · rw [if_pos h, decide_eq_true (show 0 ≤ n from h)]; rfl
  · rw [if_neg h, decide_eq_false (show ¬ 0 ≤ n from h)]; rfl
theorem spec_date (y m d : Int) (c : Bool) : Ev (fun k => spec_l3Good.f k y m d c) (goodD y m d c) := ⟨2, fun k hk => by
  obtain ⟨k', rfl⟩ : ∃ k', k = k' + 2 := ⟨k - 2, by omega⟩
  exact spec_good k' y m d c⟩
theorem impl_date (y m d : Int) (c : Bool) : Ev (fun k => impl_IsValidDate.f k y m d c) (goodD y m d c) := ⟨2, fun k hk => by
  obtain ⟨k', rfl⟩ : ∃ k', k = k' + 2 := ⟨k - 2, by omega⟩
  exact impl_good k' y m d c⟩
theorem spec_cross (X K : ByteArray) : Ev (fun k => if X.toList = ([] : List UInt8) then (some true) else ((spec_l4Key.f k X).bind fun t643 => (if t643 = true then (some (X.toList != K.toList)) else (some false)))) (crossD X K) := by
  unfold crossD
  by_cases h : X.size = 0
  · exact ev_pos ((nil_iff X).2 h) (ev_eq (Ev.now _) (by simp [h]))
  · refine ev_neg (fun e => h ((nil_iff X).1 e)) (Ev.bind (spec_key X) ?_)
    cases keyD X with
    | true => exact ev_pos rfl (ev_eq (Ev.now _) (by simp [h]))
    | false => exact ev_neg (by simp) (ev_eq (Ev.now _) (by simp [h]))
theorem impl_cross (X K : ByteArray) : Ev (fun k => if X.toList = ([] : List UInt8) then (some true) else ((impl_isKey.f k X).bind fun t643 => (if t643 = true then (some (X.toList != K.toList)) else (some false)))) (crossD X K) := by
  unfold crossD
  by_cases h : X.size = 0
  · exact ev_pos ((nil_iff X).2 h) (ev_eq (Ev.now _) (by simp [h]))
  · refine ev_neg (fun e => h ((nil_iff X).1 e)) (Ev.bind (impl_key X) ?_)
    cases keyD X with
    | true => exact ev_pos rfl (ev_eq (Ev.now _) (by simp [h]))
    | false => exact ev_neg (by simp) (ev_eq (Ev.now _) (by simp [h]))
def headE (K : ByteArray) (kd : Int) (A E : List S70) : Bool := keyD K && (kindD kd && (listD A && listD E))
def textsE (T C Pb Pg : ByteArray) : Bool := textD T && (textD C && (textD Pb && textD Pg))
def tailE (y m d : Int) (c : Bool) (v : Int) : Bool := goodD y m d c && volD v
def entD (K : ByteArray) (kd : Int) (A E : List S70) (T C Pb : ByteArray) (y m d : Int) (c : Bool) (v : Int) (Pg X : ByteArray) : Bool :=
  headE K kd A E && (textsE T C Pb Pg && (tailE y m d c v && crossD X K))
theorem ev_and {g : Nat → Option Bool} {f n : Nat → Option Bool} {b r : Bool} (h : Ev g b) (hn : Ev n false) (hf : b = true → Ev f r) : Ev (fun k => (g k).bind fun t => if t = true then f k else n k) (b && r) := by
  refine Ev.bind h ?_
  cases b with
  | true => exact ev_pos rfl (ev_eq (hf rfl) (by simp))
  | false => exact ev_neg (by simp) (ev_eq hn (by simp))
theorem ev_and0 {o : Option Bool} {f n : Nat → Option Bool} {b r : Bool} (h : o = some b) (hn : Ev n false) (hf : b = true → Ev f r) : Ev (fun k => o.bind fun t => if t = true then f k else n k) (b && r) := by
  subst h
  cases b with
  | true => exact ev_bind0 rfl (ev_pos rfl (ev_eq (hf rfl) (by simp)))
  | false => exact ev_bind0 rfl (ev_neg (by simp) (ev_eq hn (by simp)))
theorem ev_last {g f n : Nat → Option Bool} {J : Nat → Bool → Option Bool} {b r : Bool} (h : Ev g b) (hn : Ev (fun k => J k true) false) (hf : Ev (fun k => J k false) r) : Ev (fun k => (g k).bind fun t => J k (!t)) (b && r) := by
  refine Ev.bind h ?_
  cases b with
  | true => exact ev_eq hf (by simp)
  | false => exact ev_eq hn (by simp)
section
variable (K : ByteArray) (kd : Int) (A E : List S70) (T C Pb : ByteArray) (y m d : Int) (c : Bool) (v : Int) (Pg X : ByteArray)
theorem spec_ent (hA : ∀ x ∈ A, okS x) (lA : A.length ≤ 1048576) (hE : ∀ x ∈ E, okS x) (lE : E.length ≤ 1048576) : Ev (fun k => spec_l4Entry.f k K kd A E T C Pb y m d c v Pg X) (entD K kd A E T C Pb y m d c v Pg X) := by
  have n1 : Ev (fun k => spec_l4Entry.j1 k true K kd A E T C Pb y m d c v Pg X) false := Ev.step (f := fun _ => some false) (fun k => by simp [spec_l4Entry.j1]) (Ev.now _)
  have n0 : Ev (fun k => spec_l4Entry.j0 k true K kd A E T C Pb y m d c v Pg X) false := Ev.step (f := fun _ => some false) (fun k => by simp [spec_l4Entry.j0]) (Ev.now _)
  have p1 : Ev (fun k => spec_l4Entry.j1 k false K kd A E T C Pb y m d c v Pg X) (goodD y m d c && (volD v && crossD X K)) := by
    refine Ev.step (f := fun k => (spec_l3Good.f k y m d c).bind fun t641 => (if t641 = true then ((spec_l1In.f v 0 9999).bind fun t642 => (if t642 = true then (if X.toList = ([] : List UInt8) then (some true) else ((spec_l4Key.f k X).bind fun t643 => (if t643 = true then (some (X.toList != K.toList)) else (some false)))) else (some false))) else (some false))) (fun k => by simp [spec_l4Entry.j1]) ?_
    exact ev_and (spec_date y m d c) (Ev.now _) (fun _ => ev_and0 (by unfold spec_l1In.f; exact in_vol v) (Ev.now _) (fun _ => spec_cross X K))
  have p0 : Ev (fun k => spec_l4Entry.j0 k false K kd A E T C Pb y m d c v Pg X) (textD T && (textD C && (textD Pb && (textD Pg && (goodD y m d c && (volD v && crossD X K)))))) := by
    refine Ev.step (f := fun k => (spec_l4Text.f k T).bind fun t637 => (if t637 = true then ((spec_l4Text.f k C).bind fun t638 => (if t638 = true then ((spec_l4Text.f k Pb).bind fun t639 => (if t639 = true then ((spec_l4Text.f k Pg).bind fun t640 => (spec_l4Entry.j1 k (!t640) K kd A E T C Pb y m d c v Pg X)) else (spec_l4Entry.j1 k true K kd A E T C Pb y m d c v Pg X))) else (spec_l4Entry.j1 k true K kd A E T C Pb y m d c v Pg X))) else (spec_l4Entry.j1 k true K kd A E T C Pb y m d c v Pg X))) (fun k => by simp [spec_l4Entry.j0]) ?_
    exact ev_and (spec_text T) n1 (fun _ => ev_and (spec_text C) n1 (fun _ => ev_and (spec_text Pb) n1 (fun _ => ev_last (f := fun _ => none) (n := fun _ => none) (J := fun k b => spec_l4Entry.j1 k b K kd A E T C Pb y m d c v Pg X) (spec_text Pg) n1 p1)))
  unfold spec_l4Entry.f
  refine ev_eq (ev_and (spec_key K) n0 (fun _ => ev_and0 (by unfold spec_l1In.f; exact in_kind kd) n0 (fun _ => ev_and (spec_list A hA lA) n0 (fun _ => ev_last (f := fun _ => none) (n := fun _ => none) (J := fun k b => spec_l4Entry.j0 k b K kd A E T C Pb y m d c v Pg X) (spec_list E hE lE) n0 p0)))) ?_
  unfold entD headE textsE tailE
  simp only [Bool.and_assoc]
theorem impl_ent (hA : ∀ x ∈ A, okS x) (lA : A.length ≤ 1048576) (hE : ∀ x ∈ E, okS x) (lE : E.length ≤ 1048576) : Ev (fun k => impl_IsValidEntry.f k K kd A E T C Pb y m d c v Pg X) (entD K kd A E T C Pb y m d c v Pg X) := by
  have n0 : Ev (fun k => impl_IsValidEntry.j0 k true K kd A E T C Pb y m d c v Pg X) false := Ev.step (f := fun _ => some false) (fun k => by simp [impl_IsValidEntry.j0]) (Ev.now _)
  have p0 : Ev (fun k => impl_IsValidEntry.j0 k false K kd A E T C Pb y m d c v Pg X) (textD T && (textD C && (textD Pb && (textD Pg && crossD X K)))) := by
    refine Ev.step (f := fun k => (impl_isText.f k T).bind fun t685 => (if t685 = true then ((impl_isText.f k C).bind fun t686 => (if t686 = true then ((impl_isText.f k Pb).bind fun t687 => (if t687 = true then ((impl_isText.f k Pg).bind fun t688 => (if t688 = true then (if X.toList = ([] : List UInt8) then (some true) else ((impl_isKey.f k X).bind fun t689 => (if t689 = true then (some (X.toList != K.toList)) else (some false)))) else (some false))) else (some false))) else (some false))) else (some false))) (fun k => by simp [impl_IsValidEntry.j0]) ?_
    exact ev_and (impl_text T) (Ev.now _) (fun _ => ev_and (impl_text C) (Ev.now _) (fun _ => ev_and (impl_text Pb) (Ev.now _) (fun _ => ev_and (impl_text Pg) (Ev.now _) (fun _ => impl_cross X K))))
  have hk : impl_isKind.f kd = some (kindD kd) := by unfold impl_isKind.f impl_inside.f; rw [in_kind]; rfl
  have hv : impl_inside.f v 0 9999 = some (volD v) := by unfold impl_inside.f; exact in_vol v
  unfold impl_IsValidEntry.f
  refine ev_eq (ev_and (impl_key K) n0 (fun _ => ev_and0 hk n0 (fun _ => ev_and (impl_list A hA lA) n0 (fun _ => ev_and (impl_list E hE lE) n0 (fun _ => ev_and (impl_date y m d c) n0 (fun _ => ev_last (f := fun _ => none) (n := fun _ => none) (J := fun k b => impl_IsValidEntry.j0 k b K kd A E T C Pb y m d c v Pg X) (Ev.congr (fun _ => hv) (Ev.now _)) n0 p0)))))) ?_
  unfold entD headE textsE tailE
  simp only [Bool.and_assoc]
  cases keyD K <;> cases kindD kd <;> cases listD A <;> cases listD E <;> simp only [Bool.true_and, Bool.false_and]
  cases textD T <;> cases textD C <;> cases textD Pb <;> cases textD Pg <;> cases goodD y m d c <;> cases volD v <;> simp
end
def bulkE (K : ByteArray) (A E : List S72) (T C Pb Pg X : ByteArray) : Nat := K.size + (A.length + bulkL A) + (E.length + bulkL E) + T.size + C.size + Pb.size + Pg.size + X.size
theorem szE_ev (K : ByteArray) (kd : Int) (A E : List S72) (T C Pb : ByteArray) (y m d : Int) (c : Bool) (v : Int) (Pg X : ByteArray) (hA : ∀ x ∈ A, ok72 x) (lA : A.length ≤ 9223372036854775807) (hE : ∀ x ∈ E, ok72 x) (lE : E.length ≤ 9223372036854775807)
    (bK : K.size ≤ 9223372036854775807) (bT : T.size ≤ 9223372036854775807) (bC : C.size ≤ 9223372036854775807) (bP : Pb.size ≤ 9223372036854775807) (bG : Pg.size ≤ 9223372036854775807) (bX : X.size ≤ 9223372036854775807) (left : Int) (h0 : 0 ≤ left) (h1 : left ≤ 1048576) :
    Ev (fun k => laws_szEntry.f k K kd A E T C Pb y m d c v Pg X left) (lftOf left (bulkE K A E T C Pb Pg X)) := by
  have neg : ∀ n : Nat, ¬ (n : Int) ≤ left → lftOf left n = -1 := fun n h => by unfold lftOf; rw [if_neg h]
  unfold laws_szEntry.f
  have w0 : wrap64 (left - (K.size : Int)) = left - (K.size : Int) := w64 (by omega) (by omega)
  rw [w0]
  by_cases c0 : left - (K.size : Int) < 0
  · exact ev_pos c0 (ev_eq (Ev.now _) (neg _ (by unfold bulkE; omega)).symm)
  refine ev_neg c0 (Ev.bind (szL_ev A hA lA _ (by omega) (by omega)) ?_)
  by_cases c1 : ((A.length + bulkL A : Nat) : Int) ≤ left - (K.size : Int)
  · have e : lftOf (left - (K.size : Int)) (A.length + bulkL A) = left - (K.size : Int) - (A.length + bulkL A : Nat) := by unfold lftOf; rw [if_pos c1]
    rw [e]
    refine ev_neg (by omega) (Ev.bind (szL_ev E hE lE _ (by omega) (by omega)) ?_)
    by_cases c2 : ((E.length + bulkL E : Nat) : Int) ≤ left - (K.size : Int) - (A.length + bulkL A : Nat)
    · have e : lftOf (left - (K.size : Int) - (A.length + bulkL A : Nat)) (E.length + bulkL E) = left - (K.size : Int) - (A.length + bulkL A : Nat) - (E.length + bulkL E : Nat) := by unfold lftOf; rw [if_pos c2]
      rw [e]
      obtain ⟨l2, hl2⟩ : ∃ l2, l2 = left - (K.size : Int) - (A.length + bulkL A : Nat) - (E.length + bulkL E : Nat) := ⟨_, rfl⟩
      rw [← hl2]
      refine ev_neg (by omega) ?_
      have w1 : wrap64 (l2 - (T.size : Int)) = l2 - (T.size : Int) := w64 (by omega) (by omega)
      rw [w1]
      by_cases c3 : l2 - (T.size : Int) < 0
      · exact ev_pos c3 (ev_eq (Ev.now _) (neg _ (by unfold bulkE; omega)).symm)
      refine ev_neg c3 ?_
      have w2 : wrap64 (l2 - (T.size : Int) - (C.size : Int)) = l2 - (T.size : Int) - (C.size : Int) := w64 (by omega) (by omega)
      rw [w2]
      by_cases c4 : l2 - (T.size : Int) - (C.size : Int) < 0
      · exact ev_pos c4 (ev_eq (Ev.now _) (neg _ (by unfold bulkE; omega)).symm)
      refine ev_neg c4 ?_
      have w3 : wrap64 (l2 - (T.size : Int) - (C.size : Int) - (Pb.size : Int)) = l2 - (T.size : Int) - (C.size : Int) - (Pb.size : Int) := w64 (by omega) (by omega)
      rw [w3]
      by_cases c5 : l2 - (T.size : Int) - (C.size : Int) - (Pb.size : Int) < 0
      · exact ev_pos c5 (ev_eq (Ev.now _) (neg _ (by unfold bulkE; omega)).symm)
      refine ev_neg c5 ?_
      have w4 : wrap64 (l2 - (T.size : Int) - (C.size : Int) - (Pb.size : Int) - (Pg.size : Int)) = l2 - (T.size : Int) - (C.size : Int) - (Pb.size : Int) - (Pg.size : Int) := w64 (by omega) (by omega)
      rw [w4]
      by_cases c6 : l2 - (T.size : Int) - (C.size : Int) - (Pb.size : Int) - (Pg.size : Int) < 0
      · exact ev_pos c6 (ev_eq (Ev.now _) (neg _ (by unfold bulkE; omega)).symm)
      refine ev_neg c6 ?_
      have w5 : wrap64 (l2 - (T.size : Int) - (C.size : Int) - (Pb.size : Int) - (Pg.size : Int) - (X.size : Int)) = l2 - (T.size : Int) - (C.size : Int) - (Pb.size : Int) - (Pg.size : Int) - (X.size : Int) := w64 (by omega) (by omega)
      rw [w5]
      by_cases c7 : l2 - (T.size : Int) - (C.size : Int) - (Pb.size : Int) - (Pg.size : Int) - (X.size : Int) < 0
      · exact ev_pos c7 (ev_eq (Ev.now _) (neg _ (by unfold bulkE; omega)).symm)
      · exact ev_neg c7 (ev_eq (Ev.now _) (by unfold lftOf; rw [if_pos (by unfold bulkE; omega)]; unfold bulkE; omega))
    · have e : lftOf (left - (K.size : Int) - (A.length + bulkL A : Nat)) (E.length + bulkL E) = -1 := by unfold lftOf; rw [if_neg c2]
      rw [e]
      exact ev_pos (by omega) (ev_eq (Ev.now _) (neg _ (by unfold bulkE; omega)).symm)
  · have e : lftOf (left - (K.size : Int)) (A.length + bulkL A) = -1 := by unfold lftOf; rw [if_neg c1]
    rw [e]
    exact ev_pos (by omega) (ev_eq (Ev.now _) (neg _ (by unfold bulkE; omega)).symm)
theorem toE_ev (K : ByteArray) (kd : Int) (A E : List S72) (T C Pb : ByteArray) (y m d : Int) (c : Bool) (v : Int) (Pg X : ByteArray) (lA : A.length ≤ 1048576) (sA : ∀ x ∈ A, x.f0.length ≤ 1048576) (lE : E.length ≤ 1048576) (sE : ∀ x ∈ E, x.f0.length ≤ 1048576) :
    Ev (fun k => laws_toEntry.f k K kd A E T C Pb y m d c v Pg X) (K, kd, A.map conv, E.map conv, T, C, Pb, y, m, d, c, v, Pg, X) := by
  unfold laws_toEntry.f
  exact Ev.bind (toL_ev A lA sA) (Ev.bind (toL_ev E lE sE) (Ev.now _))
theorem eqE_same (K : ByteArray) (kd : Int) (A E : List S70) (T C Pb : ByteArray) (y m d : Int) (c : Bool) (v : Int) (Pg X : ByteArray) (hA : ∀ x ∈ A, okS x) (lA : A.length ≤ 1048576) (hE : ∀ x ∈ E, okS x) (lE : E.length ≤ 1048576) :
    Ev (fun k => laws_eqEntry.f k K kd A E T C Pb y m d c v Pg X K kd A E T C Pb y m d c v Pg X) true := by
  have hd : laws_eqDate.f y m d c y m d c = some true := by unfold laws_eqDate.f; simp
  unfold laws_eqEntry.f
  exact ev_pos rfl (ev_pos rfl (Ev.bind (eqL_same A hA lA) (ev_pos rfl (Ev.bind (eqL_same E hE lE) (ev_pos rfl (ev_pos rfl (ev_pos rfl (ev_pos rfl (ev_bind0 hd (ev_pos rfl (ev_pos rfl (ev_pos rfl (ev_pos rfl (Ev.now _))))))))))))))
def convE (x : S55) : S45 := ⟨x.f0, x.f1, x.f2.map conv, x.f3.map conv, x.f4, x.f5, x.f6, (⟨x.f7.f0, x.f7.f1, x.f7.f2, x.f7.f3⟩ : S43), x.f8, x.f9, x.f10⟩
def bulk1 (x : S55) : Nat := bulkE x.f0 x.f2 x.f3 x.f4 x.f5 x.f6 x.f9 x.f10
def bulkB (l : List S55) : Nat := (l.map bulk1).sum
theorem rdLE (l : List S55) (i : Nat) (h : i < l.length) : rd_T55 l (i : Int) = l[i] := by simp [rd_T55, h]
theorem rdIE (l : List S45) (i : Nat) (h : i < l.length) : rd_T45 l (i : Int) = l[i] := by simp [rd_T45, h]
theorem bulkB_cons (a : S55) (l : List S55) : bulkB (a :: l) = bulk1 a + bulkB l := by simp [bulkB]
theorem bulkB_mem {l : List S55} {x : S55} (h : x ∈ l) : bulk1 x ≤ bulkB l := by
  induction l with
  | nil => simp at h
  | cons a l ih =>
    rw [bulkB_cons]
    rcases List.mem_cons.1 h with rfl | h
    · omega
    · have := ih h; omega
theorem sz1_ev (x : S55) (hx : ok55 x) (left : Int) (h0 : 0 ≤ left) (h1 : left ≤ 1048576) : Ev (fun k => laws_szEntry.f k (x).f0 (x).f1 (x).f2 (x).f3 (x).f4 (x).f5 (x).f6 (x).f7.f0 (x).f7.f1 (x).f7.f2 (x).f7.f3 (x).f8 (x).f9 (x).f10 left) (lftOf left (bulk1 x)) := by
  obtain ⟨b0, _, b2, b3, b4, b5, b6, _, _, b9, b10⟩ := hx
  exact szE_ev (x).f0 (x).f1 (x).f2 (x).f3 (x).f4 (x).f5 (x).f6 (x).f7.f0 (x).f7.f1 (x).f7.f2 (x).f7.f3 (x).f8 (x).f9 (x).f10 b2.2 b2.1 b3.2 b3.1 b0 b4 b5 b6 b9 b10 left h0 h1
theorem szB_loop (l : List S55) (hb : ∀ x ∈ l, ok55 x) (hl : l.length ≤ 9223372036854775807) (d : Nat) : ∀ (left : Int) (i : Nat), 0 ≤ left → left ≤ 1048576 → l.length - i = d → i ≤ l.length →
    Ev (fun k => laws_szEntryS.l0 k l left (i : Int)) (lftOf left (bulkB (l.drop i))) := by
  induction d with
  | zero =>
    intro left i h0 h1 hd hi
    refine Ev.step (f := fun _ => some left) (fun k => ?_) (ev_eq (Ev.now _) ?_)
    · simp only [laws_szEntryS.l0]; rw [if_neg (by omega)]
    · rw [List.drop_of_length_le (by omega)]; unfold lftOf bulkB; simp; omega
  | succ d ih =>
    intro left i h0 h1 hd hi
    have hlt : i < l.length := by omega
    have hsz := sz1_ev l[i] (hb l[i] (List.getElem_mem hlt)) left h0 h1
    have hw : wrap64 ((i : Int) + 1) = ((i + 1 : Nat) : Int) := by rw [w64 (by omega) (by omega)]; rfl
    rw [List.drop_eq_getElem_cons hlt, bulkB_cons]
    refine Ev.step (f := fun k => (laws_szEntry.f k (l[i]).f0 (l[i]).f1 (l[i]).f2 (l[i]).f3 (l[i]).f4 (l[i]).f5 (l[i]).f6 (l[i]).f7.f0 (l[i]).f7.f1 (l[i]).f7.f2 (l[i]).f7.f3 (l[i]).f8 (l[i]).f9 (l[i]).f10 left).bind fun t276 => (if t276 < 0 then (some (-1)) else (laws_szEntryS.l0 k l t276 ((i + 1 : Nat) : Int)))) (fun k => ?_) (Ev.bind hsz ?_)
    · simp only [laws_szEntryS.l0, rdLE l i hlt, hw]
      rw [if_pos (by omega), if_pos (by omega)]
    · by_cases c : (bulk1 l[i] : Int) ≤ left
      · have e : lftOf left (bulk1 l[i]) = left - bulk1 l[i] := by unfold lftOf; rw [if_pos c]
        rw [e]
        refine ev_neg (by omega) (ev_eq (ih _ (i + 1) (by omega) (by omega) (by omega) (by omega)) ?_)
        unfold lftOf; split <;> split <;> omega
      · have e : lftOf left (bulk1 l[i]) = -1 := by unfold lftOf; rw [if_neg c]
        rw [e]
        exact ev_pos (by omega) (ev_eq (Ev.now _) (by unfold lftOf; rw [if_neg (by omega)]))
theorem szB_ev (l : List S55) (hb : ∀ x ∈ l, ok55 x) (hl : l.length ≤ 9223372036854775807) (left : Int) (h0 : 0 ≤ left) (h1 : left ≤ 1048576) :
    Ev (fun k => laws_szLibrary.f k l left) (lftOf left (l.length + bulkB l)) := by
  have inner : Ev (fun k => laws_szEntryS.f k l left) (lftOf left (l.length + bulkB l)) := by
    unfold laws_szEntryS.f
    have hw : wrap64 (left - (l.length : Int)) = left - (l.length : Int) := w64 (by omega) (by omega)
    rw [hw]
    by_cases hn : left - (l.length : Int) < 0
    · exact ev_pos hn (ev_eq (Ev.now _) (by unfold lftOf; rw [if_neg (by omega)]))
    · refine ev_neg hn (ev_eq (szB_loop l hb hl l.length (left - l.length) 0 (by omega) (by omega) rfl (by omega)) ?_)
      rw [List.drop_zero]
      unfold lftOf; split <;> split <;> omega
  unfold laws_szLibrary.f
  refine Ev.bind inner ?_
  by_cases c : ((l.length + bulkB l : Nat) : Int) ≤ left
  · exact ev_neg (by unfold lftOf; rw [if_pos c]; omega) (Ev.now _)
  · have e : lftOf left (l.length + bulkB l) = -1 := by unfold lftOf; rw [if_neg c]
    rw [e]; exact ev_pos (by omega) (Ev.now _)
theorem parts1 {x : S55} (h : bulk1 x ≤ 1048576) : (x.f2.length ≤ 1048576 ∧ bulkL x.f2 ≤ 1048576) ∧ (x.f3.length ≤ 1048576 ∧ bulkL x.f3 ≤ 1048576) := by
  unfold bulk1 bulkE at h; omega
theorem given1 {l : List S72} (h : bulkL l ≤ 1048576) : ∀ x ∈ l, x.f0.length ≤ 1048576 := fun x hx => by have := bulkL_mem hx; unfold bulkN bulkS at this; omega
theorem toB_loop (l : List S55) (hl : l.length ≤ 1048576) (hs : ∀ x ∈ l, bulk1 x ≤ 1048576) (d : Nat) : ∀ (i : Nat), l.length - i = d → i ≤ l.length →
    Ev (fun k => laws_toEntryS.l0 k l ((l.take i).map convE ++ List.replicate (l.length - i) z45) (i : Int)) (l.map convE) := by
  induction d with
  | zero =>
    intro i hd hi
    refine Ev.step (f := fun _ => some (l.map convE)) (fun k => ?_) (Ev.now _)
    simp only [laws_toEntryS.l0]; rw [if_neg (by omega), hd, List.take_of_length_le (by omega)]; simp
  | succ d ih =>
    intro i hd hi
    have hlt : i < l.length := by omega
    have hw : wrap64 ((i : Int) + 1) = ((i + 1 : Nat) : Int) := by rw [w64 (by omega) (by omega)]; rfl
    have hlen : ((l.take i).map convE).length = i := by simp; omega
    have hall : ((l.take i).map convE ++ List.replicate (l.length - i) z45).length = l.length := by simp; omega
    have e : ((l.take i).map convE ++ List.replicate (l.length - i) z45).set i (convE l[i]) = (l.take (i + 1)).map convE ++ List.replicate (l.length - (i + 1)) z45 := by
      rw [List.set_append_right _ _ (by omega), hlen, Nat.sub_self, show l.length - i = (l.length - (i + 1)) + 1 by omega, List.replicate_succ, List.set_cons_zero, List.take_succ_eq_append_getElem hlt, List.map_append, List.append_assoc]
      rfl
    obtain ⟨⟨p1, p2⟩, p3, p4⟩ := parts1 (hs _ (List.getElem_mem hlt))
    have ht := toE_ev (l[i]).f0 (l[i]).f1 (l[i]).f2 (l[i]).f3 (l[i]).f4 (l[i]).f5 (l[i]).f6 (l[i]).f7.f0 (l[i]).f7.f1 (l[i]).f7.f2 (l[i]).f7.f3 (l[i]).f8 (l[i]).f9 (l[i]).f10 p1 (given1 p2) p3 (given1 p4)
    obtain ⟨K, hK⟩ := ht
    obtain ⟨K', hK'⟩ := ih (i + 1) (by omega) (by omega)
    refine ⟨K + K' + 1, fun k hk => ?_⟩
    obtain ⟨k', rfl⟩ : ∃ k', k = k' + 1 := ⟨k - 1, by omega⟩
    have e1 := hK k' (by omega)
    have e2 := hK' k' (by omega)
    simp only at e1 e2
    have a3 : (i : Int) < ((((l.take i).map convE ++ List.replicate (l.length - i) z45).length : Nat) : Int) := by rw [hall]; omega
    simp only [laws_toEntryS.l0, rdLE l i hlt, hw, if_pos a3, Int.toNat_natCast]
    rw [if_pos (by omega), if_pos (by omega), e1]
    simp only [Option.bind_some]
    rw [← e] at e2
    exact e2
theorem toB_ev (l : List S55) (hl : l.length ≤ 1048576) (hs : ∀ x ∈ l, bulk1 x ≤ 1048576) : Ev (fun k => laws_toLibrary.f k l) (l.map convE) := by
  unfold laws_toLibrary.f laws_toEntryS.f
  refine Ev.bind (ev_pos (by omega) (ev_pos (by omega) ?_)) (Ev.now _)
  have := toB_loop l hl hs l.length 0 rfl (by omega)
  simpa using this
structure EOk (x : S45) : Prop where
  a : ∀ y ∈ x.f2, okS y
  la : x.f2.length ≤ 1048576
  e : ∀ y ∈ x.f3, okS y
  le : x.f3.length ≤ 1048576
theorem convE_ok {l : List S55} (h : ∀ x ∈ l, bulk1 x ≤ 1048576) : ∀ x ∈ l.map convE, EOk x := by
  intro x hx
  obtain ⟨y, hy, rfl⟩ := List.mem_map.1 hx
  obtain ⟨⟨p1, p2⟩, p3, p4⟩ := parts1 (h y hy)
  exact ⟨conv_ok p2, by show (y.f2.map conv).length ≤ _; rw [List.length_map]; exact p1, conv_ok p4, by show (y.f3.map conv).length ≤ _; rw [List.length_map]; exact p3⟩
theorem eqB_loop (l : List S45) (ho : ∀ x ∈ l, EOk x) (hl : l.length ≤ 1048576) (d : Nat) : ∀ i : Nat, i ≤ l.length → l.length - i = d → Ev (fun k => laws_eqEntryS.l0 k l l (i : Int)) true := by
  induction d with
  | zero =>
    intro i h1 hd
    refine Ev.step (f := fun _ => some true) (fun k => ?_) (Ev.now _)
    simp only [laws_eqEntryS.l0]; rw [if_neg (by omega)]
  | succ d ih =>
    intro i h1 hd
    have hi : i < l.length := by omega
    have hw : wrap64 ((i : Int) + 1) = ((i + 1 : Nat) : Int) := by rw [w64 (by omega) (by omega)]; rfl
    have o := ho _ (List.getElem_mem hi)
    refine Ev.step (f := fun k => (laws_eqEntry.f k (l[i]).f0 (l[i]).f1 (l[i]).f2 (l[i]).f3 (l[i]).f4 (l[i]).f5 (l[i]).f6 (l[i]).f7.f0 (l[i]).f7.f1 (l[i]).f7.f2 (l[i]).f7.f3 (l[i]).f8 (l[i]).f9 (l[i]).f10 (l[i]).f0 (l[i]).f1 (l[i]).f2 (l[i]).f3 (l[i]).f4 (l[i]).f5 (l[i]).f6 (l[i]).f7.f0 (l[i]).f7.f1 (l[i]).f7.f2 (l[i]).f7.f3 (l[i]).f8 (l[i]).f9 (l[i]).f10).bind fun t308 => (if t308 = true then (laws_eqEntryS.l0 k l l ((i + 1 : Nat) : Int)) else (some false))) (fun k => ?_) (Ev.bind (eqE_same (l[i]).f0 (l[i]).f1 (l[i]).f2 (l[i]).f3 (l[i]).f4 (l[i]).f5 (l[i]).f6 (l[i]).f7.f0 (l[i]).f7.f1 (l[i]).f7.f2 (l[i]).f7.f3 (l[i]).f8 (l[i]).f9 (l[i]).f10 o.a o.la o.e o.le) (ev_pos rfl (ih (i + 1) (by omega) (by omega))))
    simp only [laws_eqEntryS.l0, rdIE l i hi, hw]
    rw [if_pos (by omega), if_pos (by omega), if_pos (by omega)]
theorem eqB_same (l : List S45) (ho : ∀ x ∈ l, EOk x) (hl : l.length ≤ 1048576) : Ev (fun k => laws_eqLibrary.f k l l) true := by
  unfold laws_eqLibrary.f laws_eqEntryS.f
  exact Ev.bind (ev_pos rfl (eqB_loop l ho hl _ 0 (by omega) rfl)) (ev_pos rfl (Ev.now _))
def entS (x : S45) : Bool := entD (x).f0 (x).f1 (x).f2 (x).f3 (x).f4 (x).f5 (x).f6 (x).f7.f0 (x).f7.f1 (x).f7.f2 (x).f7.f3 (x).f8 (x).f9 (x).f10
theorem spec_entS (x : S45) (o : EOk x) : Ev (fun k => spec_l4Entry.f k (x).f0 (x).f1 (x).f2 (x).f3 (x).f4 (x).f5 (x).f6 (x).f7.f0 (x).f7.f1 (x).f7.f2 (x).f7.f3 (x).f8 (x).f9 (x).f10) (entS x) := spec_ent (x).f0 (x).f1 (x).f2 (x).f3 (x).f4 (x).f5 (x).f6 (x).f7.f0 (x).f7.f1 (x).f7.f2 (x).f7.f3 (x).f8 (x).f9 (x).f10 o.a o.la o.e o.le
theorem impl_entS (x : S45) (o : EOk x) : Ev (fun k => impl_IsValidEntry.f k (x).f0 (x).f1 (x).f2 (x).f3 (x).f4 (x).f5 (x).f6 (x).f7.f0 (x).f7.f1 (x).f7.f2 (x).f7.f3 (x).f8 (x).f9 (x).f10) (entS x) := impl_ent (x).f0 (x).f1 (x).f2 (x).f3 (x).f4 (x).f5 (x).f6 (x).f7.f0 (x).f7.f1 (x).f7.f2 (x).f7.f3 (x).f8 (x).f9 (x).f10 o.a o.la o.e o.le
def stepD (l : List S45) (i : Nat) : Bool := entS (rd_T45 l (i : Int)) && (decide (i = 0) || Op.bytesLess ((rd_T45 l ((i : Int) - 1)).f0).toList ((rd_T45 l (i : Int)).f0).toList)
def libF (l : List S45) : Nat → Nat → Bool
  | 0, _ => true
  | d + 1, i => stepD l i && libF l d (i + 1)
def libD (l : List S45) : Bool := libF l l.length 0 && decide (l.length ≤ 8)
theorem spec_lib_loop (l : List S45) (ho : ∀ x ∈ l, EOk x) (hl : l.length ≤ 1048576) (d : Nat) : ∀ i : Nat, i ≤ l.length → l.length - i = d → Ev (fun k => spec_l4Good.l0 k (i : Int) l) (libF l d i) := by
  induction d with
  | zero =>
    intro i h1 hd
    refine Ev.step (f := fun _ => some true) (fun k => ?_) (Ev.now _)
    simp only [spec_l4Good.l0]; rw [if_neg (by omega)]
  | succ d ih =>
    intro i h1 hd
    have hi : i < l.length := by omega
    have hw : wrap64 ((i : Int) + 1) = ((i + 1 : Nat) : Int) := by rw [w64 (by omega) (by omega)]; rfl
    have hw' : wrap64 ((i : Int) - 1) = (i : Int) - 1 := w64 (by omega) (by omega)
    have hr := rdIE l i hi
    have he := spec_entS l[i] (ho _ (List.getElem_mem hi))
    have hn := ih (i + 1) (by omega) (by omega)
    show Ev _ (stepD l i && libF l d (i + 1))
    unfold stepD
    rw [hr]
    refine Ev.step (f := fun k => (spec_l4Entry.f k (l[i]).f0 (l[i]).f1 (l[i]).f2 (l[i]).f3 (l[i]).f4 (l[i]).f5 (l[i]).f6 (l[i]).f7.f0 (l[i]).f7.f1 (l[i]).f7.f2 (l[i]).f7.f3 (l[i]).f8 (l[i]).f9 (l[i]).f10).bind fun t763 => (if t763 = true then (if (decide (i = 0) || Op.bytesLess ((rd_T45 l ((i : Int) - 1)).f0).toList (l[i].f0).toList) = true then (spec_l4Good.l0 k ((i + 1 : Nat) : Int) l) else (some false)) else (some false))) (fun k => ?_) ?_
    · simp only [spec_l4Good.l0, hr, hw, hw']
      rw [if_pos (by omega), if_pos (by omega)]
      by_cases c : i = 0
      · have c' : ¬ (i : Int) > 0 := by omega
        simp only [if_neg c', decide_eq_true c, Bool.true_or, if_true]
      · have c' : (i : Int) > 0 := by omega
        have a1 : (0 : Int) ≤ (i : Int) - 1 := by omega
        have a2 : (i : Int) - 1 < (l.length : Int) := by omega
        simp only [if_pos c', if_pos a1, if_pos a2, decide_eq_false c, Bool.false_or]
    · refine Ev.bind he ?_
      cases entS l[i] with
      | false => exact ev_neg (by simp) (ev_eq (Ev.now _) (by simp))
      | true =>
        refine ev_pos rfl ?_
        cases (decide (i = 0) || Op.bytesLess ((rd_T45 l ((i : Int) - 1)).f0).toList (l[i].f0).toList) with
        | true => exact ev_pos rfl (ev_eq hn (by simp))
        | false => exact ev_neg (by simp) (ev_eq (Ev.now _) (by simp))
theorem impl_lib_loop (l : List S45) (ho : ∀ x ∈ l, EOk x) (hl : l.length ≤ 1048576) (d : Nat) : ∀ i : Nat, i ≤ l.length → l.length - i = d → Ev (fun k => impl_IsValidLibrary.l0 k l (l.length : Int) (i : Int) l) (libF l d i && decide (l.length ≤ 8)) := by
  induction d with
  | zero =>
    intro i h1 hd
    refine Ev.step (f := fun _ => some (decide ((l.length : Int) ≤ 8))) (fun k => ?_) (ev_eq (Ev.now _) ?_)
    · simp only [impl_IsValidLibrary.l0]; rw [if_neg (by omega)]
    · show _ = (true && _)
      rw [Bool.true_and, decide_eq_decide]; omega
  | succ d ih =>
    intro i h1 hd
    have hi : i < l.length := by omega
    have hw : wrap64 ((i : Int) + 1) = ((i + 1 : Nat) : Int) := by rw [w64 (by omega) (by omega)]; rfl
    have hw' : wrap64 ((i : Int) - 1) = (i : Int) - 1 := w64 (by omega) (by omega)
    have hr := rdIE l i hi
    have he := impl_entS l[i] (ho _ (List.getElem_mem hi))
    have hn := ih (i + 1) (by omega) (by omega)
    show Ev _ ((stepD l i && libF l d (i + 1)) && _)
    unfold stepD
    rw [hr]
    refine Ev.step (f := fun k => (impl_IsValidEntry.f k (l[i]).f0 (l[i]).f1 (l[i]).f2 (l[i]).f3 (l[i]).f4 (l[i]).f5 (l[i]).f6 (l[i]).f7.f0 (l[i]).f7.f1 (l[i]).f7.f2 (l[i]).f7.f3 (l[i]).f8 (l[i]).f9 (l[i]).f10).bind fun t763 => (if t763 = true then (if (decide (i = 0) || Op.bytesLess ((rd_T45 l ((i : Int) - 1)).f0).toList (l[i].f0).toList) = true then (impl_IsValidLibrary.l0 k l (l.length : Int) ((i + 1 : Nat) : Int) l) else (some false)) else (some false))) (fun k => ?_) ?_
    · simp only [impl_IsValidLibrary.l0, hr, hw, hw']
      rw [if_pos (by omega), if_pos (by omega), if_pos (by omega)]
      by_cases c : i = 0
      · have c' : ¬ (i : Int) > 0 := by omega
        simp only [if_neg c', decide_eq_true c, Bool.true_or, if_true]
      · have c' : (i : Int) > 0 := by omega
        have a1 : (0 : Int) ≤ (i : Int) - 1 := by omega
        have a2 : (i : Int) - 1 < (l.length : Int) := by omega
        simp only [if_pos c', if_pos a1, if_pos a2, decide_eq_false c, Bool.false_or]
    · refine Ev.bind he ?_
      cases entS l[i] with
      | false => exact ev_neg (by simp) (ev_eq (Ev.now _) (by simp))
      | true =>
        refine ev_pos rfl ?_
        cases (decide (i = 0) || Op.bytesLess ((rd_T45 l ((i : Int) - 1)).f0).toList (l[i].f0).toList) with
        | true => exact ev_pos rfl (ev_eq hn (by simp))
        | false => exact ev_neg (by simp) (ev_eq (Ev.now _) (by simp))
theorem spec_lib (l : List S45) (ho : ∀ x ∈ l, EOk x) (hl : l.length ≤ 1048576) : Ev (fun k => spec_l4Good.f k l) (libD l) := by
  unfold spec_l4Good.f libD
  by_cases c : l.length ≤ 8
  · exact ev_neg (by omega) (ev_eq (spec_lib_loop l ho hl _ 0 (by omega) rfl) (by simp [c]))
  · exact ev_pos (by omega) (ev_eq (Ev.now _) (by simp [c]))
theorem impl_lib (l : List S45) (ho : ∀ x ∈ l, EOk x) (hl : l.length ≤ 1048576) : Ev (fun k => impl_IsValidLibrary.f k l) (libD l) := by
  unfold impl_IsValidLibrary.f libD
  exact impl_lib_loop l ho hl _ 0 (by omega) rfl
end Go.Proofs.YthhdodlpbpagfaaDoor.G

namespace Go.Proofs.YthhdodlpbpagfaaDoor.Pure
open Go.RowKit Go.Proofs.YthhdodlpbpagfaaDoor.G Go.Proofs.YthhdodlpbpagfaaDoorW.PrintWords Go.Proofs.YthhdodlpbpagfaaDoorW.PrintLast Go.Proofs.YthhdodlpbpagfaaDoor.B Go.Proofs.YthhdodlpbpagfaaDoor.Opn
set_option linter.unusedVariables false
set_option linter.unusedSimpArgs false
theorem ev_shift {α : Type} {f : Nat → Option α} {v : α} (h : Ev (fun k => f (k + 1)) v) : Ev f v := Ev.step (f := fun k => f (k + 1)) (fun _ => rfl) h
def selK (a : Int) : List S45 → List ByteArray
  | [] => []
  | x :: r => if x.f1 = a then x.f0 :: selK a r else selK a r
theorem selK_len (a : Int) (l : List S45) : (selK a l).length ≤ l.length := by
  induction l with
  | nil => exact Nat.le_refl _
  | cons x r ih =>
    simp only [selK]
    split
    · simp only [List.length_cons]; omega
    · simp only [List.length_cons]; omega
theorem spec_sel (l : List S45) (a : Int) (hl : l.length ≤ 1048576) (d : Nat) : ∀ (i : Nat) (out : List ByteArray), out.length ≤ i → i ≤ l.length → l.length - i = d → Ev (fun k => spec_EntriesOfKind.l0 k a out (i : Int) l) (out ++ selK a (l.drop i), true) := by
  induction d with
  | zero =>
    intro i out ho h1 hd
    refine Ev.step (f := fun _ => some (out, true)) (fun k => ?_) (ev_eq (Ev.now _) ?_)
    · simp only [spec_EntriesOfKind.l0]; rw [if_neg (by omega)]
    · rw [List.drop_of_length_le (by omega)]; simp [selK]
  | succ d ih =>
    intro i out ho h1 hd
    have hi : i < l.length := by omega
    have hw : wrap64 ((i : Int) + 1) = ((i + 1 : Nat) : Int) := by rw [w64 (by omega) (by omega)]; rfl
    have hr := rdIE l i hi
    rw [List.drop_eq_getElem_cons hi]
    by_cases q : (l[i]).f1 = a
    · refine Ev.step (f := fun k => spec_EntriesOfKind.l0 k a (out ++ [(l[i]).f0]) ((i + 1 : Nat) : Int) l) (fun k => ?_) (ev_eq (ih (i + 1) (out ++ [(l[i]).f0]) (by rw [List.length_append, List.length_singleton]; omega) (by omega) (by omega)) ?_)
      · simp only [spec_EntriesOfKind.l0, hr, hw]; rw [if_pos (by omega), if_pos (by omega), if_pos q, if_pos (by omega)]
      · simp only [selK]; rw [if_pos q]; simp
    · refine Ev.step (f := fun k => spec_EntriesOfKind.l0 k a out ((i + 1 : Nat) : Int) l) (fun k => ?_) (ev_eq (ih (i + 1) out (by omega) (by omega) (by omega)) ?_)
      · simp only [spec_EntriesOfKind.l0, hr, hw]; rw [if_pos (by omega), if_pos (by omega), if_neg q]
      · simp only [selK]; rw [if_neg q]
theorem impl_sel (l : List S45) (a : Int) (hl : l.length ≤ 1048576) (d : Nat) : ∀ (i : Nat) (out : List ByteArray), out.length ≤ i → i ≤ l.length → l.length - i = d → Ev (fun k => impl_EntriesOfKind.l0 k a out l (l.length : Int) (i : Int)) (out ++ selK a (l.drop i), true) := by
  induction d with
  | zero =>
    intro i out ho h1 hd
    refine Ev.step (f := fun _ => some (out, true)) (fun k => ?_) (ev_eq (Ev.now _) ?_)
    · simp only [impl_EntriesOfKind.l0]; rw [if_neg (by omega)]
    · rw [List.drop_of_length_le (by omega)]; simp [selK]
  | succ d ih =>
    intro i out ho h1 hd
    have hi : i < l.length := by omega
    have hw : wrap64 ((i : Int) + 1) = ((i + 1 : Nat) : Int) := by rw [w64 (by omega) (by omega)]; rfl
    have hr := rdIE l i hi
    rw [List.drop_eq_getElem_cons hi]
    by_cases q : (l[i]).f1 = a
    · refine Ev.step (f := fun k => impl_EntriesOfKind.l0 k a (out ++ [(l[i]).f0]) l (l.length : Int) ((i + 1 : Nat) : Int)) (fun k => ?_) (ev_eq (ih (i + 1) (out ++ [(l[i]).f0]) (by rw [List.length_append, List.length_singleton]; omega) (by omega) (by omega)) ?_)
      · simp only [impl_EntriesOfKind.l0, hr, hw]; rw [if_pos (by omega), if_pos (by omega), if_pos (by omega), if_pos q, if_pos (by omega)]
      · simp only [selK]; rw [if_pos q]; simp
    · refine Ev.step (f := fun k => impl_EntriesOfKind.l0 k a out l (l.length : Int) ((i + 1 : Nat) : Int)) (fun k => ?_) (ev_eq (ih (i + 1) out (by omega) (by omega) (by omega)) ?_)
      · simp only [impl_EntriesOfKind.l0, hr, hw]; rw [if_pos (by omega), if_pos (by omega), if_pos (by omega), if_neg q]
      · simp only [selK]; rw [if_neg q]
def ekR (l : List S45) (a : Int) : List ByteArray × Bool := if libD l = true ∧ kindD a = true then (selK a l, true) else ([], false)
theorem spec_ek (l : List S45) (a : Int) (ho : ∀ x ∈ l, EOk x) (hl : l.length ≤ 1048576) : Ev (fun k => spec_EntriesOfKind.f k l a) (ekR l a) := by
  have hk : spec_l1In.f a 1 4 = some (kindD a) := in_kind a
  have no : Ev (fun k => spec_EntriesOfKind.j0 k a ([] : List ByteArray) true l) ([], false) := by
    apply ev_shift
    simp only [spec_EntriesOfKind.j0]
    exact ev_pos trivial (Ev.now _)
  unfold spec_EntriesOfKind.f ekR
  refine ev_bind0 rfl (Ev.bind (spec_lib l ho hl) ?_)
  by_cases c : libD l = true
  · refine ev_pos c (ev_bind0 hk ?_)
    by_cases d : kindD a = true
    · rw [if_pos ⟨c, d⟩, d]
      apply ev_shift
      simp only [spec_EntriesOfKind.j0]
      have := spec_sel l a hl l.length 0 [] (by simp) (by omega) rfl
      rw [List.drop_zero, List.nil_append] at this
      exact ev_neg (by simp) this
    · rw [if_neg (fun x => d x.2), Bool.eq_false_iff.2 d]; exact no
  · rw [if_neg (fun x => c x.1)]
    exact ev_neg c no
theorem impl_ek (l : List S45) (a : Int) (ho : ∀ x ∈ l, EOk x) (hl : l.length ≤ 1048576) : Ev (fun k => impl_EntriesOfKind.f k l a) (ekR l a) := by
  have hk0 : impl_inside.f a 1 4 = some (kindD a) := in_kind a
  have hk : impl_isKind.f a = some (kindD a) := by unfold impl_isKind.f; rw [hk0]; rfl
  have no : Ev (fun k => impl_EntriesOfKind.j0 k a true l) ([], false) := by
    apply ev_shift
    simp only [impl_EntriesOfKind.j0]
    exact ev_pos trivial (Ev.now _)
  unfold impl_EntriesOfKind.f ekR
  refine Ev.bind (impl_lib l ho hl) ?_
  by_cases c : libD l = true
  · refine ev_pos c (ev_bind0 hk ?_)
    by_cases d : kindD a = true
    · rw [if_pos ⟨c, d⟩, d]
      apply ev_shift
      simp only [impl_EntriesOfKind.j0]
      have := impl_sel l a hl l.length 0 [] (by simp) (by omega) rfl
      rw [List.drop_zero, List.nil_append] at this
      exact ev_neg (by simp) this
    · rw [if_neg (fun x => d x.2), Bool.eq_false_iff.2 d]; exact no
  · rw [if_neg (fun x => c x.1)]
    exact ev_neg c no
theorem cntN_le (l : List S70) (h : ∀ x ∈ l, x.f0.length ≤ 1048576) : cntN l ≤ 1048579 * (l.length : Int) := by
  induction l with
  | nil => simp [cntN]
  | cons x r ih =>
    have := ih (fun y hy => h y (List.mem_cons_of_mem _ hy))
    have := h x List.mem_cons_self
    simp only [cntN, elN, List.length_cons]
    omega
theorem cntE_le (l : List S45) (h : ∀ x ∈ l, elE x ≤ 2199040000000) : cntE l ≤ 2199040000000 * (l.length : Int) := by
  induction l with
  | nil => simp [cntE]
  | cons x r ih =>
    have := ih (fun y hy => h y (List.mem_cons_of_mem _ hy))
    have := h x List.mem_cons_self
    simp only [cntE, List.length_cons]
    omega
theorem cntN_conv (l : List S72) (h0 : l.length ≤ 1048576) (h : bulkL l ≤ 1048576) : cntN (l.map conv) ≤ 1099515000000 := by
  have hg := given1 h
  have := cntN_le (l.map conv) (fun x hx => by
    obtain ⟨y, hy, rfl⟩ := List.mem_map.1 hx
    exact hg y hy)
  rw [List.length_map] at this
  omega
theorem mark_ok (l : List S55) (hl : l.length ≤ 1048576) (hs : ∀ x ∈ l, bulk1 x ≤ 1048576) : ∃ r : Int, 0 ≤ r ∧ laws_markLibrary.f (l.map convE) 1 = some r := by
  have h0 := cntE_nonneg (l.map convE)
  have h1 := cntE_le (l.map convE) (fun x hx => by
    obtain ⟨y, hy, rfl⟩ := List.mem_map.1 hx
    have := parts1 (hs y hy)
    have a := cntN_conv y.f2 this.1.1 this.1.2
    have b := cntN_conv y.f3 this.2.1 this.2.2
    show cntN (y.f2.map conv) + cntN (y.f3.map conv) + 12 ≤ 2199040000000
    omega)
  rw [List.length_map] at h1
  refine ⟨1 + cntE (l.map convE), by omega, ?_⟩
  unfold laws_markLibrary.f
  exact if_pos ⟨by omega, by omega⟩
theorem FnExactEntriesOfKind : laws_FnExactEntriesOfKind.Pur := by
  intro l a hb _
  apply Ev.rounds
  unfold laws_FnExactEntriesOfKind.f
  refine Ev.bind (szB_ev l hb.2 hb.1 1048576 (by omega) (by omega)) ?_
  by_cases q : ((l.length + bulkB l : Nat) : Int) ≤ 1048576
  · have hl : lftOf 1048576 (l.length + bulkB l) = 1048576 - (l.length + bulkB l : Nat) := by unfold lftOf; rw [if_pos q]
    rw [hl]
    have hs : ∀ x ∈ l, bulk1 x ≤ 1048576 := fun x hx => by have := bulkB_mem hx; omega
    have ho := convE_ok hs
    have ll : (l.map convE).length ≤ 1048576 := by rw [List.length_map]; omega
    have ht := toB_ev l (by omega) hs
    have he := eqB_same _ ho ll
    obtain ⟨r, hr0, hr⟩ := mark_ok l (by omega) hs
    generalize hL : l.map convE = L at *
    have hi := impl_ek L a ho ll
    have hsp := spec_ek L a ho ll
    generalize hR : ekR L a = R at *
    have hn : R.1.length ≤ 1048576 := by
      rw [← hR]
      unfold ekR
      split
      · have := selK_len a L
        show (selK a L).length ≤ 1048576
        omega
      · show (0 : Nat) ≤ 1048576; omega
    obtain ⟨g, b⟩ := R
    have heq : Ev (fun k => laws_eqStringS.f k g g) true := ev_eq (eqS_ev g g (by have : g.length ≤ 1048576 := hn; omega) (by have : g.length ≤ 1048576 := hn; omega)) (by simp)
    have hm : Ev (fun k => laws_markStringS.f k g 1) (1 + (g.length : Int), mts 1 g.length) := markS_ev g 1 (by omega) (by have : g.length ≤ 1048576 := hn; omega)
    have hh : Ev (fun k => laws_heldStringS.f k (mts 1 g.length) 1) (1 + (g.length : Int)) := heldS_ev 1 g.length (by omega) (by have : g.length ≤ 1048576 := hn; omega)
    have j2 : Ev (fun k => laws_FnExactEntriesOfKind.j2 k (mts 1 g.length) (1 + (g.length : Int)) (b != b)) true := by
      apply ev_shift
      simp only [laws_FnExactEntriesOfKind.j2]
      exact ev_neg (by simp) (Ev.bind hh (ev_neg (by omega) (ev_pos rfl (Ev.now _))))
    have j1 : Ev (fun k => laws_FnExactEntriesOfKind.j1 k a g b g (b != b) l) true := by
      apply ev_shift
      simp only [laws_FnExactEntriesOfKind.j1]
      exact ev_neg (by simp) (Ev.bind hm (Ev.bind hh (ev_neg (by omega) (ev_pos rfl (Ev.bind ht (Ev.bind hi (Ev.bind heq (ev_pos rfl j2))))))))
    have j0 : Ev (fun k => laws_FnExactEntriesOfKind.j0 k a g b g b (b != b) l L) true := by
      apply ev_shift
      simp only [laws_FnExactEntriesOfKind.j0]
      exact ev_neg (by simp) (Ev.bind ht (Ev.bind he (ev_pos rfl (ev_bind0 hr (ev_neg (by omega) (Ev.bind heq (ev_pos rfl j1)))))))
    exact ev_neg (by omega) (Ev.bind ht (Ev.bind hsp (Ev.bind ht (Ev.bind hi (Ev.bind heq (ev_pos rfl j0))))))
  · have hl : lftOf 1048576 (l.length + bulkB l) = -1 := by unfold lftOf; rw [if_neg q]
    rw [hl]
    exact ev_pos (by omega) (Ev.now _)
end Go.Proofs.YthhdodlpbpagfaaDoor.Pure
