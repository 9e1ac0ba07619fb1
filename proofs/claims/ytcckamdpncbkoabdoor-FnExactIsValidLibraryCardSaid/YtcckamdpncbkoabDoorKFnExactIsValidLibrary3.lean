/- Texts of this session for the law FnExactIsValidLibrary, put together by a program (merge.py): each ends with its namespace; conditions stand with each theorem. -/
import Derived.Test.YtcckamdpncbkoabDoorKFnExactIsValidLibrary2
namespace Go.Proofs.YtcckamdpncbkoabDoor.G
open Go.RowKit Go.Proofs.YtcckamdpncbkoabDoorW.PrintWords Go.Proofs.YtcckamdpncbkoabDoorW.PrintLast Go.Proofs.YtcckamdpncbkoabDoorW.PrintMore
open Go.Proofs.YtcckamdpncbkoabDoor.Gl Go.Proofs.YtcckamdpncbkoabDoor.Ext
attribute [local go_sem] max2_int min2_int max_two min_two max_three min_three max_four min_four   -- for this text's walks alone
set_option linter.unusedVariables false
set_option linter.unusedSimpArgs false

/-! ### spec_l4Entry: function 101 -/
mutual
def spec_l4Entry.j0 : Nat → Bool → ByteArray → Int → List (S34) → List (S34) → ByteArray → ByteArray → ByteArray → Int → Int → Int → Bool → Int → ByteArray → ByteArray → Option (Bool)
 | 0, _, _, _, _, _, _, _, _, _, _, _, _, _, _, _ => none
 | k + 1, x24, x633000, x633001, x633002, x633003, x633004, x633005, x633006, x633007, x633008, x633009, x633010, x633011, x633012, x633013 => if x24 = true then (some false) else ((spec_l4Text.f k x633004).bind fun t637 => (if t637 = true then ((spec_l4Text.f k x633005).bind fun t638 => (if t638 = true then ((spec_l4Text.f k x633006).bind fun t639 => (if t639 = true then ((spec_l4Text.f k x633012).bind fun t640 => (spec_l4Entry.j1 k (!t640) x633000 x633001 x633002 x633003 x633004 x633005 x633006 x633007 x633008 x633009 x633010 x633011 x633012 x633013)) else (spec_l4Entry.j1 k true x633000 x633001 x633002 x633003 x633004 x633005 x633006 x633007 x633008 x633009 x633010 x633011 x633012 x633013))) else (spec_l4Entry.j1 k true x633000 x633001 x633002 x633003 x633004 x633005 x633006 x633007 x633008 x633009 x633010 x633011 x633012 x633013))) else (spec_l4Entry.j1 k true x633000 x633001 x633002 x633003 x633004 x633005 x633006 x633007 x633008 x633009 x633010 x633011 x633012 x633013)))
def spec_l4Entry.j1 : Nat → Bool → ByteArray → Int → List (S34) → List (S34) → ByteArray → ByteArray → ByteArray → Int → Int → Int → Bool → Int → ByteArray → ByteArray → Option (Bool)
 | 0, _, _, _, _, _, _, _, _, _, _, _, _, _, _, _ => none
 | k + 1, x46, x633000, x633001, x633002, x633003, x633004, x633005, x633006, x633007, x633008, x633009, x633010, x633011, x633012, x633013 => if x46 = true then (some false) else ((spec_l3Good.f k x633007 x633008 x633009 x633010).bind fun t641 => (if t641 = true then ((spec_l1In.f x633011 0 9999).bind fun t642 => (if t642 = true then (if x633013.toList = ([] : List UInt8) then (some true) else ((spec_l4Key.f k x633013).bind fun t643 => (if t643 = true then (some (x633013.toList != x633000.toList)) else (some false)))) else (some false))) else (some false)))
end
def spec_l4Entry.f (k : Nat) (a0_0 : ByteArray) (a0_1 : Int) (l0_2 : List (S34)) (l0_3 : List (S34)) (a0_4 : ByteArray) (a0_5 : ByteArray) (a0_6 : ByteArray) (a0_7 : Int) (a0_8 : Int) (a0_9 : Int) (a0_10 : Bool) (a0_11 : Int) (a0_12 : ByteArray) (a0_13 : ByteArray) : Option (Bool) := (spec_l4Key.f k a0_0).bind fun t633 => (if t633 = true then ((spec_l1In.f a0_1 1 4).bind fun t634 => (if t634 = true then ((spec_l2List.f k l0_2).bind fun t635 => (if t635 = true then ((spec_l2List.f k l0_3).bind fun t636 => (spec_l4Entry.j0 k (!t636) a0_0 a0_1 l0_2 l0_3 a0_4 a0_5 a0_6 a0_7 a0_8 a0_9 a0_10 a0_11 a0_12 a0_13)) else (spec_l4Entry.j0 k true a0_0 a0_1 l0_2 l0_3 a0_4 a0_5 a0_6 a0_7 a0_8 a0_9 a0_10 a0_11 a0_12 a0_13))) else (spec_l4Entry.j0 k true a0_0 a0_1 l0_2 l0_3 a0_4 a0_5 a0_6 a0_7 a0_8 a0_9 a0_10 a0_11 a0_12 a0_13))) else (spec_l4Entry.j0 k true a0_0 a0_1 l0_2 l0_3 a0_4 a0_5 a0_6 a0_7 a0_8 a0_9 a0_10 a0_11 a0_12 a0_13))
theorem spec_l4Entry.mono_l : ∀ k, (∀ y0 y1 y2 y3 y4 y5 y6 y7 y8 y9 y10 y11 y12 y13 y14, LeO (spec_l4Entry.j0 k y0 y1 y2 y3 y4 y5 y6 y7 y8 y9 y10 y11 y12 y13 y14) (spec_l4Entry.j0 (k + 1) y0 y1 y2 y3 y4 y5 y6 y7 y8 y9 y10 y11 y12 y13 y14)) ∧ (∀ y0 y1 y2 y3 y4 y5 y6 y7 y8 y9 y10 y11 y12 y13 y14, LeO (spec_l4Entry.j1 k y0 y1 y2 y3 y4 y5 y6 y7 y8 y9 y10 y11 y12 y13 y14) (spec_l4Entry.j1 (k + 1) y0 y1 y2 y3 y4 y5 y6 y7 y8 y9 y10 y11 y12 y13 y14))
 | 0 => ⟨fun _ _ _ _ _ _ _ _ _ _ _ _ _ _ _ r h => by simp [spec_l4Entry.j0] at h, fun _ _ _ _ _ _ _ _ _ _ _ _ _ _ _ r h => by simp [spec_l4Entry.j1] at h⟩
 | k + 1 => by
  obtain ⟨ih0, ih1⟩ := spec_l4Entry.mono_l k
  refine ⟨?_, ?_⟩
  ·
   intro y0 y1 y2 y3 y4 y5 y6 y7 y8 y9 y10 y11 y12 y13 y14
   unfold spec_l4Entry.j0
   repeat' first
   | (with_reducible exact ih0 _ _ _ _ _ _ _ _ _ _ _ _ _ _ _)
   | (with_reducible exact ih1 _ _ _ _ _ _ _ _ _ _ _ _ _ _ _)
   | (with_reducible exact spec_l2List.mono _ _)
   | (with_reducible exact spec_l3Good.mono _ _ _ _ _)
   | (with_reducible exact spec_l4Key.mono _ _)
   | (with_reducible exact spec_l4Text.mono _ _)
   | (with_reducible exact LeO.refl _)
   | (with_reducible exact LeO.none _)
   | (with_reducible refine LeO.ite ?_ ?_)
   | (with_reducible refine LeO.bind ?_ (fun _ => ?_))
   | exact ih0 _ _ _ _ _ _ _ _ _ _ _ _ _ _ _
   | exact ih1 _ _ _ _ _ _ _ _ _ _ _ _ _ _ _
   | exact spec_l2List.mono _ _
   | exact spec_l3Good.mono _ _ _ _ _
   | exact spec_l4Key.mono _ _
   | exact spec_l4Text.mono _ _
   | exact LeO.none _
   | refine LeO.ite ?_ ?_
   | refine LeO.bind ?_ (fun _ => ?_)
  ·
   intro y0 y1 y2 y3 y4 y5 y6 y7 y8 y9 y10 y11 y12 y13 y14
   unfold spec_l4Entry.j1
   repeat' first
   | (with_reducible exact ih0 _ _ _ _ _ _ _ _ _ _ _ _ _ _ _)
   | (with_reducible exact ih1 _ _ _ _ _ _ _ _ _ _ _ _ _ _ _)
   | (with_reducible exact spec_l2List.mono _ _)
   | (with_reducible exact spec_l3Good.mono _ _ _ _ _)
   | (with_reducible exact spec_l4Key.mono _ _)
   | (with_reducible exact spec_l4Text.mono _ _)
   | (with_reducible exact LeO.refl _)
   | (with_reducible exact LeO.none _)
   | (with_reducible refine LeO.ite ?_ ?_)
   | (with_reducible refine LeO.bind ?_ (fun _ => ?_))
   | exact ih0 _ _ _ _ _ _ _ _ _ _ _ _ _ _ _
   | exact ih1 _ _ _ _ _ _ _ _ _ _ _ _ _ _ _
   | exact spec_l2List.mono _ _
   | exact spec_l3Good.mono _ _ _ _ _
   | exact spec_l4Key.mono _ _
   | exact spec_l4Text.mono _ _
   | exact LeO.none _
   | refine LeO.ite ?_ ?_
   | refine LeO.bind ?_ (fun _ => ?_)
theorem spec_l4Entry.mono : ∀ a0 a1 a2 a3 a4 a5 a6 a7 a8 a9 a10 a11 a12 a13 k, LeO (spec_l4Entry.f k a0 a1 a2 a3 a4 a5 a6 a7 a8 a9 a10 a11 a12 a13) (spec_l4Entry.f (k + 1) a0 a1 a2 a3 a4 a5 a6 a7 a8 a9 a10 a11 a12 a13) := by
 intro a0 a1 a2 a3 a4 a5 a6 a7 a8 a9 a10 a11 a12 a13 k
 obtain ⟨ih0, ih1⟩ := spec_l4Entry.mono_l k
 unfold spec_l4Entry.f
 repeat' first
   | (with_reducible exact ih0 _ _ _ _ _ _ _ _ _ _ _ _ _ _ _)
   | (with_reducible exact ih1 _ _ _ _ _ _ _ _ _ _ _ _ _ _ _)
   | (with_reducible exact spec_l2List.mono _ _)
   | (with_reducible exact spec_l3Good.mono _ _ _ _ _)
   | (with_reducible exact spec_l4Key.mono _ _)
   | (with_reducible exact spec_l4Text.mono _ _)
   | (with_reducible exact LeO.refl _)
   | (with_reducible exact LeO.none _)
   | (with_reducible refine LeO.ite ?_ ?_)
   | (with_reducible refine LeO.bind ?_ (fun _ => ?_))
   | exact ih0 _ _ _ _ _ _ _ _ _ _ _ _ _ _ _
   | exact ih1 _ _ _ _ _ _ _ _ _ _ _ _ _ _ _
   | exact spec_l2List.mono _ _
   | exact spec_l3Good.mono _ _ _ _ _
   | exact spec_l4Key.mono _ _
   | exact spec_l4Text.mono _ _
   | exact LeO.none _
   | refine LeO.ite ?_ ?_
   | refine LeO.bind ?_ (fun _ => ?_)
set_option maxRecDepth 100000 in
theorem spec_l4Entry.L0 {P : Prop} (h : P := by
  have hcz43_0 : wc.cell? ⟨gb632, 0, none⟩ = some (.string a0_0) := (blk_cell BK632.out 0).trans rfl
  have hcz43_1 : wc.cell? ⟨gb632, 1, none⟩ = some (.int .i64 a0_1) := (blk_cell BK632.out 1).trans rfl
  have hcz43_2 : wc.cell? ⟨gb632, 2, none⟩ = some (.slice A0_2 l0_2.length c0_2) := (blk_cell BK632.out 2).trans rfl
  have hcz43_3 : wc.cell? ⟨gb632, 3, none⟩ = some (.slice A0_3 l0_3.length c0_3) := (blk_cell BK632.out 3).trans rfl
  have hcz43_4 : wc.cell? ⟨gb632, 4, none⟩ = some (.string a0_4) := (blk_cell BK632.out 4).trans rfl
  have hcz43_5 : wc.cell? ⟨gb632, 5, none⟩ = some (.string a0_5) := (blk_cell BK632.out 5).trans rfl
  have hcz43_6 : wc.cell? ⟨gb632, 6, none⟩ = some (.string a0_6) := (blk_cell BK632.out 6).trans rfl
  have hcz43_7 : wc.cell? ⟨gb632, 7, none⟩ = some (.int .i64 a0_7) := (blk_cell BK632.out 7).trans rfl
  have hcz43_8 : wc.cell? ⟨gb632, 8, none⟩ = some (.int .i64 a0_8) := (blk_cell BK632.out 8).trans rfl
  have hcz43_9 : wc.cell? ⟨gb632, 9, none⟩ = some (.int .i64 a0_9) := (blk_cell BK632.out 9).trans rfl
  have hcz43_10 : wc.cell? ⟨gb632, 10, none⟩ = some (.bool a0_10) := (blk_cell BK632.out 10).trans rfl
  have hcz43_11 : wc.cell? ⟨gb632, 11, none⟩ = some (.int .i64 a0_11) := (blk_cell BK632.out 11).trans rfl
  have hcz43_12 : wc.cell? ⟨gb632, 12, none⟩ = some (.string a0_12) := (blk_cell BK632.out 12).trans rfl
  have hcz43_13 : wc.cell? ⟨gb632, 13, none⟩ = some (.string a0_13) := (blk_cell BK632.out 13).trans rfl
  have hfz43_0 := blk_frozen BK632.out 0
  have hfz43_1 := blk_frozen BK632.out 1
  have hfz43_2 := blk_frozen BK632.out 2
  have hfz43_3 := blk_frozen BK632.out 3
  have hfz43_4 := blk_frozen BK632.out 4
  have hfz43_5 := blk_frozen BK632.out 5
  have hfz43_6 := blk_frozen BK632.out 6
  have hfz43_7 := blk_frozen BK632.out 7
  have hfz43_8 := blk_frozen BK632.out 8
  have hfz43_9 := blk_frozen BK632.out 9
  have hfz43_10 := blk_frozen BK632.out 10
  have hfz43_11 := blk_frozen BK632.out 11
  have hfz43_12 := blk_frozen BK632.out 12
  have hfz43_13 := blk_frozen BK632.out 13
  go_wp2_with (first | ((with_reducible refine gate_callee (f := 151) rfl ?_); refine goesL_ (some 49) rfl rfl Tryd.func151 (by kernel_rfl) rfl #[.agg #[.int .i64 a0_7, .int .i64 a0_8, .int .i64 a0_9, .bool a0_10]] rfl au30 ?_; (with_reducible refine (spec_l3Good.calls kj19 a0_7 a0_8 a0_9 a0_10 _ _ A33.out).mono ?_); rintro e w44 ⟨rfl, hb⟩; refine ⟨_, rfl, ?_⟩; have n0_ := Aside0.mk (blk_below (g := gb632) (o := .cells #[.string a0_0, .int .i64 a0_1, .slice A0_2 l0_2.length c0_2, .slice A0_3 l0_3.length c0_3, .string a0_4, .string a0_5, .string a0_6, .int .i64 a0_7, .int .i64 a0_8, .int .i64 a0_9, .bool a0_10, .int .i64 a0_11, .string a0_12, .string a0_13] 65 (0, 0)) au35 hb); have n1_ := Aside0.mk (below_step au16 hb); clear BK632; clear HB; have BK632 := n0_; have HB := n1_; clear n0_ n1_; (try clear hb); (try clear hb2); (try clear hk); (try clear hi); have hcz45_0 : w44.cell? ⟨gb632, 0, none⟩ = some (.string a0_0) := (blk_cell BK632.out 0).trans rfl; have hcz45_1 : w44.cell? ⟨gb632, 1, none⟩ = some (.int .i64 a0_1) := (blk_cell BK632.out 1).trans rfl; have hcz45_2 : w44.cell? ⟨gb632, 2, none⟩ = some (.slice A0_2 l0_2.length c0_2) := (blk_cell BK632.out 2).trans rfl; have hcz45_3 : w44.cell? ⟨gb632, 3, none⟩ = some (.slice A0_3 l0_3.length c0_3) := (blk_cell BK632.out 3).trans rfl; have hcz45_4 : w44.cell? ⟨gb632, 4, none⟩ = some (.string a0_4) := (blk_cell BK632.out 4).trans rfl; have hcz45_5 : w44.cell? ⟨gb632, 5, none⟩ = some (.string a0_5) := (blk_cell BK632.out 5).trans rfl; have hcz45_6 : w44.cell? ⟨gb632, 6, none⟩ = some (.string a0_6) := (blk_cell BK632.out 6).trans rfl; have hcz45_7 : w44.cell? ⟨gb632, 7, none⟩ = some (.int .i64 a0_7) := (blk_cell BK632.out 7).trans rfl; have hcz45_8 : w44.cell? ⟨gb632, 8, none⟩ = some (.int .i64 a0_8) := (blk_cell BK632.out 8).trans rfl; have hcz45_9 : w44.cell? ⟨gb632, 9, none⟩ = some (.int .i64 a0_9) := (blk_cell BK632.out 9).trans rfl; have hcz45_10 : w44.cell? ⟨gb632, 10, none⟩ = some (.bool a0_10) := (blk_cell BK632.out 10).trans rfl; have hcz45_11 : w44.cell? ⟨gb632, 11, none⟩ = some (.int .i64 a0_11) := (blk_cell BK632.out 11).trans rfl; have hcz45_12 : w44.cell? ⟨gb632, 12, none⟩ = some (.string a0_12) := (blk_cell BK632.out 12).trans rfl; have hcz45_13 : w44.cell? ⟨gb632, 13, none⟩ = some (.string a0_13) := (blk_cell BK632.out 13).trans rfl; have hfz45_0 := blk_frozen BK632.out 0; have hfz45_1 := blk_frozen BK632.out 1; have hfz45_2 := blk_frozen BK632.out 2; have hfz45_3 := blk_frozen BK632.out 3; have hfz45_4 := blk_frozen BK632.out 4; have hfz45_5 := blk_frozen BK632.out 5; have hfz45_6 := blk_frozen BK632.out 6; have hfz45_7 := blk_frozen BK632.out 7; have hfz45_8 := blk_frozen BK632.out 8; have hfz45_9 := blk_frozen BK632.out 9; have hfz45_10 := blk_frozen BK632.out 10; have hfz45_11 := blk_frozen BK632.out 11; have hfz45_12 := blk_frozen BK632.out 12; have hfz45_13 := blk_frozen BK632.out 13) | (go_at_call 61; (with_reducible refine (spec_l1In.calls a0_11 0 9999 _ _ A35.out).mono ?_); rintro e w' ⟨rfl, ⟨nd, rfl⟩⟩) | (go_at_call 149; (with_reducible refine (spec_l4Key.calls kj19 a0_13 _ _ A41.out).mono ?_); rintro e w' ⟨rfl, ⟨nd, rfl⟩⟩))
  go_ret
  exact ax7) : P := h
set_option maxRecDepth 100000 in
theorem spec_l4Entry.L1 {P : Prop} (h : P := by
  have hcz28_0 : wc.cell? ⟨gb632, 0, none⟩ = some (.string a0_0) := (blk_cell BK632.out 0).trans rfl
  have hcz28_1 : wc.cell? ⟨gb632, 1, none⟩ = some (.int .i64 a0_1) := (blk_cell BK632.out 1).trans rfl
  have hcz28_2 : wc.cell? ⟨gb632, 2, none⟩ = some (.slice A0_2 l0_2.length c0_2) := (blk_cell BK632.out 2).trans rfl
  have hcz28_3 : wc.cell? ⟨gb632, 3, none⟩ = some (.slice A0_3 l0_3.length c0_3) := (blk_cell BK632.out 3).trans rfl
  have hcz28_4 : wc.cell? ⟨gb632, 4, none⟩ = some (.string a0_4) := (blk_cell BK632.out 4).trans rfl
  have hcz28_5 : wc.cell? ⟨gb632, 5, none⟩ = some (.string a0_5) := (blk_cell BK632.out 5).trans rfl
  have hcz28_6 : wc.cell? ⟨gb632, 6, none⟩ = some (.string a0_6) := (blk_cell BK632.out 6).trans rfl
  have hcz28_7 : wc.cell? ⟨gb632, 7, none⟩ = some (.int .i64 a0_7) := (blk_cell BK632.out 7).trans rfl
  have hcz28_8 : wc.cell? ⟨gb632, 8, none⟩ = some (.int .i64 a0_8) := (blk_cell BK632.out 8).trans rfl
  have hcz28_9 : wc.cell? ⟨gb632, 9, none⟩ = some (.int .i64 a0_9) := (blk_cell BK632.out 9).trans rfl
  have hcz28_10 : wc.cell? ⟨gb632, 10, none⟩ = some (.bool a0_10) := (blk_cell BK632.out 10).trans rfl
  have hcz28_11 : wc.cell? ⟨gb632, 11, none⟩ = some (.int .i64 a0_11) := (blk_cell BK632.out 11).trans rfl
  have hcz28_12 : wc.cell? ⟨gb632, 12, none⟩ = some (.string a0_12) := (blk_cell BK632.out 12).trans rfl
  have hcz28_13 : wc.cell? ⟨gb632, 13, none⟩ = some (.string a0_13) := (blk_cell BK632.out 13).trans rfl
  have hfz28_0 := blk_frozen BK632.out 0
  have hfz28_1 := blk_frozen BK632.out 1
  have hfz28_2 := blk_frozen BK632.out 2
  have hfz28_3 := blk_frozen BK632.out 3
  have hfz28_4 := blk_frozen BK632.out 4
  have hfz28_5 := blk_frozen BK632.out 5
  have hfz28_6 := blk_frozen BK632.out 6
  have hfz28_7 := blk_frozen BK632.out 7
  have hfz28_8 := blk_frozen BK632.out 8
  have hfz28_9 := blk_frozen BK632.out 9
  have hfz28_10 := blk_frozen BK632.out 10
  have hfz28_11 := blk_frozen BK632.out 11
  have hfz28_12 := blk_frozen BK632.out 12
  have hfz28_13 := blk_frozen BK632.out 13
  go_wp2_with (first | ((with_reducible refine gate_callee (f := 150) rfl ?_); refine goesL_ (some 27) rfl rfl Tryd.func150 (by kernel_rfl) rfl #[.string a0_4] rfl au30 ?_; (with_reducible refine (spec_l4Text.calls kj1 a0_4 _ _ A21.out).mono ?_); rintro e w' ⟨rfl, ⟨nd, rfl⟩⟩; refine ⟨_, rfl, ?_⟩) | (go_at_call 150; (with_reducible refine (spec_l4Text.calls kj1 a0_5 _ _ A23.out).mono ?_); rintro e w' ⟨rfl, ⟨nd, rfl⟩⟩) | (go_at_call 150; (with_reducible refine (spec_l4Text.calls kj1 a0_6 _ _ A25.out).mono ?_); rintro e w' ⟨rfl, ⟨nd, rfl⟩⟩) | (go_at_call 150; (with_reducible refine (spec_l4Text.calls kj1 a0_12 t640 _ A27.out).mono ?_); rintro e w' ⟨rfl, ⟨nd, rfl⟩⟩))
  go_meet
  case rel => first | (exact ⟨_, (!t640), au61, H', ⟨by have := HJ1.out; first | omega | exact Nat.le_refl _⟩, ⟨by (with_reducible repeat (first | refine blk_drewN ?_ _ | refine blk_drew ?_ | refine blk_alloc ?_ _)); exact BK632.out⟩, ⟨by repeat (first | (with_reducible first | exact HB.out | apply below_alloc | apply pw_below_drewN | apply below_drew1 | refine below_set ?_ GE632.out) | exact HB.out)⟩⟩) | (exact ⟨_, (true), au61, H', ⟨by have := HJ1.out; first | omega | exact Nat.le_refl _⟩, ⟨by (with_reducible repeat (first | refine blk_drewN ?_ _ | refine blk_drew ?_ | refine blk_alloc ?_ _)); exact BK632.out⟩, ⟨by repeat (first | (with_reducible first | exact HB.out | apply below_alloc | apply pw_below_drewN | apply below_drew1 | refine below_set ?_ GE632.out) | exact HB.out)⟩⟩)) : P := h
set_option maxRecDepth 100000 in
theorem spec_l4Entry.L2 {P : Prop} (h : P := by
  have hcz17_0 : w3.cell? ⟨gb632, 0, none⟩ = some (.string a0_0) := (blk_cell BK632.out 0).trans rfl
  have hcz17_1 : w3.cell? ⟨gb632, 1, none⟩ = some (.int .i64 a0_1) := (blk_cell BK632.out 1).trans rfl
  have hcz17_2 : w3.cell? ⟨gb632, 2, none⟩ = some (.slice A0_2 l0_2.length c0_2) := (blk_cell BK632.out 2).trans rfl
  have hcz17_3 : w3.cell? ⟨gb632, 3, none⟩ = some (.slice A0_3 l0_3.length c0_3) := (blk_cell BK632.out 3).trans rfl
  have hcz17_4 : w3.cell? ⟨gb632, 4, none⟩ = some (.string a0_4) := (blk_cell BK632.out 4).trans rfl
  have hcz17_5 : w3.cell? ⟨gb632, 5, none⟩ = some (.string a0_5) := (blk_cell BK632.out 5).trans rfl
  have hcz17_6 : w3.cell? ⟨gb632, 6, none⟩ = some (.string a0_6) := (blk_cell BK632.out 6).trans rfl
  have hcz17_7 : w3.cell? ⟨gb632, 7, none⟩ = some (.int .i64 a0_7) := (blk_cell BK632.out 7).trans rfl
  have hcz17_8 : w3.cell? ⟨gb632, 8, none⟩ = some (.int .i64 a0_8) := (blk_cell BK632.out 8).trans rfl
  have hcz17_9 : w3.cell? ⟨gb632, 9, none⟩ = some (.int .i64 a0_9) := (blk_cell BK632.out 9).trans rfl
  have hcz17_10 : w3.cell? ⟨gb632, 10, none⟩ = some (.bool a0_10) := (blk_cell BK632.out 10).trans rfl
  have hcz17_11 : w3.cell? ⟨gb632, 11, none⟩ = some (.int .i64 a0_11) := (blk_cell BK632.out 11).trans rfl
  have hcz17_12 : w3.cell? ⟨gb632, 12, none⟩ = some (.string a0_12) := (blk_cell BK632.out 12).trans rfl
  have hcz17_13 : w3.cell? ⟨gb632, 13, none⟩ = some (.string a0_13) := (blk_cell BK632.out 13).trans rfl
  have hfz17_0 := blk_frozen BK632.out 0
  have hfz17_1 := blk_frozen BK632.out 1
  have hfz17_2 := blk_frozen BK632.out 2
  have hfz17_3 := blk_frozen BK632.out 3
  have hfz17_4 := blk_frozen BK632.out 4
  have hfz17_5 := blk_frozen BK632.out 5
  have hfz17_6 := blk_frozen BK632.out 6
  have hfz17_7 := blk_frozen BK632.out 7
  have hfz17_8 := blk_frozen BK632.out 8
  have hfz17_9 := blk_frozen BK632.out 9
  have hfz17_10 := blk_frozen BK632.out 10
  have hfz17_11 := blk_frozen BK632.out 11
  have hfz17_12 := blk_frozen BK632.out 12
  have hfz17_13 := blk_frozen BK632.out 13
  go_wp2_with (first | ((with_reducible refine gate_callee (f := 149) rfl ?_); refine goesL_ (some 5) rfl rfl Tryd.func149 (by kernel_rfl) rfl #[.string a0_0] rfl au30 ?_; (with_reducible refine (spec_l4Key.calls k a0_0 _ _ A4.out).mono ?_); rintro e w' ⟨rfl, ⟨nd, rfl⟩⟩; refine ⟨_, rfl, ?_⟩) | (go_at_call 61; (with_reducible refine (spec_l1In.calls a0_1 1 4 _ _ A6.out).mono ?_); rintro e w' ⟨rfl, ⟨nd, rfl⟩⟩))
  go_meet
  case rel => exact ⟨_, (true), au61, H', ⟨by first | omega | exact Nat.le_refl _⟩, ⟨by (with_reducible repeat (first | refine blk_drewN ?_ _ | refine blk_drew ?_ | refine blk_alloc ?_ _)); exact BK632.out⟩, ⟨by repeat (first | (with_reducible first | exact HB.out | apply below_alloc | apply pw_below_drewN | apply below_drew1 | refine below_set ?_ GE632.out) | exact HB.out)⟩⟩) : P := h
set_option maxHeartbeats 8000000 in
set_option maxRecDepth 100000 in
theorem spec_l4Entry.calls (k : Nat) (a0_0 : ByteArray) (a0_1 : Int) (A0_2 : Option Addr) (c0_2 : Nat) (l0_2 : List (S34)) (A0_3 : Option Addr) (c0_3 : Nat) (l0_3 : List (S34)) (a0_4 : ByteArray) (a0_5 : ByteArray) (a0_6 : ByteArray) (a0_7 : Int) (a0_8 : Int) (a0_9 : Int) (a0_10 : Bool) (a0_11 : Int) (a0_12 : ByteArray) (a0_13 : ByteArray) (r : Bool) (w : World) (hr0_2 : Kd.C k34 w A0_2 l0_2.length l0_2) (hc0_2 : l0_2.length ≤ c0_2) (hr0_3 : Kd.C k34 w A0_3 l0_3.length l0_3) (hc0_3 : l0_3.length ≤ c0_3) (h : spec_l4Entry.f k a0_0 a0_1 l0_2 l0_3 a0_4 a0_5 a0_6 a0_7 a0_8 a0_9 a0_10 a0_11 a0_12 a0_13 = some r) :
  Calls Tryd.prog 101 #[.agg #[.string a0_0, .int .i64 a0_1, .slice A0_2 l0_2.length c0_2, .slice A0_3 l0_3.length c0_3, .string a0_4, .string a0_5, .string a0_6, .int .i64 a0_7, .int .i64 a0_8, .int .i64 a0_9, .bool a0_10, .int .i64 a0_11, .string a0_12, .string a0_13]] w fun e w' => e = .returned (.bool r) ∧ Below w.heap.size w w' := by
 have hu65 := Tryd.underlying65
 have hu63 := Tryd.underlying63
 have HR0_2 := Aside0.mk hr0_2
 have HC0_2 := Aside0.mk hc0_2
 clear hr0_2 hc0_2
 have HR0_3 := Aside0.mk hr0_3
 have HC0_3 := Aside0.mk hc0_3
 clear hr0_3 hc0_3
 have HB := Aside0.mk (Below.refl w.heap.size w)
 have H : ((spec_l4Key.f k a0_0).bind fun t633 => (if t633 = true then ((spec_l1In.f a0_1 1 4).bind fun t634 => (if t634 = true then ((spec_l2List.f k l0_2).bind fun t635 => (if t635 = true then ((spec_l2List.f k l0_3).bind fun t636 => (spec_l4Entry.j0 k (!t636) a0_0 a0_1 l0_2 l0_3 a0_4 a0_5 a0_6 a0_7 a0_8 a0_9 a0_10 a0_11 a0_12 a0_13)) else (spec_l4Entry.j0 k true a0_0 a0_1 l0_2 l0_3 a0_4 a0_5 a0_6 a0_7 a0_8 a0_9 a0_10 a0_11 a0_12 a0_13))) else (spec_l4Entry.j0 k true a0_0 a0_1 l0_2 l0_3 a0_4 a0_5 a0_6 a0_7 a0_8 a0_9 a0_10 a0_11 a0_12 a0_13))) else (spec_l4Entry.j0 k true a0_0 a0_1 l0_2 l0_3 a0_4 a0_5 a0_6 a0_7 a0_8 a0_9 a0_10 a0_11 a0_12 a0_13))) = some r := h
 clear h
 have HC2 := Aside0.mk H
 clear H
 go_enter Tryd.func101, Tryd.ntmps101
 go_upto_region 1 with (first | ((with_reducible refine gate_dst (N := 1) rfl ?_); refine box_event ?hg (N := 1) ?hd (cs := #[.string a0_0, .int .i64 a0_1, .slice A0_2 l0_2.length c0_2, .slice A0_3 l0_3.length c0_3, .string a0_4, .string a0_5, .string a0_6, .int .i64 a0_7, .int .i64 a0_8, .int .i64 a0_9, .bool a0_10, .int .i64 a0_11, .string a0_12, .string a0_13]) (t := 65) ?hr ?_; (case hd => rfl); (case hg => rfl); (case hr => first | (go_simp; done) | (go_simp; rfl)); intro gb632 hg w3 hbox hb; have n0_ := Aside0.mk (below_step au31 hb); have n1_ := Aside0.mk (hbox); have n2_ := Aside0.mk ((by rw [hg]; exact (below_size au31) : w.heap.size ≤ gb632)); have n3_ := Aside0.mk ((by rw [hg]; exact (below_size au31) : w.heap.size ≤ gb632)); clear HB; have HB := n0_; have BK632 := n1_; have GW632 := n2_; have GE632 := n3_; clear n0_ n1_ n2_ n3_; clear hb hbox hg))
 (try simp only [Act.put, List.setIfInBounds_toArray, List.set_cons_zero, List.set_cons_succ])
 go_cut [24] (fun v24 wc => ∃ (kq : Nat) (x24_1 : Bool), v24 = .bool x24_1 ∧ Aside0 (spec_l4Entry.j0 kq x24_1 a0_0 a0_1 l0_2 l0_3 a0_4 a0_5 a0_6 a0_7 a0_8 a0_9 a0_10 a0_11 a0_12 a0_13 = some r) ∧ Aside0 (kq ≤ k) ∧ Aside0 (wc.heap[gb632]? = some (.cells #[.string a0_0, .int .i64 a0_1, (.slice A0_2 l0_2.length c0_2), (.slice A0_3 l0_3.length c0_3), .string a0_4, .string a0_5, .string a0_6, .int .i64 a0_7, .int .i64 a0_8, .int .i64 a0_9, .bool a0_10, .int .i64 a0_11, .string a0_12, .string a0_13] 65 (0, 0))) ∧ Aside0 (Below w.heap.size w wc))
 case first =>
  have H := HC2.out
  clear HC2
  replace H := Option.bind_eq_some_iff.mp H
  obtain ⟨t633, A40, H⟩ := H
  try dsimp only at H
  have A4 := Aside0.mk A40
  clear A40
  by_cases c5 : t633 = true
  ·
   subst c5
   replace H := (if_pos rfl).symm.trans H
   replace H := Option.bind_eq_some_iff.mp H
   obtain ⟨t634, A60, H⟩ := H
   try dsimp only at H
   have A6 := Aside0.mk A60
   clear A60
   by_cases c7 : t634 = true
   ·
    subst c7
    replace H := (if_pos rfl).symm.trans H
    replace H := Option.bind_eq_some_iff.mp H
    obtain ⟨t635, A80, H⟩ := H
    try dsimp only at H
    have A8 := Aside0.mk A80
    clear A80
    by_cases c9 : t635 = true
    ·
     subst c9
     replace H := (if_pos rfl).symm.trans H
     replace H := Option.bind_eq_some_iff.mp H
     obtain ⟨t636, A100, H⟩ := H
     try dsimp only at H
     have A10 := Aside0.mk A100
     clear A100
     have H' := Aside0.mk H
     clear H
     have hcz11_0 : w3.cell? ⟨gb632, 0, none⟩ = some (.string a0_0) := (blk_cell BK632.out 0).trans rfl
     have hcz11_1 : w3.cell? ⟨gb632, 1, none⟩ = some (.int .i64 a0_1) := (blk_cell BK632.out 1).trans rfl
     have hcz11_2 : w3.cell? ⟨gb632, 2, none⟩ = some (.slice A0_2 l0_2.length c0_2) := (blk_cell BK632.out 2).trans rfl
     have hcz11_3 : w3.cell? ⟨gb632, 3, none⟩ = some (.slice A0_3 l0_3.length c0_3) := (blk_cell BK632.out 3).trans rfl
     have hcz11_4 : w3.cell? ⟨gb632, 4, none⟩ = some (.string a0_4) := (blk_cell BK632.out 4).trans rfl
     have hcz11_5 : w3.cell? ⟨gb632, 5, none⟩ = some (.string a0_5) := (blk_cell BK632.out 5).trans rfl
     have hcz11_6 : w3.cell? ⟨gb632, 6, none⟩ = some (.string a0_6) := (blk_cell BK632.out 6).trans rfl
     have hcz11_7 : w3.cell? ⟨gb632, 7, none⟩ = some (.int .i64 a0_7) := (blk_cell BK632.out 7).trans rfl
     have hcz11_8 : w3.cell? ⟨gb632, 8, none⟩ = some (.int .i64 a0_8) := (blk_cell BK632.out 8).trans rfl
     have hcz11_9 : w3.cell? ⟨gb632, 9, none⟩ = some (.int .i64 a0_9) := (blk_cell BK632.out 9).trans rfl
     have hcz11_10 : w3.cell? ⟨gb632, 10, none⟩ = some (.bool a0_10) := (blk_cell BK632.out 10).trans rfl
     have hcz11_11 : w3.cell? ⟨gb632, 11, none⟩ = some (.int .i64 a0_11) := (blk_cell BK632.out 11).trans rfl
     have hcz11_12 : w3.cell? ⟨gb632, 12, none⟩ = some (.string a0_12) := (blk_cell BK632.out 12).trans rfl
     have hcz11_13 : w3.cell? ⟨gb632, 13, none⟩ = some (.string a0_13) := (blk_cell BK632.out 13).trans rfl
     have hfz11_0 := blk_frozen BK632.out 0
     have hfz11_1 := blk_frozen BK632.out 1
     have hfz11_2 := blk_frozen BK632.out 2
     have hfz11_3 := blk_frozen BK632.out 3
     have hfz11_4 := blk_frozen BK632.out 4
     have hfz11_5 := blk_frozen BK632.out 5
     have hfz11_6 := blk_frozen BK632.out 6
     have hfz11_7 := blk_frozen BK632.out 7
     have hfz11_8 := blk_frozen BK632.out 8
     have hfz11_9 := blk_frozen BK632.out 9
     have hfz11_10 := blk_frozen BK632.out 10
     have hfz11_11 := blk_frozen BK632.out 11
     have hfz11_12 := blk_frozen BK632.out 12
     have hfz11_13 := blk_frozen BK632.out 13
     go_wp2_with (first | ((with_reducible refine gate_callee (f := 149) rfl ?_); refine goesL_ (some 5) rfl rfl Tryd.func149 (by kernel_rfl) rfl #[.string a0_0] rfl au30 ?_; (with_reducible refine (spec_l4Key.calls k a0_0 _ _ A4.out).mono ?_); rintro e w' ⟨rfl, ⟨nd, rfl⟩⟩; refine ⟨_, rfl, ?_⟩) | (go_at_call 61; (with_reducible refine (spec_l1In.calls a0_1 1 4 _ _ A6.out).mono ?_); rintro e w' ⟨rfl, ⟨nd, rfl⟩⟩) | (go_at_call 60; (with_reducible refine (spec_l2List.calls k _ _ l0_2 _ _ ?side1 ?side2 A8.out).mono ?_); (case side1 => repeat (first | exact (Kd.C_below HR0_2.out au16) | (with_reducible refine Kd.C_alloc ?_ _) | (with_reducible refine Kd.C_drewN ?_ _) | (with_reducible refine Kd.C_drew ?_))); (case side2 => exact HC0_2.out); rintro e w12 ⟨rfl, hb⟩; have n0_ := Aside0.mk (blk_below (g := gb632) (o := .cells #[.string a0_0, .int .i64 a0_1, .slice A0_2 l0_2.length c0_2, .slice A0_3 l0_3.length c0_3, .string a0_4, .string a0_5, .string a0_6, .int .i64 a0_7, .int .i64 a0_8, .int .i64 a0_9, .bool a0_10, .int .i64 a0_11, .string a0_12, .string a0_13] 65 (0, 0)) au35 hb); have n1_ := Aside0.mk (below_step au16 hb); clear BK632; clear HB; have BK632 := n0_; have HB := n1_; clear n0_ n1_; (try clear hb); (try clear hb2); (try clear hk); (try clear hi); have hcz13_0 : w12.cell? ⟨gb632, 0, none⟩ = some (.string a0_0) := (blk_cell BK632.out 0).trans rfl; have hcz13_1 : w12.cell? ⟨gb632, 1, none⟩ = some (.int .i64 a0_1) := (blk_cell BK632.out 1).trans rfl; have hcz13_2 : w12.cell? ⟨gb632, 2, none⟩ = some (.slice A0_2 l0_2.length c0_2) := (blk_cell BK632.out 2).trans rfl; have hcz13_3 : w12.cell? ⟨gb632, 3, none⟩ = some (.slice A0_3 l0_3.length c0_3) := (blk_cell BK632.out 3).trans rfl; have hcz13_4 : w12.cell? ⟨gb632, 4, none⟩ = some (.string a0_4) := (blk_cell BK632.out 4).trans rfl; have hcz13_5 : w12.cell? ⟨gb632, 5, none⟩ = some (.string a0_5) := (blk_cell BK632.out 5).trans rfl; have hcz13_6 : w12.cell? ⟨gb632, 6, none⟩ = some (.string a0_6) := (blk_cell BK632.out 6).trans rfl; have hcz13_7 : w12.cell? ⟨gb632, 7, none⟩ = some (.int .i64 a0_7) := (blk_cell BK632.out 7).trans rfl; have hcz13_8 : w12.cell? ⟨gb632, 8, none⟩ = some (.int .i64 a0_8) := (blk_cell BK632.out 8).trans rfl; have hcz13_9 : w12.cell? ⟨gb632, 9, none⟩ = some (.int .i64 a0_9) := (blk_cell BK632.out 9).trans rfl; have hcz13_10 : w12.cell? ⟨gb632, 10, none⟩ = some (.bool a0_10) := (blk_cell BK632.out 10).trans rfl; have hcz13_11 : w12.cell? ⟨gb632, 11, none⟩ = some (.int .i64 a0_11) := (blk_cell BK632.out 11).trans rfl; have hcz13_12 : w12.cell? ⟨gb632, 12, none⟩ = some (.string a0_12) := (blk_cell BK632.out 12).trans rfl; have hcz13_13 : w12.cell? ⟨gb632, 13, none⟩ = some (.string a0_13) := (blk_cell BK632.out 13).trans rfl; have hfz13_0 := blk_frozen BK632.out 0; have hfz13_1 := blk_frozen BK632.out 1; have hfz13_2 := blk_frozen BK632.out 2; have hfz13_3 := blk_frozen BK632.out 3; have hfz13_4 := blk_frozen BK632.out 4; have hfz13_5 := blk_frozen BK632.out 5; have hfz13_6 := blk_frozen BK632.out 6; have hfz13_7 := blk_frozen BK632.out 7; have hfz13_8 := blk_frozen BK632.out 8; have hfz13_9 := blk_frozen BK632.out 9; have hfz13_10 := blk_frozen BK632.out 10; have hfz13_11 := blk_frozen BK632.out 11; have hfz13_12 := blk_frozen BK632.out 12; have hfz13_13 := blk_frozen BK632.out 13) | (go_at_call 60; (with_reducible refine (spec_l2List.calls k _ _ l0_3 t636 _ ?side1 ?side2 A10.out).mono ?_); (case side1 => repeat (first | exact (Kd.C_below HR0_3.out HB.out) | (with_reducible refine Kd.C_alloc ?_ _) | (with_reducible refine Kd.C_drewN ?_ _) | (with_reducible refine Kd.C_drew ?_))); (case side2 => exact HC0_3.out); rintro e w14 ⟨rfl, hb⟩; have n0_ := Aside0.mk (blk_below (g := gb632) (o := .cells #[.string a0_0, .int .i64 a0_1, .slice A0_2 l0_2.length c0_2, .slice A0_3 l0_3.length c0_3, .string a0_4, .string a0_5, .string a0_6, .int .i64 a0_7, .int .i64 a0_8, .int .i64 a0_9, .bool a0_10, .int .i64 a0_11, .string a0_12, .string a0_13] 65 (0, 0)) au35 hb); have n1_ := Aside0.mk (below_step au16 hb); clear BK632; clear HB; have BK632 := n0_; have HB := n1_; clear n0_ n1_; (try clear hb); (try clear hb2); (try clear hk); (try clear hi)))
     go_meet
     case rel => exact ⟨_, (!t636), au61, H', ⟨by first | omega | exact Nat.le_refl _⟩, ⟨by (with_reducible repeat (first | refine blk_drewN ?_ _ | refine blk_drew ?_ | refine blk_alloc ?_ _)); exact BK632.out⟩, ⟨by repeat (first | (with_reducible first | exact HB.out | apply below_alloc | apply pw_below_drewN | apply below_drew1 | refine below_set ?_ GE632.out) | exact HB.out)⟩⟩
    ·
     replace c9 := Bool.eq_false_iff.mpr c9
     subst c9
     replace H := (if_neg (show ¬ (false = true) by decide)).symm.trans H
     have H' := Aside0.mk H
     clear H
     have hcz15_0 : w3.cell? ⟨gb632, 0, none⟩ = some (.string a0_0) := (blk_cell BK632.out 0).trans rfl
     have hcz15_1 : w3.cell? ⟨gb632, 1, none⟩ = some (.int .i64 a0_1) := (blk_cell BK632.out 1).trans rfl
     have hcz15_2 : w3.cell? ⟨gb632, 2, none⟩ = some (.slice A0_2 l0_2.length c0_2) := (blk_cell BK632.out 2).trans rfl
     have hcz15_3 : w3.cell? ⟨gb632, 3, none⟩ = some (.slice A0_3 l0_3.length c0_3) := (blk_cell BK632.out 3).trans rfl
     have hcz15_4 : w3.cell? ⟨gb632, 4, none⟩ = some (.string a0_4) := (blk_cell BK632.out 4).trans rfl
     have hcz15_5 : w3.cell? ⟨gb632, 5, none⟩ = some (.string a0_5) := (blk_cell BK632.out 5).trans rfl
     have hcz15_6 : w3.cell? ⟨gb632, 6, none⟩ = some (.string a0_6) := (blk_cell BK632.out 6).trans rfl
     have hcz15_7 : w3.cell? ⟨gb632, 7, none⟩ = some (.int .i64 a0_7) := (blk_cell BK632.out 7).trans rfl
     have hcz15_8 : w3.cell? ⟨gb632, 8, none⟩ = some (.int .i64 a0_8) := (blk_cell BK632.out 8).trans rfl
     have hcz15_9 : w3.cell? ⟨gb632, 9, none⟩ = some (.int .i64 a0_9) := (blk_cell BK632.out 9).trans rfl
     have hcz15_10 : w3.cell? ⟨gb632, 10, none⟩ = some (.bool a0_10) := (blk_cell BK632.out 10).trans rfl
     have hcz15_11 : w3.cell? ⟨gb632, 11, none⟩ = some (.int .i64 a0_11) := (blk_cell BK632.out 11).trans rfl
     have hcz15_12 : w3.cell? ⟨gb632, 12, none⟩ = some (.string a0_12) := (blk_cell BK632.out 12).trans rfl
     have hcz15_13 : w3.cell? ⟨gb632, 13, none⟩ = some (.string a0_13) := (blk_cell BK632.out 13).trans rfl
     have hfz15_0 := blk_frozen BK632.out 0
     have hfz15_1 := blk_frozen BK632.out 1
     have hfz15_2 := blk_frozen BK632.out 2
     have hfz15_3 := blk_frozen BK632.out 3
     have hfz15_4 := blk_frozen BK632.out 4
     have hfz15_5 := blk_frozen BK632.out 5
     have hfz15_6 := blk_frozen BK632.out 6
     have hfz15_7 := blk_frozen BK632.out 7
     have hfz15_8 := blk_frozen BK632.out 8
     have hfz15_9 := blk_frozen BK632.out 9
     have hfz15_10 := blk_frozen BK632.out 10
     have hfz15_11 := blk_frozen BK632.out 11
     have hfz15_12 := blk_frozen BK632.out 12
     have hfz15_13 := blk_frozen BK632.out 13
     go_wp2_with (first | ((with_reducible refine gate_callee (f := 149) rfl ?_); refine goesL_ (some 5) rfl rfl Tryd.func149 (by kernel_rfl) rfl #[.string a0_0] rfl au30 ?_; (with_reducible refine (spec_l4Key.calls k a0_0 _ _ A4.out).mono ?_); rintro e w' ⟨rfl, ⟨nd, rfl⟩⟩; refine ⟨_, rfl, ?_⟩) | (go_at_call 61; (with_reducible refine (spec_l1In.calls a0_1 1 4 _ _ A6.out).mono ?_); rintro e w' ⟨rfl, ⟨nd, rfl⟩⟩) | (go_at_call 60; (with_reducible refine (spec_l2List.calls k _ _ l0_2 _ _ ?side1 ?side2 A8.out).mono ?_); (case side1 => repeat (first | exact (Kd.C_below HR0_2.out au16) | (with_reducible refine Kd.C_alloc ?_ _) | (with_reducible refine Kd.C_drewN ?_ _) | (with_reducible refine Kd.C_drew ?_))); (case side2 => exact HC0_2.out); rintro e w16 ⟨rfl, hb⟩; have n0_ := Aside0.mk (blk_below (g := gb632) (o := .cells #[.string a0_0, .int .i64 a0_1, .slice A0_2 l0_2.length c0_2, .slice A0_3 l0_3.length c0_3, .string a0_4, .string a0_5, .string a0_6, .int .i64 a0_7, .int .i64 a0_8, .int .i64 a0_9, .bool a0_10, .int .i64 a0_11, .string a0_12, .string a0_13] 65 (0, 0)) au35 hb); have n1_ := Aside0.mk (below_step au16 hb); clear BK632; clear HB; have BK632 := n0_; have HB := n1_; clear n0_ n1_; (try clear hb); (try clear hb2); (try clear hk); (try clear hi)))
     go_meet
     case rel => exact ⟨_, (true), au61, H', ⟨by first | omega | exact Nat.le_refl _⟩, ⟨by (with_reducible repeat (first | refine blk_drewN ?_ _ | refine blk_drew ?_ | refine blk_alloc ?_ _)); exact BK632.out⟩, ⟨by repeat (first | (with_reducible first | exact HB.out | apply below_alloc | apply pw_below_drewN | apply below_drew1 | refine below_set ?_ GE632.out) | exact HB.out)⟩⟩
   ·
    replace c7 := Bool.eq_false_iff.mpr c7
    subst c7
    replace H := (if_neg (show ¬ (false = true) by decide)).symm.trans H
    have H' := Aside0.mk H
    clear H
    exact spec_l4Entry.L2
  ·
   replace c5 := Bool.eq_false_iff.mpr c5
   subst c5
   replace H := (if_neg (show ¬ (false = true) by decide)).symm.trans H
   have H' := Aside0.mk H
   clear H
   exact spec_l4Entry.L2
 case rest =>
  clear HC2
  try clear c1
  try clear p2
  try clear c5
  try clear c7
  try clear c9
  try clear c10
  try clear c14
  try clear hcz11_0
  try clear hcz11_1
  try clear hcz11_10
  try clear hcz11_11
  try clear hcz11_12
  try clear hcz11_13
  try clear hcz11_2
  try clear hcz11_3
  try clear hcz11_4
  try clear hcz11_5
  try clear hcz11_6
  try clear hcz11_7
  try clear hcz11_8
  try clear hcz11_9
  try clear hcz13_0
  try clear hcz13_1
  try clear hcz13_10
  try clear hcz13_11
  try clear hcz13_12
  try clear hcz13_13
  try clear hcz13_2
  try clear hcz13_3
  try clear hcz13_4
  try clear hcz13_5
  try clear hcz13_6
  try clear hcz13_7
  try clear hcz13_8
  try clear hcz13_9
  try clear hcz15_0
  try clear hcz15_1
  try clear hcz15_10
  try clear hcz15_11
  try clear hcz15_12
  try clear hcz15_13
  try clear hcz15_2
  try clear hcz15_3
  try clear hcz15_4
  try clear hcz15_5
  try clear hcz15_6
  try clear hcz15_7
  try clear hcz15_8
  try clear hcz15_9
  try clear hcz17_0
  try clear hcz17_1
  try clear hcz17_10
  try clear hcz17_11
  try clear hcz17_12
  try clear hcz17_13
  try clear hcz17_2
  try clear hcz17_3
  try clear hcz17_4
  try clear hcz17_5
  try clear hcz17_6
  try clear hcz17_7
  try clear hcz17_8
  try clear hcz17_9
  try clear hcz18_0
  try clear hcz18_1
  try clear hcz18_10
  try clear hcz18_11
  try clear hcz18_12
  try clear hcz18_13
  try clear hcz18_2
  try clear hcz18_3
  try clear hcz18_4
  try clear hcz18_5
  try clear hcz18_6
  try clear hcz18_7
  try clear hcz18_8
  try clear hcz18_9
  try clear hfz11_0
  try clear hfz11_1
  try clear hfz11_10
  try clear hfz11_11
  try clear hfz11_12
  try clear hfz11_13
  try clear hfz11_2
  try clear hfz11_3
  try clear hfz11_4
  try clear hfz11_5
  try clear hfz11_6
  try clear hfz11_7
  try clear hfz11_8
  try clear hfz11_9
  try clear hfz13_0
  try clear hfz13_1
  try clear hfz13_10
  try clear hfz13_11
  try clear hfz13_12
  try clear hfz13_13
  try clear hfz13_2
  try clear hfz13_3
  try clear hfz13_4
  try clear hfz13_5
  try clear hfz13_6
  try clear hfz13_7
  try clear hfz13_8
  try clear hfz13_9
  try clear hfz15_0
  try clear hfz15_1
  try clear hfz15_10
  try clear hfz15_11
  try clear hfz15_12
  try clear hfz15_13
  try clear hfz15_2
  try clear hfz15_3
  try clear hfz15_4
  try clear hfz15_5
  try clear hfz15_6
  try clear hfz15_7
  try clear hfz15_8
  try clear hfz15_9
  try clear hfz17_0
  try clear hfz17_1
  try clear hfz17_10
  try clear hfz17_11
  try clear hfz17_12
  try clear hfz17_13
  try clear hfz17_2
  try clear hfz17_3
  try clear hfz17_4
  try clear hfz17_5
  try clear hfz17_6
  try clear hfz17_7
  try clear hfz17_8
  try clear hfz17_9
  try clear hfz18_0
  try clear hfz18_1
  try clear hfz18_10
  try clear hfz18_11
  try clear hfz18_12
  try clear hfz18_13
  try clear hfz18_2
  try clear hfz18_3
  try clear hfz18_4
  try clear hfz18_5
  try clear hfz18_6
  try clear hfz18_7
  try clear hfz18_8
  try clear hfz18_9
  obtain ⟨kq, x24_1, rfl, HA, HJ1, BK632, HB⟩ := hcut
  cases kq with
  | zero => exact absurd HA.out (by simp [spec_l4Entry.j0])
  | succ kj1 =>
   have H := HA.out
   clear HA
   simp only [spec_l4Entry.j0] at H
   by_cases c19 : x24_1 = true
   ·
    subst c19
    replace H := (if_pos rfl).symm.trans H
    obtain rfl := Option.some.inj H
    go_wp2
    go_ret
    exact ax7
   ·
    replace c19 := Bool.eq_false_iff.mpr c19
    subst c19
    replace H := (if_neg (show ¬ (false = true) by decide)).symm.trans H
    have HC20 := Aside0.mk H
    clear H
    go_upto_region 3 with (fail)
    go_cut [46] (fun v46 wc => ∃ (kq : Nat) (x46_19 : Bool), v46 = .bool x46_19 ∧ Aside0 (spec_l4Entry.j1 kq x46_19 a0_0 a0_1 l0_2 l0_3 a0_4 a0_5 a0_6 a0_7 a0_8 a0_9 a0_10 a0_11 a0_12 a0_13 = some r) ∧ Aside0 (kq ≤ kj1) ∧ Aside0 (wc.heap[gb632]? = some (.cells #[.string a0_0, .int .i64 a0_1, (.slice A0_2 l0_2.length c0_2), (.slice A0_3 l0_3.length c0_3), .string a0_4, .string a0_5, .string a0_6, .int .i64 a0_7, .int .i64 a0_8, .int .i64 a0_9, .bool a0_10, .int .i64 a0_11, .string a0_12, .string a0_13] 65 (0, 0))) ∧ Aside0 (Below w.heap.size w wc))
    case first =>
     have H := HC20.out
     clear HC20
     replace H := Option.bind_eq_some_iff.mp H
     obtain ⟨t637, A210, H⟩ := H
     try dsimp only at H
     have A21 := Aside0.mk A210
     clear A210
     by_cases c22 : t637 = true
     ·
      subst c22
      replace H := (if_pos rfl).symm.trans H
      replace H := Option.bind_eq_some_iff.mp H
      obtain ⟨t638, A230, H⟩ := H
      try dsimp only at H
      have A23 := Aside0.mk A230
      clear A230
      by_cases c24 : t638 = true
      ·
       subst c24
       replace H := (if_pos rfl).symm.trans H
       replace H := Option.bind_eq_some_iff.mp H
       obtain ⟨t639, A250, H⟩ := H
       try dsimp only at H
       have A25 := Aside0.mk A250
       clear A250
       by_cases c26 : t639 = true
       ·
        subst c26
        replace H := (if_pos rfl).symm.trans H
        replace H := Option.bind_eq_some_iff.mp H
        obtain ⟨t640, A270, H⟩ := H
        try dsimp only at H
        have A27 := Aside0.mk A270
        clear A270
        have H' := Aside0.mk H
        clear H
        exact spec_l4Entry.L1
       ·
        replace c26 := Bool.eq_false_iff.mpr c26
        subst c26
        replace H := (if_neg (show ¬ (false = true) by decide)).symm.trans H
        have H' := Aside0.mk H
        clear H
        exact spec_l4Entry.L1
      ·
       replace c24 := Bool.eq_false_iff.mpr c24
       subst c24
       replace H := (if_neg (show ¬ (false = true) by decide)).symm.trans H
       have H' := Aside0.mk H
       clear H
       exact spec_l4Entry.L1
     ·
      replace c22 := Bool.eq_false_iff.mpr c22
      subst c22
      replace H := (if_neg (show ¬ (false = true) by decide)).symm.trans H
      have H' := Aside0.mk H
      clear H
      exact spec_l4Entry.L1
    case rest =>
     clear HC20
     try clear c1
     try clear c2
     try clear p2
     try clear c5
     try clear c7
     try clear c9
     try clear c10
     try clear c14
     try clear c15
     try clear c19
     try clear c22
     try clear c24
     try clear c26
     try clear hcz11_0
     try clear hcz11_1
     try clear hcz11_10
     try clear hcz11_11
     try clear hcz11_12
     try clear hcz11_13
     try clear hcz11_2
     try clear hcz11_3
     try clear hcz11_4
     try clear hcz11_5
     try clear hcz11_6
     try clear hcz11_7
     try clear hcz11_8
     try clear hcz11_9
     try clear hcz13_0
     try clear hcz13_1
     try clear hcz13_10
     try clear hcz13_11
     try clear hcz13_12
     try clear hcz13_13
     try clear hcz13_2
     try clear hcz13_3
     try clear hcz13_4
     try clear hcz13_5
     try clear hcz13_6
     try clear hcz13_7
     try clear hcz13_8
     try clear hcz13_9
     try clear hcz15_0
     try clear hcz15_1
     try clear hcz15_10
     try clear hcz15_11
     try clear hcz15_12
     try clear hcz15_13
     try clear hcz15_2
     try clear hcz15_3
     try clear hcz15_4
     try clear hcz15_5
     try clear hcz15_6
     try clear hcz15_7
     try clear hcz15_8
     try clear hcz15_9
     try clear hcz17_0
     try clear hcz17_1
     try clear hcz17_10
     try clear hcz17_11
     try clear hcz17_12
     try clear hcz17_13
     try clear hcz17_2
     try clear hcz17_3
     try clear hcz17_4
     try clear hcz17_5
     try clear hcz17_6
     try clear hcz17_7
     try clear hcz17_8
     try clear hcz17_9
     try clear hcz18_0
     try clear hcz18_1
     try clear hcz18_10
     try clear hcz18_11
     try clear hcz18_12
     try clear hcz18_13
     try clear hcz18_2
     try clear hcz18_3
     try clear hcz18_4
     try clear hcz18_5
     try clear hcz18_6
     try clear hcz18_7
     try clear hcz18_8
     try clear hcz18_9
     try clear hcz28_0
     try clear hcz28_1
     try clear hcz28_10
     try clear hcz28_11
     try clear hcz28_12
     try clear hcz28_13
     try clear hcz28_2
     try clear hcz28_3
     try clear hcz28_4
     try clear hcz28_5
     try clear hcz28_6
     try clear hcz28_7
     try clear hcz28_8
     try clear hcz28_9
     try clear hcz29_0
     try clear hcz29_1
     try clear hcz29_10
     try clear hcz29_11
     try clear hcz29_12
     try clear hcz29_13
     try clear hcz29_2
     try clear hcz29_3
     try clear hcz29_4
     try clear hcz29_5
     try clear hcz29_6
     try clear hcz29_7
     try clear hcz29_8
     try clear hcz29_9
     try clear hcz30_0
     try clear hcz30_1
     try clear hcz30_10
     try clear hcz30_11
     try clear hcz30_12
     try clear hcz30_13
     try clear hcz30_2
     try clear hcz30_3
     try clear hcz30_4
     try clear hcz30_5
     try clear hcz30_6
     try clear hcz30_7
     try clear hcz30_8
     try clear hcz30_9
     try clear hcz31_0
     try clear hcz31_1
     try clear hcz31_10
     try clear hcz31_11
     try clear hcz31_12
     try clear hcz31_13
     try clear hcz31_2
     try clear hcz31_3
     try clear hcz31_4
     try clear hcz31_5
     try clear hcz31_6
     try clear hcz31_7
     try clear hcz31_8
     try clear hcz31_9
     try clear hfz11_0
     try clear hfz11_1
     try clear hfz11_10
     try clear hfz11_11
     try clear hfz11_12
     try clear hfz11_13
     try clear hfz11_2
     try clear hfz11_3
     try clear hfz11_4
     try clear hfz11_5
     try clear hfz11_6
     try clear hfz11_7
     try clear hfz11_8
     try clear hfz11_9
     try clear hfz13_0
     try clear hfz13_1
     try clear hfz13_10
     try clear hfz13_11
     try clear hfz13_12
     try clear hfz13_13
     try clear hfz13_2
     try clear hfz13_3
     try clear hfz13_4
     try clear hfz13_5
     try clear hfz13_6
     try clear hfz13_7
     try clear hfz13_8
     try clear hfz13_9
     try clear hfz15_0
     try clear hfz15_1
     try clear hfz15_10
     try clear hfz15_11
     try clear hfz15_12
     try clear hfz15_13
     try clear hfz15_2
     try clear hfz15_3
     try clear hfz15_4
     try clear hfz15_5
     try clear hfz15_6
     try clear hfz15_7
     try clear hfz15_8
     try clear hfz15_9
     try clear hfz17_0
     try clear hfz17_1
     try clear hfz17_10
     try clear hfz17_11
     try clear hfz17_12
     try clear hfz17_13
     try clear hfz17_2
     try clear hfz17_3
     try clear hfz17_4
     try clear hfz17_5
     try clear hfz17_6
     try clear hfz17_7
     try clear hfz17_8
     try clear hfz17_9
     try clear hfz18_0
     try clear hfz18_1
     try clear hfz18_10
     try clear hfz18_11
     try clear hfz18_12
     try clear hfz18_13
     try clear hfz18_2
     try clear hfz18_3
     try clear hfz18_4
     try clear hfz18_5
     try clear hfz18_6
     try clear hfz18_7
     try clear hfz18_8
     try clear hfz18_9
     try clear hfz28_0
     try clear hfz28_1
     try clear hfz28_10
     try clear hfz28_11
     try clear hfz28_12
     try clear hfz28_13
     try clear hfz28_2
     try clear hfz28_3
     try clear hfz28_4
     try clear hfz28_5
     try clear hfz28_6
     try clear hfz28_7
     try clear hfz28_8
     try clear hfz28_9
     try clear hfz29_0
     try clear hfz29_1
     try clear hfz29_10
     try clear hfz29_11
     try clear hfz29_12
     try clear hfz29_13
     try clear hfz29_2
     try clear hfz29_3
     try clear hfz29_4
     try clear hfz29_5
     try clear hfz29_6
     try clear hfz29_7
     try clear hfz29_8
     try clear hfz29_9
     try clear hfz30_0
     try clear hfz30_1
     try clear hfz30_10
     try clear hfz30_11
     try clear hfz30_12
     try clear hfz30_13
     try clear hfz30_2
     try clear hfz30_3
     try clear hfz30_4
     try clear hfz30_5
     try clear hfz30_6
     try clear hfz30_7
     try clear hfz30_8
     try clear hfz30_9
     try clear hfz31_0
     try clear hfz31_1
     try clear hfz31_10
     try clear hfz31_11
     try clear hfz31_12
     try clear hfz31_13
     try clear hfz31_2
     try clear hfz31_3
     try clear hfz31_4
     try clear hfz31_5
     try clear hfz31_6
     try clear hfz31_7
     try clear hfz31_8
     try clear hfz31_9
     try clear p2
     obtain ⟨kq, x46_19, rfl, HA, HJ19, BK632, HB⟩ := hcut
     cases kq with
     | zero => exact absurd HA.out (by simp [spec_l4Entry.j1])
     | succ kj19 =>
      have H := HA.out
      clear HA
      simp only [spec_l4Entry.j1] at H
      by_cases c32 : x46_19 = true
      ·
       subst c32
       replace H := (if_pos rfl).symm.trans H
       obtain rfl := Option.some.inj H
       go_wp2
       go_ret
       exact ax7
      ·
       replace c32 := Bool.eq_false_iff.mpr c32
       subst c32
       replace H := (if_neg (show ¬ (false = true) by decide)).symm.trans H
       replace H := Option.bind_eq_some_iff.mp H
       obtain ⟨t641, A330, H⟩ := H
       try dsimp only at H
       have A33 := Aside0.mk A330
       clear A330
       by_cases c34 : t641 = true
       ·
        subst c34
        replace H := (if_pos rfl).symm.trans H
        replace H := Option.bind_eq_some_iff.mp H
        obtain ⟨t642, A350, H⟩ := H
        try dsimp only at H
        have A35 := Aside0.mk A350
        clear A350
        by_cases c36 : t642 = true
        ·
         subst c36
         replace H := (if_pos rfl).symm.trans H
         by_cases c37 : a0_13.toList = ([] : List UInt8)
         ·
          rw [if_pos c37] at H
          have c37b0 : (a0_13.toList == ([] : List UInt8)) = true := beq_iff_eq.mpr c37
          have c37b1 : (a0_13.toList != ([] : List UInt8)) = false := bne_eq_false_iff_eq.mpr c37
          clear c37
          obtain rfl := Option.some.inj H
          exact spec_l4Entry.L0
         ·
          rw [if_neg c37] at H
          have c37b0 : (a0_13.toList == ([] : List UInt8)) = false := beq_eq_false_iff_ne.mpr c37
          have c37b1 : (a0_13.toList != ([] : List UInt8)) = true := bne_iff_ne.mpr c37
          replace H := Option.bind_eq_some_iff.mp H
          obtain ⟨t643, A410, H⟩ := H
          try dsimp only at H
          have A41 := Aside0.mk A410
          clear A410
          by_cases c42 : t643 = true
          ·
           subst c42
           replace H := (if_pos rfl).symm.trans H
           obtain rfl := Option.some.inj H
           exact spec_l4Entry.L0
          ·
           replace c42 := Bool.eq_false_iff.mpr c42
           subst c42
           replace H := (if_neg (show ¬ (false = true) by decide)).symm.trans H
           obtain rfl := Option.some.inj H
           exact spec_l4Entry.L0
        ·
         replace c36 := Bool.eq_false_iff.mpr c36
         subst c36
         replace H := (if_neg (show ¬ (false = true) by decide)).symm.trans H
         obtain rfl := Option.some.inj H
         exact spec_l4Entry.L0
       ·
        replace c34 := Bool.eq_false_iff.mpr c34
        subst c34
        replace H := (if_neg (show ¬ (false = true) by decide)).symm.trans H
        obtain rfl := Option.some.inj H
        have hcz52_0 : wc.cell? ⟨gb632, 0, none⟩ = some (.string a0_0) := (blk_cell BK632.out 0).trans rfl
        have hcz52_1 : wc.cell? ⟨gb632, 1, none⟩ = some (.int .i64 a0_1) := (blk_cell BK632.out 1).trans rfl
        have hcz52_2 : wc.cell? ⟨gb632, 2, none⟩ = some (.slice A0_2 l0_2.length c0_2) := (blk_cell BK632.out 2).trans rfl
        have hcz52_3 : wc.cell? ⟨gb632, 3, none⟩ = some (.slice A0_3 l0_3.length c0_3) := (blk_cell BK632.out 3).trans rfl
        have hcz52_4 : wc.cell? ⟨gb632, 4, none⟩ = some (.string a0_4) := (blk_cell BK632.out 4).trans rfl
        have hcz52_5 : wc.cell? ⟨gb632, 5, none⟩ = some (.string a0_5) := (blk_cell BK632.out 5).trans rfl
        have hcz52_6 : wc.cell? ⟨gb632, 6, none⟩ = some (.string a0_6) := (blk_cell BK632.out 6).trans rfl
        have hcz52_7 : wc.cell? ⟨gb632, 7, none⟩ = some (.int .i64 a0_7) := (blk_cell BK632.out 7).trans rfl
        have hcz52_8 : wc.cell? ⟨gb632, 8, none⟩ = some (.int .i64 a0_8) := (blk_cell BK632.out 8).trans rfl
        have hcz52_9 : wc.cell? ⟨gb632, 9, none⟩ = some (.int .i64 a0_9) := (blk_cell BK632.out 9).trans rfl
        have hcz52_10 : wc.cell? ⟨gb632, 10, none⟩ = some (.bool a0_10) := (blk_cell BK632.out 10).trans rfl
        have hcz52_11 : wc.cell? ⟨gb632, 11, none⟩ = some (.int .i64 a0_11) := (blk_cell BK632.out 11).trans rfl
        have hcz52_12 : wc.cell? ⟨gb632, 12, none⟩ = some (.string a0_12) := (blk_cell BK632.out 12).trans rfl
        have hcz52_13 : wc.cell? ⟨gb632, 13, none⟩ = some (.string a0_13) := (blk_cell BK632.out 13).trans rfl
        have hfz52_0 := blk_frozen BK632.out 0
        have hfz52_1 := blk_frozen BK632.out 1
        have hfz52_2 := blk_frozen BK632.out 2
        have hfz52_3 := blk_frozen BK632.out 3
        have hfz52_4 := blk_frozen BK632.out 4
        have hfz52_5 := blk_frozen BK632.out 5
        have hfz52_6 := blk_frozen BK632.out 6
        have hfz52_7 := blk_frozen BK632.out 7
        have hfz52_8 := blk_frozen BK632.out 8
        have hfz52_9 := blk_frozen BK632.out 9
        have hfz52_10 := blk_frozen BK632.out 10
        have hfz52_11 := blk_frozen BK632.out 11
        have hfz52_12 := blk_frozen BK632.out 12
        have hfz52_13 := blk_frozen BK632.out 13
        go_wp2_with (first | ((with_reducible refine gate_callee (f := 151) rfl ?_); refine goesL_ (some 49) rfl rfl Tryd.func151 (by kernel_rfl) rfl #[.agg #[.int .i64 a0_7, .int .i64 a0_8, .int .i64 a0_9, .bool a0_10]] rfl au30 ?_; (with_reducible refine (spec_l3Good.calls kj19 a0_7 a0_8 a0_9 a0_10 _ _ A33.out).mono ?_); rintro e w53 ⟨rfl, hb⟩; refine ⟨_, rfl, ?_⟩; have n0_ := Aside0.mk (blk_below (g := gb632) (o := .cells #[.string a0_0, .int .i64 a0_1, .slice A0_2 l0_2.length c0_2, .slice A0_3 l0_3.length c0_3, .string a0_4, .string a0_5, .string a0_6, .int .i64 a0_7, .int .i64 a0_8, .int .i64 a0_9, .bool a0_10, .int .i64 a0_11, .string a0_12, .string a0_13] 65 (0, 0)) au35 hb); have n1_ := Aside0.mk (below_step au16 hb); clear BK632; clear HB; have BK632 := n0_; have HB := n1_; clear n0_ n1_; (try clear hb); (try clear hb2); (try clear hk); (try clear hi)))
        go_ret
        exact ax7


attribute [local go_sem high] gtr_s geq_s leq_s
/-! ### spec_l4Good: function 110 -/
def spec_l4Good.l0 : Nat → Int → List (S65) → Option (Bool)
 | 0, _, _ => none
 | k + 1, x3, x762000 => if x3 < (x762000.length : Int) then (if 0 ≤ x3 then ((spec_l4Entry.f k ((rd_T65 x762000 x3).f0) ((rd_T65 x762000 x3).f1) ((rd_T65 x762000 x3).f2) ((rd_T65 x762000 x3).f3) ((rd_T65 x762000 x3).f4) ((rd_T65 x762000 x3).f5) ((rd_T65 x762000 x3).f6) ((rd_T65 x762000 x3).f7.f0) ((rd_T65 x762000 x3).f7.f1) ((rd_T65 x762000 x3).f7.f2) ((rd_T65 x762000 x3).f7.f3) ((rd_T65 x762000 x3).f8) ((rd_T65 x762000 x3).f9) ((rd_T65 x762000 x3).f10)).bind fun t763 => (if t763 = true then (if x3 > 0 then (if 0 ≤ (wrap64 (x3 - 1)) then (if (wrap64 (x3 - 1)) < (x762000.length : Int) then (if ((Op.bytesLess (((rd_T65 x762000 (wrap64 (x3 - 1))).f0).toList) (((rd_T65 x762000 x3).f0).toList)) = true) then (spec_l4Good.l0 k (wrap64 (x3 + 1)) x762000) else (some false)) else (none)) else (none)) else (spec_l4Good.l0 k (wrap64 (x3 + 1)) x762000)) else (some false))) else (none)) else (some true)
def spec_l4Good.f (k : Nat) (l0_0 : List (S65)) : Option (Bool) := if (l0_0.length : Int) > 8 then (some false) else (spec_l4Good.l0 k 0 l0_0)
theorem spec_l4Good.mono_l : ∀ k, (∀ y0 y1, LeO (spec_l4Good.l0 k y0 y1) (spec_l4Good.l0 (k + 1) y0 y1))
 | 0 => fun _ _ r h => by simp [spec_l4Good.l0] at h
 | k + 1 => by
  have ih0 := spec_l4Good.mono_l k
  ·
   intro y0 y1
   unfold spec_l4Good.l0
   repeat' first
   | (with_reducible exact ih0 _ _)
   | (with_reducible exact spec_l4Entry.mono _ _ _ _ _ _ _ _ _ _ _ _ _ _ _)
   | (with_reducible exact LeO.refl _)
   | (with_reducible exact LeO.none _)
   | (with_reducible refine LeO.ite ?_ ?_)
   | (with_reducible refine LeO.bind ?_ (fun _ => ?_))
   | exact ih0 _ _
   | exact spec_l4Entry.mono _ _ _ _ _ _ _ _ _ _ _ _ _ _ _
   | exact LeO.none _
   | refine LeO.ite ?_ ?_
   | refine LeO.bind ?_ (fun _ => ?_)
theorem spec_l4Good.mono : ∀ a0 k, LeO (spec_l4Good.f k a0) (spec_l4Good.f (k + 1) a0) := by
 intro a0 k
 have ih0 := spec_l4Good.mono_l k
 unfold spec_l4Good.f
 repeat' first
   | (with_reducible exact ih0 _ _)
   | (with_reducible exact spec_l4Entry.mono _ _ _ _ _ _ _ _ _ _ _ _ _ _ _)
   | (with_reducible exact LeO.refl _)
   | (with_reducible exact LeO.none _)
   | (with_reducible refine LeO.ite ?_ ?_)
   | (with_reducible refine LeO.bind ?_ (fun _ => ?_))
   | exact ih0 _ _
   | exact spec_l4Entry.mono _ _ _ _ _ _ _ _ _ _ _ _ _ _ _
   | exact LeO.none _
   | refine LeO.ite ?_ ?_
   | refine LeO.bind ?_ (fun _ => ?_)
def spec_l4Good.T6 : Bool × List (List Nat × List Nat) := (true, [([], []), ([0], [0]), ([], []), ([1, 2], [1, 2]), ([3], [3]), ([4], [4]), ([5], [5]), ([6, 5], [6]), ([7], [7]), ([8, 7], [7, 8]), ([9, 7, 7], [7, 9]), ([10], [10]), ([11, 10], [10, 11]), ([10], [10]), ([13, 10], [10, 13]), ([12, 14, 10], [10, 12, 14]), ([15, 10], [10, 15]), ([16, 10], [10, 16]), ([10], [10]), ([18, 10], [10, 18]), ([10], [10]), ([19, 20, 10], [10, 19, 20]), ([21, 10], [10, 21]), ([22, 10], [10, 22]), ([17, 23, 10], [10, 17, 23]), ([10, 24, 7], [7, 10, 24]), ([7, 25], [7, 25])])
def spec_l4Good.B6 : List Nat := [0, 1, 0, 7, 15, 31, 63, 127, 255, 511, 1023, 2047, 4095, 2047, 10239, 32767, 65535, 131071, 2047, 264191, 2047, 1837055, 3934207, 8128511, 16777215, 33554431, 67108863]
theorem spec_l4Good.tab6 : rtab .any (opsOf Tryd.f110 6) = spec_l4Good.T6 := by kernel_rfl
theorem spec_l4Good.bits6 : waitsOk spec_l4Good.T6.2 spec_l4Good.B6 = true := by kernel_rfl
set_option maxRecDepth 100000 in
theorem spec_l4Good.L0 {P : Prop} (h : P := by
  have hcz16_0 : wr.cell? ⟨gb761, 0, none⟩ = some (.slice A0_0 l0_0.length c0_0) := (blk_cell BK761.out 0).trans rfl
  have hfz16_0 := blk_frozen BK761.out 0
  try go_wp2
  have n0_ := Aside0.mk (blk_drew BK761.out)
  have n1_ := Aside0.mk (below_drew1 HB.out)
  clear BK761
  clear HB
  have BK761 := n0_
  have HB := n1_
  clear n0_ n1_
  have p762 : 0 ≤ (x3_1 : Int) := of_decide_eq_true au60
  have q762 : x3_1 < (l0_0.length : Int) := of_decide_eq_true au60
  obtain ⟨ad762, A762_2, c762_2, A762_3, c762_3, e762, hx762_0, hx762_1, hx762_2, hx762_3, hx762_4, hx762_5, hx762_6, hx762_7, hx762_8, hx762_9, hx762_10, hx762_11, hx762_12, hx762_13, hl762_2, hi762_2, hl762_3, hi762_3⟩ := at_T65 HR0_0.out x3_1 p762 q762
  have hw762_13 := hx762_13
  have hw762_12 := hx762_12
  have hw762_11 := hx762_11
  have hw762_10 := hx762_10
  have hw762_9 := hx762_9
  have hw762_8 := hx762_8
  have hw762_7 := hx762_7
  have hw762_6 := hx762_6
  have hw762_5 := hx762_5
  have hw762_4 := hx762_4
  have hw762_3 := hx762_3
  have hw762_2 := hx762_2
  have hw762_1 := hx762_1
  have hw762_0 := hx762_0
  cases e762
  replace hx762_0 := (HB.out.cell (World.block_lt_of_cell? w _ hx762_0)).trans hx762_0
  replace hx762_1 := (HB.out.cell (World.block_lt_of_cell? w _ hx762_1)).trans hx762_1
  replace hx762_2 := (HB.out.cell (World.block_lt_of_cell? w _ hx762_2)).trans hx762_2
  replace hx762_3 := (HB.out.cell (World.block_lt_of_cell? w _ hx762_3)).trans hx762_3
  replace hx762_4 := (HB.out.cell (World.block_lt_of_cell? w _ hx762_4)).trans hx762_4
  replace hx762_5 := (HB.out.cell (World.block_lt_of_cell? w _ hx762_5)).trans hx762_5
  replace hx762_6 := (HB.out.cell (World.block_lt_of_cell? w _ hx762_6)).trans hx762_6
  replace hx762_7 := (HB.out.cell (World.block_lt_of_cell? w _ hx762_7)).trans hx762_7
  replace hx762_8 := (HB.out.cell (World.block_lt_of_cell? w _ hx762_8)).trans hx762_8
  replace hx762_9 := (HB.out.cell (World.block_lt_of_cell? w _ hx762_9)).trans hx762_9
  replace hx762_10 := (HB.out.cell (World.block_lt_of_cell? w _ hx762_10)).trans hx762_10
  replace hx762_11 := (HB.out.cell (World.block_lt_of_cell? w _ hx762_11)).trans hx762_11
  replace hx762_12 := (HB.out.cell (World.block_lt_of_cell? w _ hx762_12)).trans hx762_12
  replace hx762_13 := (HB.out.cell (World.block_lt_of_cell? w _ hx762_13)).trans hx762_13
  have HR762_2 := Aside0.mk hi762_2
  have HC762_2 := Aside0.mk hl762_2
  clear hi762_2 hl762_2
  have HR762_3 := Aside0.mk hi762_3
  have HC762_3 := Aside0.mk hl762_3
  clear hi762_3 hl762_3
  replace p762 := eq_true p762
  replace q762 := eq_true q762
  have p764 : 0 ≤ ((ji12) : Int) := of_decide_eq_true au60
  have q764 : (ji12) < (l0_0.length : Int) := of_decide_eq_true au60
  obtain ⟨ad764, A764_2, c764_2, A764_3, c764_3, e764, hx764_0, hx764_1, hx764_2, hx764_3, hx764_4, hx764_5, hx764_6, hx764_7, hx764_8, hx764_9, hx764_10, hx764_11, hx764_12, hx764_13, hl764_2, hi764_2, hl764_3, hi764_3⟩ := at_T65 HR0_0.out (ji12) p764 q764
  have hw764_13 := hx764_13
  have hw764_12 := hx764_12
  have hw764_11 := hx764_11
  have hw764_10 := hx764_10
  have hw764_9 := hx764_9
  have hw764_8 := hx764_8
  have hw764_7 := hx764_7
  have hw764_6 := hx764_6
  have hw764_5 := hx764_5
  have hw764_4 := hx764_4
  have hw764_3 := hx764_3
  have hw764_2 := hx764_2
  have hw764_1 := hx764_1
  have hw764_0 := hx764_0
  obtain rfl : ad762 = ad764 := (by injection e764)
  replace hx764_0 := (HB.out.cell (World.block_lt_of_cell? w _ hx764_0)).trans hx764_0
  replace hx764_1 := (HB.out.cell (World.block_lt_of_cell? w _ hx764_1)).trans hx764_1
  replace hx764_2 := (HB.out.cell (World.block_lt_of_cell? w _ hx764_2)).trans hx764_2
  replace hx764_3 := (HB.out.cell (World.block_lt_of_cell? w _ hx764_3)).trans hx764_3
  replace hx764_4 := (HB.out.cell (World.block_lt_of_cell? w _ hx764_4)).trans hx764_4
  replace hx764_5 := (HB.out.cell (World.block_lt_of_cell? w _ hx764_5)).trans hx764_5
  replace hx764_6 := (HB.out.cell (World.block_lt_of_cell? w _ hx764_6)).trans hx764_6
  replace hx764_7 := (HB.out.cell (World.block_lt_of_cell? w _ hx764_7)).trans hx764_7
  replace hx764_8 := (HB.out.cell (World.block_lt_of_cell? w _ hx764_8)).trans hx764_8
  replace hx764_9 := (HB.out.cell (World.block_lt_of_cell? w _ hx764_9)).trans hx764_9
  replace hx764_10 := (HB.out.cell (World.block_lt_of_cell? w _ hx764_10)).trans hx764_10
  replace hx764_11 := (HB.out.cell (World.block_lt_of_cell? w _ hx764_11)).trans hx764_11
  replace hx764_12 := (HB.out.cell (World.block_lt_of_cell? w _ hx764_12)).trans hx764_12
  replace hx764_13 := (HB.out.cell (World.block_lt_of_cell? w _ hx764_13)).trans hx764_13
  have HR764_2 := Aside0.mk hi764_2
  have HC764_2 := Aside0.mk hl764_2
  clear hi764_2 hl764_2
  have HR764_3 := Aside0.mk hi764_3
  have HC764_3 := Aside0.mk hl764_3
  clear hi764_3 hl764_3
  replace p764 := eq_true p764
  replace q764 := eq_true q764
  have p765 : 0 ≤ (x3_1 : Int) := of_decide_eq_true au60
  have q765 : x3_1 < (l0_0.length : Int) := of_decide_eq_true au60
  obtain ⟨ad765, A765_2, c765_2, A765_3, c765_3, e765, hx765_0, hx765_1, hx765_2, hx765_3, hx765_4, hx765_5, hx765_6, hx765_7, hx765_8, hx765_9, hx765_10, hx765_11, hx765_12, hx765_13, hl765_2, hi765_2, hl765_3, hi765_3⟩ := at_T65 HR0_0.out x3_1 p765 q765
  have hw765_13 := hx765_13
  have hw765_12 := hx765_12
  have hw765_11 := hx765_11
  have hw765_10 := hx765_10
  have hw765_9 := hx765_9
  have hw765_8 := hx765_8
  have hw765_7 := hx765_7
  have hw765_6 := hx765_6
  have hw765_5 := hx765_5
  have hw765_4 := hx765_4
  have hw765_3 := hx765_3
  have hw765_2 := hx765_2
  have hw765_1 := hx765_1
  have hw765_0 := hx765_0
  obtain rfl : ad762 = ad765 := (by injection e765)
  replace hx765_0 := (HB.out.cell (World.block_lt_of_cell? w _ hx765_0)).trans hx765_0
  replace hx765_1 := (HB.out.cell (World.block_lt_of_cell? w _ hx765_1)).trans hx765_1
  replace hx765_2 := (HB.out.cell (World.block_lt_of_cell? w _ hx765_2)).trans hx765_2
  replace hx765_3 := (HB.out.cell (World.block_lt_of_cell? w _ hx765_3)).trans hx765_3
  replace hx765_4 := (HB.out.cell (World.block_lt_of_cell? w _ hx765_4)).trans hx765_4
  replace hx765_5 := (HB.out.cell (World.block_lt_of_cell? w _ hx765_5)).trans hx765_5
  replace hx765_6 := (HB.out.cell (World.block_lt_of_cell? w _ hx765_6)).trans hx765_6
  replace hx765_7 := (HB.out.cell (World.block_lt_of_cell? w _ hx765_7)).trans hx765_7
  replace hx765_8 := (HB.out.cell (World.block_lt_of_cell? w _ hx765_8)).trans hx765_8
  replace hx765_9 := (HB.out.cell (World.block_lt_of_cell? w _ hx765_9)).trans hx765_9
  replace hx765_10 := (HB.out.cell (World.block_lt_of_cell? w _ hx765_10)).trans hx765_10
  replace hx765_11 := (HB.out.cell (World.block_lt_of_cell? w _ hx765_11)).trans hx765_11
  replace hx765_12 := (HB.out.cell (World.block_lt_of_cell? w _ hx765_12)).trans hx765_12
  replace hx765_13 := (HB.out.cell (World.block_lt_of_cell? w _ hx765_13)).trans hx765_13
  have HR765_2 := Aside0.mk hi765_2
  have HC765_2 := Aside0.mk hl765_2
  clear hi765_2 hl765_2
  have HR765_3 := Aside0.mk hi765_3
  have HC765_3 := Aside0.mk hl765_3
  clear hi765_3 hl765_3
  replace p765 := eq_true p765
  replace q765 := eq_true q765
  refine start_ (n := 27) (S := fun w' => w'.cell? ⟨gb761, 0, none⟩ = some (.slice (some ad762) l0_0.length c0_0) ∧ w'.cell? (ad762.add ((x3_1).toNat * 14)) = some (.string ((rd_T65 l0_0 x3_1).f0)) ∧ w'.cell? ⟨(ad762.add ((x3_1).toNat * 14)).block, (ad762.add ((x3_1).toNat * 14)).off + 1, none⟩ = some (.int .i64 ((rd_T65 l0_0 x3_1).f1)) ∧ w'.cell? ⟨(ad762.add ((x3_1).toNat * 14)).block, (ad762.add ((x3_1).toNat * 14)).off + 2, none⟩ = some (.slice A762_2 ((rd_T65 l0_0 x3_1).f2).length c762_2) ∧ w'.cell? ⟨(ad762.add ((x3_1).toNat * 14)).block, (ad762.add ((x3_1).toNat * 14)).off + 3, none⟩ = some (.slice A762_3 ((rd_T65 l0_0 x3_1).f3).length c762_3) ∧ w'.cell? ⟨(ad762.add ((x3_1).toNat * 14)).block, (ad762.add ((x3_1).toNat * 14)).off + 4, none⟩ = some (.string ((rd_T65 l0_0 x3_1).f4)) ∧ w'.cell? ⟨(ad762.add ((x3_1).toNat * 14)).block, (ad762.add ((x3_1).toNat * 14)).off + 5, none⟩ = some (.string ((rd_T65 l0_0 x3_1).f5)) ∧ w'.cell? ⟨(ad762.add ((x3_1).toNat * 14)).block, (ad762.add ((x3_1).toNat * 14)).off + 6, none⟩ = some (.string ((rd_T65 l0_0 x3_1).f6)) ∧ w'.cell? ⟨(ad762.add ((x3_1).toNat * 14)).block, (ad762.add ((x3_1).toNat * 14)).off + 7, none⟩ = some (.int .i64 ((rd_T65 l0_0 x3_1).f7.f0)) ∧ w'.cell? ⟨(ad762.add ((x3_1).toNat * 14)).block, (ad762.add ((x3_1).toNat * 14)).off + 8, none⟩ = some (.int .i64 ((rd_T65 l0_0 x3_1).f7.f1)) ∧ w'.cell? ⟨(ad762.add ((x3_1).toNat * 14)).block, (ad762.add ((x3_1).toNat * 14)).off + 9, none⟩ = some (.int .i64 ((rd_T65 l0_0 x3_1).f7.f2)) ∧ w'.cell? ⟨(ad762.add ((x3_1).toNat * 14)).block, (ad762.add ((x3_1).toNat * 14)).off + 10, none⟩ = some (.bool ((rd_T65 l0_0 x3_1).f7.f3)) ∧ w'.cell? ⟨(ad762.add ((x3_1).toNat * 14)).block, (ad762.add ((x3_1).toNat * 14)).off + 11, none⟩ = some (.int .i64 ((rd_T65 l0_0 x3_1).f8)) ∧ w'.cell? ⟨(ad762.add ((x3_1).toNat * 14)).block, (ad762.add ((x3_1).toNat * 14)).off + 12, none⟩ = some (.string ((rd_T65 l0_0 x3_1).f9)) ∧ w'.cell? ⟨(ad762.add ((x3_1).toNat * 14)).block, (ad762.add ((x3_1).toNat * 14)).off + 13, none⟩ = some (.string ((rd_T65 l0_0 x3_1).f10)) ∧ w'.cell? (ad762.add (((ji12)).toNat * 14)) = some (.string ((rd_T65 l0_0 (ji12)).f0)) ∧ w'.cell? ⟨(ad762.add (((ji12)).toNat * 14)).block, (ad762.add (((ji12)).toNat * 14)).off + 1, none⟩ = some (.int .i64 ((rd_T65 l0_0 (ji12)).f1)) ∧ w'.cell? ⟨(ad762.add (((ji12)).toNat * 14)).block, (ad762.add (((ji12)).toNat * 14)).off + 2, none⟩ = some (.slice A764_2 ((rd_T65 l0_0 (ji12)).f2).length c764_2) ∧ w'.cell? ⟨(ad762.add (((ji12)).toNat * 14)).block, (ad762.add (((ji12)).toNat * 14)).off + 3, none⟩ = some (.slice A764_3 ((rd_T65 l0_0 (ji12)).f3).length c764_3) ∧ w'.cell? ⟨(ad762.add (((ji12)).toNat * 14)).block, (ad762.add (((ji12)).toNat * 14)).off + 4, none⟩ = some (.string ((rd_T65 l0_0 (ji12)).f4)) ∧ w'.cell? ⟨(ad762.add (((ji12)).toNat * 14)).block, (ad762.add (((ji12)).toNat * 14)).off + 5, none⟩ = some (.string ((rd_T65 l0_0 (ji12)).f5)) ∧ w'.cell? ⟨(ad762.add (((ji12)).toNat * 14)).block, (ad762.add (((ji12)).toNat * 14)).off + 6, none⟩ = some (.string ((rd_T65 l0_0 (ji12)).f6)) ∧ w'.cell? ⟨(ad762.add (((ji12)).toNat * 14)).block, (ad762.add (((ji12)).toNat * 14)).off + 7, none⟩ = some (.int .i64 ((rd_T65 l0_0 (ji12)).f7.f0)) ∧ w'.cell? ⟨(ad762.add (((ji12)).toNat * 14)).block, (ad762.add (((ji12)).toNat * 14)).off + 8, none⟩ = some (.int .i64 ((rd_T65 l0_0 (ji12)).f7.f1)) ∧ w'.cell? ⟨(ad762.add (((ji12)).toNat * 14)).block, (ad762.add (((ji12)).toNat * 14)).off + 9, none⟩ = some (.int .i64 ((rd_T65 l0_0 (ji12)).f7.f2)) ∧ w'.cell? ⟨(ad762.add (((ji12)).toNat * 14)).block, (ad762.add (((ji12)).toNat * 14)).off + 10, none⟩ = some (.bool ((rd_T65 l0_0 (ji12)).f7.f3)) ∧ w'.cell? ⟨(ad762.add (((ji12)).toNat * 14)).block, (ad762.add (((ji12)).toNat * 14)).off + 11, none⟩ = some (.int .i64 ((rd_T65 l0_0 (ji12)).f8)) ∧ w'.cell? ⟨(ad762.add (((ji12)).toNat * 14)).block, (ad762.add (((ji12)).toNat * 14)).off + 12, none⟩ = some (.string ((rd_T65 l0_0 (ji12)).f9)) ∧ w'.cell? ⟨(ad762.add (((ji12)).toNat * 14)).block, (ad762.add (((ji12)).toNat * 14)).off + 13, none⟩ = some (.string ((rd_T65 l0_0 (ji12)).f10)) ∧ w'.cell? (ad762.add ((x3_1).toNat * 14)) = some (.string ((rd_T65 l0_0 x3_1).f0)) ∧ w'.cell? ⟨(ad762.add ((x3_1).toNat * 14)).block, (ad762.add ((x3_1).toNat * 14)).off + 1, none⟩ = some (.int .i64 ((rd_T65 l0_0 x3_1).f1)) ∧ w'.cell? ⟨(ad762.add ((x3_1).toNat * 14)).block, (ad762.add ((x3_1).toNat * 14)).off + 2, none⟩ = some (.slice A765_2 ((rd_T65 l0_0 x3_1).f2).length c765_2) ∧ w'.cell? ⟨(ad762.add ((x3_1).toNat * 14)).block, (ad762.add ((x3_1).toNat * 14)).off + 3, none⟩ = some (.slice A765_3 ((rd_T65 l0_0 x3_1).f3).length c765_3) ∧ w'.cell? ⟨(ad762.add ((x3_1).toNat * 14)).block, (ad762.add ((x3_1).toNat * 14)).off + 4, none⟩ = some (.string ((rd_T65 l0_0 x3_1).f4)) ∧ w'.cell? ⟨(ad762.add ((x3_1).toNat * 14)).block, (ad762.add ((x3_1).toNat * 14)).off + 5, none⟩ = some (.string ((rd_T65 l0_0 x3_1).f5)) ∧ w'.cell? ⟨(ad762.add ((x3_1).toNat * 14)).block, (ad762.add ((x3_1).toNat * 14)).off + 6, none⟩ = some (.string ((rd_T65 l0_0 x3_1).f6)) ∧ w'.cell? ⟨(ad762.add ((x3_1).toNat * 14)).block, (ad762.add ((x3_1).toNat * 14)).off + 7, none⟩ = some (.int .i64 ((rd_T65 l0_0 x3_1).f7.f0)) ∧ w'.cell? ⟨(ad762.add ((x3_1).toNat * 14)).block, (ad762.add ((x3_1).toNat * 14)).off + 8, none⟩ = some (.int .i64 ((rd_T65 l0_0 x3_1).f7.f1)) ∧ w'.cell? ⟨(ad762.add ((x3_1).toNat * 14)).block, (ad762.add ((x3_1).toNat * 14)).off + 9, none⟩ = some (.int .i64 ((rd_T65 l0_0 x3_1).f7.f2)) ∧ w'.cell? ⟨(ad762.add ((x3_1).toNat * 14)).block, (ad762.add ((x3_1).toNat * 14)).off + 10, none⟩ = some (.bool ((rd_T65 l0_0 x3_1).f7.f3)) ∧ w'.cell? ⟨(ad762.add ((x3_1).toNat * 14)).block, (ad762.add ((x3_1).toNat * 14)).off + 11, none⟩ = some (.int .i64 ((rd_T65 l0_0 x3_1).f8)) ∧ w'.cell? ⟨(ad762.add ((x3_1).toNat * 14)).block, (ad762.add ((x3_1).toNat * 14)).off + 12, none⟩ = some (.string ((rd_T65 l0_0 x3_1).f9)) ∧ w'.cell? ⟨(ad762.add ((x3_1).toNat * 14)).block, (ad762.add ((x3_1).toNat * 14)).off + 13, none⟩ = some (.string ((rd_T65 l0_0 x3_1).f10))) (ds := []) #[false, false, false, false, false, false, false, false, false, false, false, false, false, false, false, false, false, false, false, false, false, false, false, false, false, false, false] (by kernel_rfl) rfl rfl ⟨(blk_cell BK761.out 0).trans rfl, ((HB.out.cell (World.block_lt_of_cell? w _ hw762_0)).trans hw762_0), ((HB.out.cell (World.block_lt_of_cell? w _ hw762_1)).trans hw762_1), ((HB.out.cell (World.block_lt_of_cell? w _ hw762_2)).trans hw762_2), ((HB.out.cell (World.block_lt_of_cell? w _ hw762_3)).trans hw762_3), ((HB.out.cell (World.block_lt_of_cell? w _ hw762_4)).trans hw762_4), ((HB.out.cell (World.block_lt_of_cell? w _ hw762_5)).trans hw762_5), ((HB.out.cell (World.block_lt_of_cell? w _ hw762_6)).trans hw762_6), ((HB.out.cell (World.block_lt_of_cell? w _ hw762_7)).trans hw762_7), ((HB.out.cell (World.block_lt_of_cell? w _ hw762_8)).trans hw762_8), ((HB.out.cell (World.block_lt_of_cell? w _ hw762_9)).trans hw762_9), ((HB.out.cell (World.block_lt_of_cell? w _ hw762_10)).trans hw762_10), ((HB.out.cell (World.block_lt_of_cell? w _ hw762_11)).trans hw762_11), ((HB.out.cell (World.block_lt_of_cell? w _ hw762_12)).trans hw762_12), ((HB.out.cell (World.block_lt_of_cell? w _ hw762_13)).trans hw762_13), ((HB.out.cell (World.block_lt_of_cell? w _ hw764_0)).trans hw764_0), ((HB.out.cell (World.block_lt_of_cell? w _ hw764_1)).trans hw764_1), ((HB.out.cell (World.block_lt_of_cell? w _ hw764_2)).trans hw764_2), ((HB.out.cell (World.block_lt_of_cell? w _ hw764_3)).trans hw764_3), ((HB.out.cell (World.block_lt_of_cell? w _ hw764_4)).trans hw764_4), ((HB.out.cell (World.block_lt_of_cell? w _ hw764_5)).trans hw764_5), ((HB.out.cell (World.block_lt_of_cell? w _ hw764_6)).trans hw764_6), ((HB.out.cell (World.block_lt_of_cell? w _ hw764_7)).trans hw764_7), ((HB.out.cell (World.block_lt_of_cell? w _ hw764_8)).trans hw764_8), ((HB.out.cell (World.block_lt_of_cell? w _ hw764_9)).trans hw764_9), ((HB.out.cell (World.block_lt_of_cell? w _ hw764_10)).trans hw764_10), ((HB.out.cell (World.block_lt_of_cell? w _ hw764_11)).trans hw764_11), ((HB.out.cell (World.block_lt_of_cell? w _ hw764_12)).trans hw764_12), ((HB.out.cell (World.block_lt_of_cell? w _ hw764_13)).trans hw764_13), ((HB.out.cell (World.block_lt_of_cell? w _ hw765_0)).trans hw765_0), ((HB.out.cell (World.block_lt_of_cell? w _ hw765_1)).trans hw765_1), ((HB.out.cell (World.block_lt_of_cell? w _ hw765_2)).trans hw765_2), ((HB.out.cell (World.block_lt_of_cell? w _ hw765_3)).trans hw765_3), ((HB.out.cell (World.block_lt_of_cell? w _ hw765_4)).trans hw765_4), ((HB.out.cell (World.block_lt_of_cell? w _ hw765_5)).trans hw765_5), ((HB.out.cell (World.block_lt_of_cell? w _ hw765_6)).trans hw765_6), ((HB.out.cell (World.block_lt_of_cell? w _ hw765_7)).trans hw765_7), ((HB.out.cell (World.block_lt_of_cell? w _ hw765_8)).trans hw765_8), ((HB.out.cell (World.block_lt_of_cell? w _ hw765_9)).trans hw765_9), ((HB.out.cell (World.block_lt_of_cell? w _ hw765_10)).trans hw765_10), ((HB.out.cell (World.block_lt_of_cell? w _ hw765_11)).trans hw765_11), ((HB.out.cell (World.block_lt_of_cell? w _ hw765_12)).trans hw765_12), ((HB.out.cell (World.block_lt_of_cell? w _ hw765_13)).trans hw765_13)⟩ (fun hHeld => ?_); refine with_tabW spec_l4Good.tab6 spec_l4Good.bits6 (fun HT_ HW_ => ?_)
  generalize wr.drew = w17 at BK761 HB HR762_2 HR762_3 HR764_2 HR764_3 HR765_2 HR765_3 hx762_0 hx762_1 hx762_10 hx762_11 hx762_12 hx762_13 hx762_2 hx762_3 hx762_4 hx762_5 hx762_6 hx762_7 hx762_8 hx762_9 hx764_0 hx764_1 hx764_10 hx764_11 hx764_12 hx764_13 hx764_2 hx764_3 hx764_4 hx764_5 hx764_6 hx764_7 hx764_8 hx764_9 hx765_0 hx765_1 hx765_10 hx765_11 hx765_12 hx765_13 hx765_2 hx765_3 hx765_4 hx765_5 hx765_6 hx765_7 hx765_8 hx765_9 hHeld ⊢
  refine pure_ (i := 0) (N := some 15) (v := ?_) (a' := ?_) #[true, false, false, false, false, false, false, false, false, false, false, false, false, false, false, false, false, false, false, false, false, false, false, false, false, false, false] rfl rfl (any_of HT_.out (by kernel_rfl)) (fun _ _ _ h => h) (Or.inl ⟨by rfl, ?_⟩) ?_ ?_
  rotate_left
  ·
   intro w'
   go_simp
   with_reducible rfl
  rotate_left
  ·
   simp only [Act.put, List.setIfInBounds_toArray, List.set_cons_zero, List.set_cons_succ, i64_w, i32_w]
   rfl
  refine pure_ (i := 2) (N := some 17) (v := ?_) (a' := ?_) #[true, false, true, false, false, false, false, false, false, false, false, false, false, false, false, false, false, false, false, false, false, false, false, false, false, false, false] rfl rfl (any_of HT_.out (by kernel_rfl)) (fun _ _ _ h => h) (Or.inl ⟨by rfl, ?_⟩) ?_ ?_
  rotate_left
  ·
   intro w'
   go_simp
   with_reducible rfl
  rotate_left
  ·
   simp only [Act.put, List.setIfInBounds_toArray, List.set_cons_zero, List.set_cons_succ, i64_w, i32_w]
   rfl
  refine take_ (i := 1) (N := some 16) (v := ?_) (a' := ?_) #[true, true, true, false, false, false, false, false, false, false, false, false, false, false, false, false, false, false, false, false, false, false, false, false, false, false, false] rfl rfl (take_ofW HT_.out HW_.out (by kernel_rfl)) (fun _ _ _ h => h) (Or.inl ⟨by rfl, ?_⟩) hHeld ?_ ?_
  rotate_left
  ·
   rintro w' ⟨s0, s1, s2, s3, s4, s5, s6, s7, s8, s9, s10, s11, s12, s13, s14, s15, s16, s17, s18, s19, s20, s21, s22, s23, s24, s25, s26, s27, s28, s29, s30, s31, s32, s33, s34, s35, s36, s37, s38, s39, s40, s41, s42⟩
   go_simp
   with_reducible rfl
  rotate_left
  ·
   simp only [Act.put, List.setIfInBounds_toArray, List.set_cons_zero, List.set_cons_succ, i64_w, i32_w]
   rfl
  refine pure_ (i := 3) (N := some 18) (v := ?_) (a' := ?_) #[true, true, true, true, false, false, false, false, false, false, false, false, false, false, false, false, false, false, false, false, false, false, false, false, false, false, false] rfl rfl (any_of HT_.out (by kernel_rfl)) (fun _ _ _ h => h) (Or.inl ⟨by rfl, ?_⟩) ?_ ?_
  rotate_left
  ·
   intro w'
   go_simp
   with_reducible rfl
  rotate_left
  ·
   simp only [Act.put, List.setIfInBounds_toArray, List.set_cons_zero, List.set_cons_succ, i64_w, i32_w]
   rfl
  refine take_ (i := 4) (N := some 19) (v := ?_) (a' := ?_) #[true, true, true, true, true, false, false, false, false, false, false, false, false, false, false, false, false, false, false, false, false, false, false, false, false, false, false] rfl rfl (take_ofW HT_.out HW_.out (by kernel_rfl)) (fun _ _ _ h => h) (Or.inl ⟨by rfl, ?_⟩) hHeld ?_ ?_
  rotate_left
  ·
   rintro w' ⟨s0, s1, s2, s3, s4, s5, s6, s7, s8, s9, s10, s11, s12, s13, s14, s15, s16, s17, s18, s19, s20, s21, s22, s23, s24, s25, s26, s27, s28, s29, s30, s31, s32, s33, s34, s35, s36, s37, s38, s39, s40, s41, s42⟩
   go_simp
   with_reducible rfl
  rotate_left
  ·
   simp only [Act.put, List.setIfInBounds_toArray, List.set_cons_zero, List.set_cons_succ, i64_w, i32_w]
   rfl
  refine one_ (i := 5) (N := some 20) #[true, true, true, true, true, true, false, false, false, false, false, false, false, false, false, false, false, false, false, false, false, false, false, false, false, false, false] rfl rfl (one_of HT_.out (by kernel_rfl)) (by decide) (fun K hK => ?_)
  refine goes_ Tryd.func101 (by kernel_rfl) rfl #[.agg #[.string ((rd_T65 l0_0 x3_1).f0), .int .i64 ((rd_T65 l0_0 x3_1).f1), .slice A762_2 ((rd_T65 l0_0 x3_1).f2).length c762_2, .slice A762_3 ((rd_T65 l0_0 x3_1).f3).length c762_3, .string ((rd_T65 l0_0 x3_1).f4), .string ((rd_T65 l0_0 x3_1).f5), .string ((rd_T65 l0_0 x3_1).f6), .int .i64 ((rd_T65 l0_0 x3_1).f7.f0), .int .i64 ((rd_T65 l0_0 x3_1).f7.f1), .int .i64 ((rd_T65 l0_0 x3_1).f7.f2), .bool ((rd_T65 l0_0 x3_1).f7.f3), .int .i64 ((rd_T65 l0_0 x3_1).f8), .string ((rd_T65 l0_0 x3_1).f9), .string ((rd_T65 l0_0 x3_1).f10)]] (by rfl) rfl rfl au30 ?_
  first
  |
   with_reducible refine (spec_l4Entry.calls k1 ((rd_T65 l0_0 x3_1).f0) ((rd_T65 l0_0 x3_1).f1) _ _ ((rd_T65 l0_0 x3_1).f2) _ _ ((rd_T65 l0_0 x3_1).f3) ((rd_T65 l0_0 x3_1).f4) ((rd_T65 l0_0 x3_1).f5) ((rd_T65 l0_0 x3_1).f6) ((rd_T65 l0_0 x3_1).f7.f0) ((rd_T65 l0_0 x3_1).f7.f1) ((rd_T65 l0_0 x3_1).f7.f2) ((rd_T65 l0_0 x3_1).f7.f3) ((rd_T65 l0_0 x3_1).f8) ((rd_T65 l0_0 x3_1).f9) ((rd_T65 l0_0 x3_1).f10) _ _ ?side1 ?side2 ?side3 ?side4 A9.out).mono ?_
   (case side1 => repeat (first | exact (Kd.C_below HR762_2.out HB.out) | (with_reducible refine Kd.C_alloc ?_ _) | (with_reducible refine Kd.C_drewN ?_ _) | (with_reducible refine Kd.C_drew ?_)))
   (case side2 => exact HC762_2.out)
   (case side3 => repeat (first | exact (Kd.C_below HR762_3.out HB.out) | (with_reducible refine Kd.C_alloc ?_ _) | (with_reducible refine Kd.C_drewN ?_ _) | (with_reducible refine Kd.C_drew ?_)))
   (case side4 => exact HC762_3.out)
   rintro e w18 ⟨rfl, hb⟩
   refine ⟨_, rfl, ?_⟩
   have n0_ := Aside0.mk (blk_below (g := gb761) (o := .cells #[.slice (some ad762) l0_0.length c0_0] 76 (0, 0)) au36 hb)
   have n1_ := Aside0.mk (below_step au17 hb)
   clear BK761
   clear HB
   have BK761 := n0_
   have HB := n1_
   clear n0_ n1_
   (try clear hb)
   (try clear hb2)
   (try clear hk)
   (try clear hi)
   refine hK.out _ _ ⟨(blk_cell BK761.out 0).trans rfl, ((HB.out.cell (World.block_lt_of_cell? w _ hw762_0)).trans hw762_0), ((HB.out.cell (World.block_lt_of_cell? w _ hw762_1)).trans hw762_1), ((HB.out.cell (World.block_lt_of_cell? w _ hw762_2)).trans hw762_2), ((HB.out.cell (World.block_lt_of_cell? w _ hw762_3)).trans hw762_3), ((HB.out.cell (World.block_lt_of_cell? w _ hw762_4)).trans hw762_4), ((HB.out.cell (World.block_lt_of_cell? w _ hw762_5)).trans hw762_5), ((HB.out.cell (World.block_lt_of_cell? w _ hw762_6)).trans hw762_6), ((HB.out.cell (World.block_lt_of_cell? w _ hw762_7)).trans hw762_7), ((HB.out.cell (World.block_lt_of_cell? w _ hw762_8)).trans hw762_8), ((HB.out.cell (World.block_lt_of_cell? w _ hw762_9)).trans hw762_9), ((HB.out.cell (World.block_lt_of_cell? w _ hw762_10)).trans hw762_10), ((HB.out.cell (World.block_lt_of_cell? w _ hw762_11)).trans hw762_11), ((HB.out.cell (World.block_lt_of_cell? w _ hw762_12)).trans hw762_12), ((HB.out.cell (World.block_lt_of_cell? w _ hw762_13)).trans hw762_13), ((HB.out.cell (World.block_lt_of_cell? w _ hw764_0)).trans hw764_0), ((HB.out.cell (World.block_lt_of_cell? w _ hw764_1)).trans hw764_1), ((HB.out.cell (World.block_lt_of_cell? w _ hw764_2)).trans hw764_2), ((HB.out.cell (World.block_lt_of_cell? w _ hw764_3)).trans hw764_3), ((HB.out.cell (World.block_lt_of_cell? w _ hw764_4)).trans hw764_4), ((HB.out.cell (World.block_lt_of_cell? w _ hw764_5)).trans hw764_5), ((HB.out.cell (World.block_lt_of_cell? w _ hw764_6)).trans hw764_6), ((HB.out.cell (World.block_lt_of_cell? w _ hw764_7)).trans hw764_7), ((HB.out.cell (World.block_lt_of_cell? w _ hw764_8)).trans hw764_8), ((HB.out.cell (World.block_lt_of_cell? w _ hw764_9)).trans hw764_9), ((HB.out.cell (World.block_lt_of_cell? w _ hw764_10)).trans hw764_10), ((HB.out.cell (World.block_lt_of_cell? w _ hw764_11)).trans hw764_11), ((HB.out.cell (World.block_lt_of_cell? w _ hw764_12)).trans hw764_12), ((HB.out.cell (World.block_lt_of_cell? w _ hw764_13)).trans hw764_13), ((HB.out.cell (World.block_lt_of_cell? w _ hw765_0)).trans hw765_0), ((HB.out.cell (World.block_lt_of_cell? w _ hw765_1)).trans hw765_1), ((HB.out.cell (World.block_lt_of_cell? w _ hw765_2)).trans hw765_2), ((HB.out.cell (World.block_lt_of_cell? w _ hw765_3)).trans hw765_3), ((HB.out.cell (World.block_lt_of_cell? w _ hw765_4)).trans hw765_4), ((HB.out.cell (World.block_lt_of_cell? w _ hw765_5)).trans hw765_5), ((HB.out.cell (World.block_lt_of_cell? w _ hw765_6)).trans hw765_6), ((HB.out.cell (World.block_lt_of_cell? w _ hw765_7)).trans hw765_7), ((HB.out.cell (World.block_lt_of_cell? w _ hw765_8)).trans hw765_8), ((HB.out.cell (World.block_lt_of_cell? w _ hw765_9)).trans hw765_9), ((HB.out.cell (World.block_lt_of_cell? w _ hw765_10)).trans hw765_10), ((HB.out.cell (World.block_lt_of_cell? w _ hw765_11)).trans hw765_11), ((HB.out.cell (World.block_lt_of_cell? w _ hw765_12)).trans hw765_12), ((HB.out.cell (World.block_lt_of_cell? w _ hw765_13)).trans hw765_13)⟩ (fun hHeld => ?_)
   clear hK K
   refine norm_ (a' := ?_) ?_ ?_
   rotate_left
   ·
    show Act.put _ (some 20) _ = _
    simp only [Act.put, List.setIfInBounds_toArray, List.set_cons_zero, List.set_cons_succ, i64_w, i32_w]
    rfl
   refine pure_ (i := 6) (N := some 21) (v := ?_) (a' := ?_) #[true, true, true, true, true, true, true, false, false, false, false, false, false, false, false, false, false, false, false, false, false, false, false, false, false, false, false] rfl rfl (any_of HT_.out (by kernel_rfl)) (fun _ _ _ h => h) (Or.inl ⟨by rfl, ?_⟩) ?_ ?_
   rotate_left
   ·
    intro w'
    go_simp
    with_reducible rfl
   rotate_left
   ·
    simp only [Act.put, List.setIfInBounds_toArray, List.set_cons_zero, List.set_cons_succ, i64_w, i32_w]
    rfl
   refine pure_ (i := 7) (N := some 22) (v := ?_) (a' := ?_) #[true, true, true, true, true, true, true, true, false, false, false, false, false, false, false, false, false, false, false, false, false, false, false, false, false, false, false] rfl rfl (any_of HT_.out (by kernel_rfl)) (fun _ _ _ h => h) (Or.inl ⟨by rfl, ?_⟩) ?_ ?_
   rotate_left
   ·
    intro w'
    go_simp
    with_reducible rfl
   rotate_left
   ·
    simp only [Act.put, List.setIfInBounds_toArray, List.set_cons_zero, List.set_cons_succ, i64_w, i32_w]
    rfl
   refine pure_ (i := 8) (N := some 23) (v := ?_) (a' := ?_) #[true, true, true, true, true, true, true, true, true, false, false, false, false, false, false, false, false, false, false, false, false, false, false, false, false, false, false] rfl rfl (any_of HT_.out (by kernel_rfl)) (fun _ _ _ h => h) (Or.inl ⟨by rfl, ?_⟩) ?_ ?_
   rotate_left
   ·
    intro w'
    go_simp
    with_reducible rfl
   rotate_left
   ·
    simp only [Act.put, List.setIfInBounds_toArray, List.set_cons_zero, List.set_cons_succ, i64_w, i32_w]
    rfl
   refine pure_ (i := 9) (N := some 24) (v := ?_) (a' := ?_) #[true, true, true, true, true, true, true, true, true, true, false, false, false, false, false, false, false, false, false, false, false, false, false, false, false, false, false] rfl rfl (any_of HT_.out (by kernel_rfl)) (fun _ _ _ h => h) (Or.inl ⟨by rfl, ?_⟩) ?_ ?_
   rotate_left
   ·
    intro w'
    go_simp
    with_reducible rfl
   rotate_left
   ·
    simp only [Act.put, List.setIfInBounds_toArray, List.set_cons_zero, List.set_cons_succ, i64_w, i32_w]
    rfl
   refine pure_ (i := 10) (N := some 25) (v := ?_) (a' := ?_) #[true, true, true, true, true, true, true, true, true, true, true, false, false, false, false, false, false, false, false, false, false, false, false, false, false, false, false] rfl rfl (any_of HT_.out (by kernel_rfl)) (fun _ _ _ h => h) (Or.inl ⟨by rfl, ?_⟩) ?_ ?_
   rotate_left
   ·
    intro w'
    go_simp
    with_reducible rfl
   rotate_left
   ·
    simp only [Act.put, List.setIfInBounds_toArray, List.set_cons_zero, List.set_cons_succ, i64_w, i32_w]
    rfl
   refine pure_ (i := 11) (N := some 26) (v := ?_) (a' := ?_) #[true, true, true, true, true, true, true, true, true, true, true, true, false, false, false, false, false, false, false, false, false, false, false, false, false, false, false] rfl rfl (any_of HT_.out (by kernel_rfl)) (fun _ _ _ h => h) (Or.inl ⟨by rfl, ?_⟩) ?_ ?_
   rotate_left
   ·
    intro w'
    go_simp
    with_reducible rfl
   rotate_left
   ·
    simp only [Act.put, List.setIfInBounds_toArray, List.set_cons_zero, List.set_cons_succ, i64_w, i32_w]
    rfl
   refine pure_ (i := 13) (N := some 28) (v := ?_) (a' := ?_) #[true, true, true, true, true, true, true, true, true, true, true, true, false, true, false, false, false, false, false, false, false, false, false, false, false, false, false] rfl rfl (any_of HT_.out (by kernel_rfl)) (fun _ _ _ h => h) (Or.inl ⟨by rfl, ?_⟩) ?_ ?_
   rotate_left
   ·
    intro w'
    go_simp
    with_reducible rfl
   rotate_left
   ·
    simp only [Act.put, List.setIfInBounds_toArray, List.set_cons_zero, List.set_cons_succ, i64_w, i32_w]
    rfl
   refine pure_ (i := 14) (N := some 29) (v := ?_) (a' := ?_) #[true, true, true, true, true, true, true, true, true, true, true, true, false, true, true, false, false, false, false, false, false, false, false, false, false, false, false] rfl rfl (any_of HT_.out (by kernel_rfl)) (fun _ _ _ h => h) (Or.inl ⟨by rfl, ?_⟩) ?_ ?_
   rotate_left
   ·
    intro w'
    go_simp
    with_reducible rfl
   rotate_left
   ·
    simp only [Act.put, List.setIfInBounds_toArray, List.set_cons_zero, List.set_cons_succ, i64_w, i32_w]
    rfl
   refine pure_ (i := 18) (N := some 33) (v := ?_) (a' := ?_) #[true, true, true, true, true, true, true, true, true, true, true, true, false, true, true, false, false, false, true, false, false, false, false, false, false, false, false] rfl rfl (any_of HT_.out (by kernel_rfl)) (fun _ _ _ h => h) (Or.inl ⟨by rfl, ?_⟩) ?_ ?_
   rotate_left
   ·
    intro w'
    go_simp
    with_reducible rfl
   rotate_left
   ·
    simp only [Act.put, List.setIfInBounds_toArray, List.set_cons_zero, List.set_cons_succ, i64_w, i32_w]
    rfl
   refine pure_ (i := 20) (N := some 35) (v := ?_) (a' := ?_) #[true, true, true, true, true, true, true, true, true, true, true, true, false, true, true, false, false, false, true, false, true, false, false, false, false, false, false] rfl rfl (any_of HT_.out (by kernel_rfl)) (fun _ _ _ h => h) (Or.inl ⟨by rfl, ?_⟩) ?_ ?_
   rotate_left
   ·
    intro w'
    go_simp
    with_reducible rfl
   rotate_left
   ·
    simp only [Act.put, List.setIfInBounds_toArray, List.set_cons_zero, List.set_cons_succ, i64_w, i32_w]
    rfl
   refine take_ (i := 12) (N := some 27) (v := ?_) (a' := ?_) #[true, true, true, true, true, true, true, true, true, true, true, true, true, true, true, false, false, false, true, false, true, false, false, false, false, false, false] rfl rfl (take_ofW HT_.out HW_.out (by kernel_rfl)) (fun _ _ _ h => h) (Or.inl ⟨by rfl, ?_⟩) hHeld ?_ ?_
   rotate_left
   ·
    rintro w' ⟨s0, s1, s2, s3, s4, s5, s6, s7, s8, s9, s10, s11, s12, s13, s14, s15, s16, s17, s18, s19, s20, s21, s22, s23, s24, s25, s26, s27, s28, s29, s30, s31, s32, s33, s34, s35, s36, s37, s38, s39, s40, s41, s42⟩
    go_simp
    with_reducible rfl
   rotate_left
   ·
    simp only [Act.put, List.setIfInBounds_toArray, List.set_cons_zero, List.set_cons_succ, i64_w, i32_w]
    rfl
   refine pure_ (i := 15) (N := some 30) (v := ?_) (a' := ?_) #[true, true, true, true, true, true, true, true, true, true, true, true, true, true, true, true, false, false, true, false, true, false, false, false, false, false, false] rfl rfl (any_of HT_.out (by kernel_rfl)) (fun _ _ _ h => h) (Or.inl ⟨by rfl, ?_⟩) ?_ ?_
   rotate_left
   ·
    intro w'
    go_simp
    with_reducible rfl
   rotate_left
   ·
    simp only [Act.put, List.setIfInBounds_toArray, List.set_cons_zero, List.set_cons_succ, i64_w, i32_w]
    rfl
   refine pure_ (i := 16) (N := some 31) (v := ?_) (a' := ?_) #[true, true, true, true, true, true, true, true, true, true, true, true, true, true, true, true, true, false, true, false, true, false, false, false, false, false, false] rfl rfl (any_of HT_.out (by kernel_rfl)) (fun _ _ _ h => h) (Or.inl ⟨by rfl, ?_⟩) ?_ ?_
   rotate_left
   ·
    intro w'
    go_simp
    with_reducible rfl
   rotate_left
   ·
    simp only [Act.put, List.setIfInBounds_toArray, List.set_cons_zero, List.set_cons_succ, i64_w, i32_w]
    rfl
   refine take_ (i := 17) (N := some 32) (v := ?_) (a' := ?_) #[true, true, true, true, true, true, true, true, true, true, true, true, true, true, true, true, true, true, true, false, true, false, false, false, false, false, false] rfl rfl (take_ofW HT_.out HW_.out (by kernel_rfl)) (fun _ _ _ h => h) (Or.inl ⟨by rfl, ?_⟩) hHeld ?_ ?_
   rotate_left
   ·
    rintro w' ⟨s0, s1, s2, s3, s4, s5, s6, s7, s8, s9, s10, s11, s12, s13, s14, s15, s16, s17, s18, s19, s20, s21, s22, s23, s24, s25, s26, s27, s28, s29, s30, s31, s32, s33, s34, s35, s36, s37, s38, s39, s40, s41, s42⟩
    go_simp
    with_reducible rfl
   rotate_left
   ·
    simp only [Act.put, List.setIfInBounds_toArray, List.set_cons_zero, List.set_cons_succ, i64_w, i32_w]
    rfl
   refine take_ (i := 19) (N := some 34) (v := ?_) (a' := ?_) #[true, true, true, true, true, true, true, true, true, true, true, true, true, true, true, true, true, true, true, true, true, false, false, false, false, false, false] rfl rfl (take_ofW HT_.out HW_.out (by kernel_rfl)) (fun _ _ _ h => h) (Or.inl ⟨by rfl, ?_⟩) hHeld ?_ ?_
   rotate_left
   ·
    rintro w' ⟨s0, s1, s2, s3, s4, s5, s6, s7, s8, s9, s10, s11, s12, s13, s14, s15, s16, s17, s18, s19, s20, s21, s22, s23, s24, s25, s26, s27, s28, s29, s30, s31, s32, s33, s34, s35, s36, s37, s38, s39, s40, s41, s42⟩
    go_simp
    with_reducible rfl
   rotate_left
   ·
    simp only [Act.put, List.setIfInBounds_toArray, List.set_cons_zero, List.set_cons_succ, i64_w, i32_w]
    rfl
   refine pure_ (i := 21) (N := some 36) (v := ?_) (a' := ?_) #[true, true, true, true, true, true, true, true, true, true, true, true, true, true, true, true, true, true, true, true, true, true, false, false, false, false, false] rfl rfl (any_of HT_.out (by kernel_rfl)) (fun _ _ _ h => h) (Or.inl ⟨by rfl, ?_⟩) ?_ ?_
   rotate_left
   ·
    intro w'
    go_simp
    with_reducible rfl
   rotate_left
   ·
    simp only [Act.put, List.setIfInBounds_toArray, List.set_cons_zero, List.set_cons_succ, i64_w, i32_w]
    rfl
   refine pure_ (i := 22) (N := some 37) (v := ?_) (a' := ?_) #[true, true, true, true, true, true, true, true, true, true, true, true, true, true, true, true, true, true, true, true, true, true, true, false, false, false, false] rfl rfl (any_of HT_.out (by kernel_rfl)) (fun _ _ _ h => h) (Or.inl ⟨by rfl, ?_⟩) ?_ ?_
   rotate_left
   ·
    intro w'
    go_simp
    with_reducible rfl
   rotate_left
   ·
    simp only [Act.put, List.setIfInBounds_toArray, List.set_cons_zero, List.set_cons_succ, i64_w, i32_w]
    rfl
   refine take_ (i := 23) (N := some 38) (v := ?_) (a' := ?_) #[true, true, true, true, true, true, true, true, true, true, true, true, true, true, true, true, true, true, true, true, true, true, true, true, false, false, false] rfl rfl (take_ofW HT_.out HW_.out (by kernel_rfl)) (fun _ _ _ h => h) (Or.inl ⟨by rfl, ?_⟩) hHeld ?_ ?_
   rotate_left
   ·
    rintro w' ⟨s0, s1, s2, s3, s4, s5, s6, s7, s8, s9, s10, s11, s12, s13, s14, s15, s16, s17, s18, s19, s20, s21, s22, s23, s24, s25, s26, s27, s28, s29, s30, s31, s32, s33, s34, s35, s36, s37, s38, s39, s40, s41, s42⟩
    go_simp
    with_reducible rfl
   rotate_left
   ·
    simp only [Act.put, List.setIfInBounds_toArray, List.set_cons_zero, List.set_cons_succ, i64_w, i32_w]
    rfl
   refine pure_ (i := 24) (N := some 39) (v := ?_) (a' := ?_) #[true, true, true, true, true, true, true, true, true, true, true, true, true, true, true, true, true, true, true, true, true, true, true, true, true, false, false] rfl rfl (any_of HT_.out (by kernel_rfl)) (fun _ _ _ h => h) (Or.inl ⟨by rfl, ?_⟩) ?_ ?_
   rotate_left
   ·
    intro w'
    go_simp
    with_reducible rfl
   rotate_left
   ·
    simp only [Act.put, List.setIfInBounds_toArray, List.set_cons_zero, List.set_cons_succ, i64_w, i32_w]
    rfl
   refine pure_ (i := 25) (N := some 40) (v := ?_) (a' := ?_) #[true, true, true, true, true, true, true, true, true, true, true, true, true, true, true, true, true, true, true, true, true, true, true, true, true, true, false] rfl rfl (any_of HT_.out (by kernel_rfl)) (fun _ _ _ h => h) (Or.inl ⟨by rfl, ?_⟩) ?_ ?_
   rotate_left
   ·
    intro w'
    go_simp
    with_reducible rfl
   rotate_left
   ·
    simp only [Act.put, List.setIfInBounds_toArray, List.set_cons_zero, List.set_cons_succ, i64_w, i32_w]
    rfl
   refine pure_ (i := 26) (N := some 41) (v := ?_) (a' := ?_) #[true, true, true, true, true, true, true, true, true, true, true, true, true, true, true, true, true, true, true, true, true, true, true, true, true, true, true] rfl rfl (any_of HT_.out (by kernel_rfl)) (fun _ _ _ h => h) (Or.inl ⟨by rfl, ?_⟩) ?_ ?_
   rotate_left
   ·
    intro w'
    go_simp
    with_reducible rfl
   rotate_left
   ·
    simp only [Act.put, List.setIfInBounds_toArray, List.set_cons_zero, List.set_cons_succ, i64_w, i32_w]
    rfl
   refine done_ (done_of HT_.out (by kernel_rfl)) ?_
   try go_wp2
   go_roundg k1
   case measure => have := HK1.out; omega
   case rel => exact ⟨(wrap64 (x3_1 + 1)), au61, H', ⟨by have := HK1.out; omega⟩, ⟨by (with_reducible repeat (first | refine blk_drewN ?_ _ | refine blk_drew ?_ | refine blk_alloc ?_ _)); exact BK761.out⟩, ⟨by repeat (first | (with_reducible first | exact HB.out | apply below_alloc | apply pw_below_drewN | apply below_drew1 | refine below_set ?_ GE761.out) | exact HB.out)⟩⟩
  |
   with_reducible refine (spec_l4Entry.calls k1 ((rd_T65 l0_0 x3_1).f0) ((rd_T65 l0_0 x3_1).f1) _ _ ((rd_T65 l0_0 x3_1).f2) _ _ ((rd_T65 l0_0 x3_1).f3) ((rd_T65 l0_0 x3_1).f4) ((rd_T65 l0_0 x3_1).f5) ((rd_T65 l0_0 x3_1).f6) ((rd_T65 l0_0 x3_1).f7.f0) ((rd_T65 l0_0 x3_1).f7.f1) ((rd_T65 l0_0 x3_1).f7.f2) ((rd_T65 l0_0 x3_1).f7.f3) ((rd_T65 l0_0 x3_1).f8) ((rd_T65 l0_0 x3_1).f9) ((rd_T65 l0_0 x3_1).f10) _ _ ?side1 ?side2 ?side3 ?side4 A9.out).mono ?_
   (case side1 => repeat (first | exact (Kd.C_below HR762_2.out HB.out) | (with_reducible refine Kd.C_alloc ?_ _) | (with_reducible refine Kd.C_drewN ?_ _) | (with_reducible refine Kd.C_drew ?_)))
   (case side2 => exact HC762_2.out)
   (case side3 => repeat (first | exact (Kd.C_below HR762_3.out HB.out) | (with_reducible refine Kd.C_alloc ?_ _) | (with_reducible refine Kd.C_drewN ?_ _) | (with_reducible refine Kd.C_drew ?_)))
   (case side4 => exact HC762_3.out)
   rintro e w21 ⟨rfl, hb⟩
   refine ⟨_, rfl, ?_⟩
   have n0_ := Aside0.mk (blk_below (g := gb761) (o := .cells #[.slice (some ad762) l0_0.length c0_0] 76 (0, 0)) au36 hb)
   have n1_ := Aside0.mk (below_step au17 hb)
   clear BK761
   clear HB
   have BK761 := n0_
   have HB := n1_
   clear n0_ n1_
   (try clear hb)
   (try clear hb2)
   (try clear hk)
   (try clear hi)
   refine hK.out _ _ ⟨(blk_cell BK761.out 0).trans rfl, ((HB.out.cell (World.block_lt_of_cell? w _ hw762_0)).trans hw762_0), ((HB.out.cell (World.block_lt_of_cell? w _ hw762_1)).trans hw762_1), ((HB.out.cell (World.block_lt_of_cell? w _ hw762_2)).trans hw762_2), ((HB.out.cell (World.block_lt_of_cell? w _ hw762_3)).trans hw762_3), ((HB.out.cell (World.block_lt_of_cell? w _ hw762_4)).trans hw762_4), ((HB.out.cell (World.block_lt_of_cell? w _ hw762_5)).trans hw762_5), ((HB.out.cell (World.block_lt_of_cell? w _ hw762_6)).trans hw762_6), ((HB.out.cell (World.block_lt_of_cell? w _ hw762_7)).trans hw762_7), ((HB.out.cell (World.block_lt_of_cell? w _ hw762_8)).trans hw762_8), ((HB.out.cell (World.block_lt_of_cell? w _ hw762_9)).trans hw762_9), ((HB.out.cell (World.block_lt_of_cell? w _ hw762_10)).trans hw762_10), ((HB.out.cell (World.block_lt_of_cell? w _ hw762_11)).trans hw762_11), ((HB.out.cell (World.block_lt_of_cell? w _ hw762_12)).trans hw762_12), ((HB.out.cell (World.block_lt_of_cell? w _ hw762_13)).trans hw762_13), ((HB.out.cell (World.block_lt_of_cell? w _ hw764_0)).trans hw764_0), ((HB.out.cell (World.block_lt_of_cell? w _ hw764_1)).trans hw764_1), ((HB.out.cell (World.block_lt_of_cell? w _ hw764_2)).trans hw764_2), ((HB.out.cell (World.block_lt_of_cell? w _ hw764_3)).trans hw764_3), ((HB.out.cell (World.block_lt_of_cell? w _ hw764_4)).trans hw764_4), ((HB.out.cell (World.block_lt_of_cell? w _ hw764_5)).trans hw764_5), ((HB.out.cell (World.block_lt_of_cell? w _ hw764_6)).trans hw764_6), ((HB.out.cell (World.block_lt_of_cell? w _ hw764_7)).trans hw764_7), ((HB.out.cell (World.block_lt_of_cell? w _ hw764_8)).trans hw764_8), ((HB.out.cell (World.block_lt_of_cell? w _ hw764_9)).trans hw764_9), ((HB.out.cell (World.block_lt_of_cell? w _ hw764_10)).trans hw764_10), ((HB.out.cell (World.block_lt_of_cell? w _ hw764_11)).trans hw764_11), ((HB.out.cell (World.block_lt_of_cell? w _ hw764_12)).trans hw764_12), ((HB.out.cell (World.block_lt_of_cell? w _ hw764_13)).trans hw764_13), ((HB.out.cell (World.block_lt_of_cell? w _ hw765_0)).trans hw765_0), ((HB.out.cell (World.block_lt_of_cell? w _ hw765_1)).trans hw765_1), ((HB.out.cell (World.block_lt_of_cell? w _ hw765_2)).trans hw765_2), ((HB.out.cell (World.block_lt_of_cell? w _ hw765_3)).trans hw765_3), ((HB.out.cell (World.block_lt_of_cell? w _ hw765_4)).trans hw765_4), ((HB.out.cell (World.block_lt_of_cell? w _ hw765_5)).trans hw765_5), ((HB.out.cell (World.block_lt_of_cell? w _ hw765_6)).trans hw765_6), ((HB.out.cell (World.block_lt_of_cell? w _ hw765_7)).trans hw765_7), ((HB.out.cell (World.block_lt_of_cell? w _ hw765_8)).trans hw765_8), ((HB.out.cell (World.block_lt_of_cell? w _ hw765_9)).trans hw765_9), ((HB.out.cell (World.block_lt_of_cell? w _ hw765_10)).trans hw765_10), ((HB.out.cell (World.block_lt_of_cell? w _ hw765_11)).trans hw765_11), ((HB.out.cell (World.block_lt_of_cell? w _ hw765_12)).trans hw765_12), ((HB.out.cell (World.block_lt_of_cell? w _ hw765_13)).trans hw765_13)⟩ (fun hHeld => ?_)
   clear hK K
   refine norm_ (a' := ?_) ?_ ?_
   rotate_left
   ·
    show Act.put _ (some 20) _ = _
    simp only [Act.put, List.setIfInBounds_toArray, List.set_cons_zero, List.set_cons_succ, i64_w, i32_w]
    rfl
   refine pure_ (i := 6) (N := some 21) (v := ?_) (a' := ?_) #[true, true, true, true, true, true, true, false, false, false, false, false, false, false, false, false, false, false, false, false, false, false, false, false, false, false, false] rfl rfl (any_of HT_.out (by kernel_rfl)) (fun _ _ _ h => h) (Or.inl ⟨by rfl, ?_⟩) ?_ ?_
   rotate_left
   ·
    intro w'
    go_simp
    with_reducible rfl
   rotate_left
   ·
    simp only [Act.put, List.setIfInBounds_toArray, List.set_cons_zero, List.set_cons_succ, i64_w, i32_w]
    rfl
   refine pure_ (i := 7) (N := some 22) (v := ?_) (a' := ?_) #[true, true, true, true, true, true, true, true, false, false, false, false, false, false, false, false, false, false, false, false, false, false, false, false, false, false, false] rfl rfl (any_of HT_.out (by kernel_rfl)) (fun _ _ _ h => h) (Or.inl ⟨by rfl, ?_⟩) ?_ ?_
   rotate_left
   ·
    intro w'
    go_simp
    with_reducible rfl
   rotate_left
   ·
    simp only [Act.put, List.setIfInBounds_toArray, List.set_cons_zero, List.set_cons_succ, i64_w, i32_w]
    rfl
   refine pure_ (i := 8) (N := some 23) (v := ?_) (a' := ?_) #[true, true, true, true, true, true, true, true, true, false, false, false, false, false, false, false, false, false, false, false, false, false, false, false, false, false, false] rfl rfl (any_of HT_.out (by kernel_rfl)) (fun _ _ _ h => h) (Or.inl ⟨by rfl, ?_⟩) ?_ ?_
   rotate_left
   ·
    intro w'
    go_simp
    with_reducible rfl
   rotate_left
   ·
    simp only [Act.put, List.setIfInBounds_toArray, List.set_cons_zero, List.set_cons_succ, i64_w, i32_w]
    rfl
   refine pure_ (i := 9) (N := some 24) (v := ?_) (a' := ?_) #[true, true, true, true, true, true, true, true, true, true, false, false, false, false, false, false, false, false, false, false, false, false, false, false, false, false, false] rfl rfl (any_of HT_.out (by kernel_rfl)) (fun _ _ _ h => h) (Or.inl ⟨by rfl, ?_⟩) ?_ ?_
   rotate_left
   ·
    intro w'
    go_simp
    with_reducible rfl
   rotate_left
   ·
    simp only [Act.put, List.setIfInBounds_toArray, List.set_cons_zero, List.set_cons_succ, i64_w, i32_w]
    rfl
   refine pure_ (i := 10) (N := some 25) (v := ?_) (a' := ?_) #[true, true, true, true, true, true, true, true, true, true, true, false, false, false, false, false, false, false, false, false, false, false, false, false, false, false, false] rfl rfl (any_of HT_.out (by kernel_rfl)) (fun _ _ _ h => h) (Or.inl ⟨by rfl, ?_⟩) ?_ ?_
   rotate_left
   ·
    intro w'
    go_simp
    with_reducible rfl
   rotate_left
   ·
    simp only [Act.put, List.setIfInBounds_toArray, List.set_cons_zero, List.set_cons_succ, i64_w, i32_w]
    rfl
   refine pure_ (i := 11) (N := some 26) (v := ?_) (a' := ?_) #[true, true, true, true, true, true, true, true, true, true, true, true, false, false, false, false, false, false, false, false, false, false, false, false, false, false, false] rfl rfl (any_of HT_.out (by kernel_rfl)) (fun _ _ _ h => h) (Or.inl ⟨by rfl, ?_⟩) ?_ ?_
   rotate_left
   ·
    intro w'
    go_simp
    with_reducible rfl
   rotate_left
   ·
    simp only [Act.put, List.setIfInBounds_toArray, List.set_cons_zero, List.set_cons_succ, i64_w, i32_w]
    rfl
   refine pure_ (i := 13) (N := some 28) (v := ?_) (a' := ?_) #[true, true, true, true, true, true, true, true, true, true, true, true, false, true, false, false, false, false, false, false, false, false, false, false, false, false, false] rfl rfl (any_of HT_.out (by kernel_rfl)) (fun _ _ _ h => h) (Or.inl ⟨by rfl, ?_⟩) ?_ ?_
   rotate_left
   ·
    intro w'
    go_simp
    with_reducible rfl
   rotate_left
   ·
    simp only [Act.put, List.setIfInBounds_toArray, List.set_cons_zero, List.set_cons_succ, i64_w, i32_w]
    rfl
   refine pure_ (i := 14) (N := some 29) (v := ?_) (a' := ?_) #[true, true, true, true, true, true, true, true, true, true, true, true, false, true, true, false, false, false, false, false, false, false, false, false, false, false, false] rfl rfl (any_of HT_.out (by kernel_rfl)) (fun _ _ _ h => h) (Or.inl ⟨by rfl, ?_⟩) ?_ ?_
   rotate_left
   ·
    intro w'
    go_simp
    with_reducible rfl
   rotate_left
   ·
    simp only [Act.put, List.setIfInBounds_toArray, List.set_cons_zero, List.set_cons_succ, i64_w, i32_w]
    rfl
   refine pure_ (i := 18) (N := some 33) (v := ?_) (a' := ?_) #[true, true, true, true, true, true, true, true, true, true, true, true, false, true, true, false, false, false, true, false, false, false, false, false, false, false, false] rfl rfl (any_of HT_.out (by kernel_rfl)) (fun _ _ _ h => h) (Or.inl ⟨by rfl, ?_⟩) ?_ ?_
   rotate_left
   ·
    intro w'
    go_simp
    with_reducible rfl
   rotate_left
   ·
    simp only [Act.put, List.setIfInBounds_toArray, List.set_cons_zero, List.set_cons_succ, i64_w, i32_w]
    rfl
   refine pure_ (i := 20) (N := some 35) (v := ?_) (a' := ?_) #[true, true, true, true, true, true, true, true, true, true, true, true, false, true, true, false, false, false, true, false, true, false, false, false, false, false, false] rfl rfl (any_of HT_.out (by kernel_rfl)) (fun _ _ _ h => h) (Or.inl ⟨by rfl, ?_⟩) ?_ ?_
   rotate_left
   ·
    intro w'
    go_simp
    with_reducible rfl
   rotate_left
   ·
    simp only [Act.put, List.setIfInBounds_toArray, List.set_cons_zero, List.set_cons_succ, i64_w, i32_w]
    rfl
   refine take_ (i := 12) (N := some 27) (v := ?_) (a' := ?_) #[true, true, true, true, true, true, true, true, true, true, true, true, true, true, true, false, false, false, true, false, true, false, false, false, false, false, false] rfl rfl (take_ofW HT_.out HW_.out (by kernel_rfl)) (fun _ _ _ h => h) (Or.inl ⟨by rfl, ?_⟩) hHeld ?_ ?_
   rotate_left
   ·
    rintro w' ⟨s0, s1, s2, s3, s4, s5, s6, s7, s8, s9, s10, s11, s12, s13, s14, s15, s16, s17, s18, s19, s20, s21, s22, s23, s24, s25, s26, s27, s28, s29, s30, s31, s32, s33, s34, s35, s36, s37, s38, s39, s40, s41, s42⟩
    go_simp
    with_reducible rfl
   rotate_left
   ·
    simp only [Act.put, List.setIfInBounds_toArray, List.set_cons_zero, List.set_cons_succ, i64_w, i32_w]
    rfl
   refine pure_ (i := 15) (N := some 30) (v := ?_) (a' := ?_) #[true, true, true, true, true, true, true, true, true, true, true, true, true, true, true, true, false, false, true, false, true, false, false, false, false, false, false] rfl rfl (any_of HT_.out (by kernel_rfl)) (fun _ _ _ h => h) (Or.inl ⟨by rfl, ?_⟩) ?_ ?_
   rotate_left
   ·
    intro w'
    go_simp
    with_reducible rfl
   rotate_left
   ·
    simp only [Act.put, List.setIfInBounds_toArray, List.set_cons_zero, List.set_cons_succ, i64_w, i32_w]
    rfl
   refine pure_ (i := 16) (N := some 31) (v := ?_) (a' := ?_) #[true, true, true, true, true, true, true, true, true, true, true, true, true, true, true, true, true, false, true, false, true, false, false, false, false, false, false] rfl rfl (any_of HT_.out (by kernel_rfl)) (fun _ _ _ h => h) (Or.inl ⟨by rfl, ?_⟩) ?_ ?_
   rotate_left
   ·
    intro w'
    go_simp
    with_reducible rfl
   rotate_left
   ·
    simp only [Act.put, List.setIfInBounds_toArray, List.set_cons_zero, List.set_cons_succ, i64_w, i32_w]
    rfl
   refine take_ (i := 17) (N := some 32) (v := ?_) (a' := ?_) #[true, true, true, true, true, true, true, true, true, true, true, true, true, true, true, true, true, true, true, false, true, false, false, false, false, false, false] rfl rfl (take_ofW HT_.out HW_.out (by kernel_rfl)) (fun _ _ _ h => h) (Or.inl ⟨by rfl, ?_⟩) hHeld ?_ ?_
   rotate_left
   ·
    rintro w' ⟨s0, s1, s2, s3, s4, s5, s6, s7, s8, s9, s10, s11, s12, s13, s14, s15, s16, s17, s18, s19, s20, s21, s22, s23, s24, s25, s26, s27, s28, s29, s30, s31, s32, s33, s34, s35, s36, s37, s38, s39, s40, s41, s42⟩
    go_simp
    with_reducible rfl
   rotate_left
   ·
    simp only [Act.put, List.setIfInBounds_toArray, List.set_cons_zero, List.set_cons_succ, i64_w, i32_w]
    rfl
   refine take_ (i := 19) (N := some 34) (v := ?_) (a' := ?_) #[true, true, true, true, true, true, true, true, true, true, true, true, true, true, true, true, true, true, true, true, true, false, false, false, false, false, false] rfl rfl (take_ofW HT_.out HW_.out (by kernel_rfl)) (fun _ _ _ h => h) (Or.inl ⟨by rfl, ?_⟩) hHeld ?_ ?_
   rotate_left
   ·
    rintro w' ⟨s0, s1, s2, s3, s4, s5, s6, s7, s8, s9, s10, s11, s12, s13, s14, s15, s16, s17, s18, s19, s20, s21, s22, s23, s24, s25, s26, s27, s28, s29, s30, s31, s32, s33, s34, s35, s36, s37, s38, s39, s40, s41, s42⟩
    go_simp
    with_reducible rfl
   rotate_left
   ·
    simp only [Act.put, List.setIfInBounds_toArray, List.set_cons_zero, List.set_cons_succ, i64_w, i32_w]
    rfl
   refine pure_ (i := 21) (N := some 36) (v := ?_) (a' := ?_) #[true, true, true, true, true, true, true, true, true, true, true, true, true, true, true, true, true, true, true, true, true, true, false, false, false, false, false] rfl rfl (any_of HT_.out (by kernel_rfl)) (fun _ _ _ h => h) (Or.inl ⟨by rfl, ?_⟩) ?_ ?_
   rotate_left
   ·
    intro w'
    go_simp
    with_reducible rfl
   rotate_left
   ·
    simp only [Act.put, List.setIfInBounds_toArray, List.set_cons_zero, List.set_cons_succ, i64_w, i32_w]
    rfl
   refine pure_ (i := 22) (N := some 37) (v := ?_) (a' := ?_) #[true, true, true, true, true, true, true, true, true, true, true, true, true, true, true, true, true, true, true, true, true, true, true, false, false, false, false] rfl rfl (any_of HT_.out (by kernel_rfl)) (fun _ _ _ h => h) (Or.inl ⟨by rfl, ?_⟩) ?_ ?_
   rotate_left
   ·
    intro w'
    go_simp
    with_reducible rfl
   rotate_left
   ·
    simp only [Act.put, List.setIfInBounds_toArray, List.set_cons_zero, List.set_cons_succ, i64_w, i32_w]
    rfl
   refine take_ (i := 23) (N := some 38) (v := ?_) (a' := ?_) #[true, true, true, true, true, true, true, true, true, true, true, true, true, true, true, true, true, true, true, true, true, true, true, true, false, false, false] rfl rfl (take_ofW HT_.out HW_.out (by kernel_rfl)) (fun _ _ _ h => h) (Or.inl ⟨by rfl, ?_⟩) hHeld ?_ ?_
   rotate_left
   ·
    rintro w' ⟨s0, s1, s2, s3, s4, s5, s6, s7, s8, s9, s10, s11, s12, s13, s14, s15, s16, s17, s18, s19, s20, s21, s22, s23, s24, s25, s26, s27, s28, s29, s30, s31, s32, s33, s34, s35, s36, s37, s38, s39, s40, s41, s42⟩
    go_simp
    with_reducible rfl
   rotate_left
   ·
    simp only [Act.put, List.setIfInBounds_toArray, List.set_cons_zero, List.set_cons_succ, i64_w, i32_w]
    rfl
   refine pure_ (i := 24) (N := some 39) (v := ?_) (a' := ?_) #[true, true, true, true, true, true, true, true, true, true, true, true, true, true, true, true, true, true, true, true, true, true, true, true, true, false, false] rfl rfl (any_of HT_.out (by kernel_rfl)) (fun _ _ _ h => h) (Or.inl ⟨by rfl, ?_⟩) ?_ ?_
   rotate_left
   ·
    intro w'
    go_simp
    with_reducible rfl
   rotate_left
   ·
    simp only [Act.put, List.setIfInBounds_toArray, List.set_cons_zero, List.set_cons_succ, i64_w, i32_w]
    rfl
   refine pure_ (i := 25) (N := some 40) (v := ?_) (a' := ?_) #[true, true, true, true, true, true, true, true, true, true, true, true, true, true, true, true, true, true, true, true, true, true, true, true, true, true, false] rfl rfl (any_of HT_.out (by kernel_rfl)) (fun _ _ _ h => h) (Or.inl ⟨by rfl, ?_⟩) ?_ ?_
   rotate_left
   ·
    intro w'
    go_simp
    with_reducible rfl
   rotate_left
   ·
    simp only [Act.put, List.setIfInBounds_toArray, List.set_cons_zero, List.set_cons_succ, i64_w, i32_w]
    rfl
   refine pure_ (i := 26) (N := some 41) (v := ?_) (a' := ?_) #[true, true, true, true, true, true, true, true, true, true, true, true, true, true, true, true, true, true, true, true, true, true, true, true, true, true, true] rfl rfl (any_of HT_.out (by kernel_rfl)) (fun _ _ _ h => h) (Or.inl ⟨by rfl, ?_⟩) ?_ ?_
   rotate_left
   ·
    intro w'
    go_simp
    with_reducible rfl
   rotate_left
   ·
    simp only [Act.put, List.setIfInBounds_toArray, List.set_cons_zero, List.set_cons_succ, i64_w, i32_w]
    rfl
   refine done_ (done_of HT_.out (by kernel_rfl)) ?_
   try go_wp2
   go_ret
   exact ⟨by first | rfl | (simp [errW_none, errW_some] <;> rfl) | (simp only [← hji12]; first | rfl | (simp [errW_none, errW_some] <;> rfl)) | (simp [*, errW_none, errW_some] <;> rfl), by repeat (first | (with_reducible first | exact HB.out | apply below_alloc | apply pw_below_drewN | apply below_drew1 | refine below_set ?_ GE761.out) | exact HB.out)⟩) : P := h
set_option maxRecDepth 100000 in
theorem spec_l4Good.L1 {P : Prop} (h : P := by
  have hcz22_0 : wr.cell? ⟨gb761, 0, none⟩ = some (.slice A0_0 l0_0.length c0_0) := (blk_cell BK761.out 0).trans rfl
  have hfz22_0 := blk_frozen BK761.out 0
  try go_wp2
  have n0_ := Aside0.mk (blk_drew BK761.out)
  have n1_ := Aside0.mk (below_drew1 HB.out)
  clear BK761
  clear HB
  have BK761 := n0_
  have HB := n1_
  clear n0_ n1_
  have p762 : 0 ≤ (x3_1 : Int) := of_decide_eq_true au60
  have q762 : x3_1 < (l0_0.length : Int) := of_decide_eq_true au60
  obtain ⟨ad762, A762_2, c762_2, A762_3, c762_3, e762, hx762_0, hx762_1, hx762_2, hx762_3, hx762_4, hx762_5, hx762_6, hx762_7, hx762_8, hx762_9, hx762_10, hx762_11, hx762_12, hx762_13, hl762_2, hi762_2, hl762_3, hi762_3⟩ := at_T65 HR0_0.out x3_1 p762 q762
  have hw762_13 := hx762_13
  have hw762_12 := hx762_12
  have hw762_11 := hx762_11
  have hw762_10 := hx762_10
  have hw762_9 := hx762_9
  have hw762_8 := hx762_8
  have hw762_7 := hx762_7
  have hw762_6 := hx762_6
  have hw762_5 := hx762_5
  have hw762_4 := hx762_4
  have hw762_3 := hx762_3
  have hw762_2 := hx762_2
  have hw762_1 := hx762_1
  have hw762_0 := hx762_0
  cases e762
  replace hx762_0 := (HB.out.cell (World.block_lt_of_cell? w _ hx762_0)).trans hx762_0
  replace hx762_1 := (HB.out.cell (World.block_lt_of_cell? w _ hx762_1)).trans hx762_1
  replace hx762_2 := (HB.out.cell (World.block_lt_of_cell? w _ hx762_2)).trans hx762_2
  replace hx762_3 := (HB.out.cell (World.block_lt_of_cell? w _ hx762_3)).trans hx762_3
  replace hx762_4 := (HB.out.cell (World.block_lt_of_cell? w _ hx762_4)).trans hx762_4
  replace hx762_5 := (HB.out.cell (World.block_lt_of_cell? w _ hx762_5)).trans hx762_5
  replace hx762_6 := (HB.out.cell (World.block_lt_of_cell? w _ hx762_6)).trans hx762_6
  replace hx762_7 := (HB.out.cell (World.block_lt_of_cell? w _ hx762_7)).trans hx762_7
  replace hx762_8 := (HB.out.cell (World.block_lt_of_cell? w _ hx762_8)).trans hx762_8
  replace hx762_9 := (HB.out.cell (World.block_lt_of_cell? w _ hx762_9)).trans hx762_9
  replace hx762_10 := (HB.out.cell (World.block_lt_of_cell? w _ hx762_10)).trans hx762_10
  replace hx762_11 := (HB.out.cell (World.block_lt_of_cell? w _ hx762_11)).trans hx762_11
  replace hx762_12 := (HB.out.cell (World.block_lt_of_cell? w _ hx762_12)).trans hx762_12
  replace hx762_13 := (HB.out.cell (World.block_lt_of_cell? w _ hx762_13)).trans hx762_13
  have HR762_2 := Aside0.mk hi762_2
  have HC762_2 := Aside0.mk hl762_2
  clear hi762_2 hl762_2
  have HR762_3 := Aside0.mk hi762_3
  have HC762_3 := Aside0.mk hl762_3
  clear hi762_3 hl762_3
  replace p762 := eq_true p762
  replace q762 := eq_true q762
  refine start_ (n := 27) (S := fun w' => w'.cell? ⟨gb761, 0, none⟩ = some (.slice (some ad762) l0_0.length c0_0) ∧ w'.cell? (ad762.add ((x3_1).toNat * 14)) = some (.string ((rd_T65 l0_0 x3_1).f0)) ∧ w'.cell? ⟨(ad762.add ((x3_1).toNat * 14)).block, (ad762.add ((x3_1).toNat * 14)).off + 1, none⟩ = some (.int .i64 ((rd_T65 l0_0 x3_1).f1)) ∧ w'.cell? ⟨(ad762.add ((x3_1).toNat * 14)).block, (ad762.add ((x3_1).toNat * 14)).off + 2, none⟩ = some (.slice A762_2 ((rd_T65 l0_0 x3_1).f2).length c762_2) ∧ w'.cell? ⟨(ad762.add ((x3_1).toNat * 14)).block, (ad762.add ((x3_1).toNat * 14)).off + 3, none⟩ = some (.slice A762_3 ((rd_T65 l0_0 x3_1).f3).length c762_3) ∧ w'.cell? ⟨(ad762.add ((x3_1).toNat * 14)).block, (ad762.add ((x3_1).toNat * 14)).off + 4, none⟩ = some (.string ((rd_T65 l0_0 x3_1).f4)) ∧ w'.cell? ⟨(ad762.add ((x3_1).toNat * 14)).block, (ad762.add ((x3_1).toNat * 14)).off + 5, none⟩ = some (.string ((rd_T65 l0_0 x3_1).f5)) ∧ w'.cell? ⟨(ad762.add ((x3_1).toNat * 14)).block, (ad762.add ((x3_1).toNat * 14)).off + 6, none⟩ = some (.string ((rd_T65 l0_0 x3_1).f6)) ∧ w'.cell? ⟨(ad762.add ((x3_1).toNat * 14)).block, (ad762.add ((x3_1).toNat * 14)).off + 7, none⟩ = some (.int .i64 ((rd_T65 l0_0 x3_1).f7.f0)) ∧ w'.cell? ⟨(ad762.add ((x3_1).toNat * 14)).block, (ad762.add ((x3_1).toNat * 14)).off + 8, none⟩ = some (.int .i64 ((rd_T65 l0_0 x3_1).f7.f1)) ∧ w'.cell? ⟨(ad762.add ((x3_1).toNat * 14)).block, (ad762.add ((x3_1).toNat * 14)).off + 9, none⟩ = some (.int .i64 ((rd_T65 l0_0 x3_1).f7.f2)) ∧ w'.cell? ⟨(ad762.add ((x3_1).toNat * 14)).block, (ad762.add ((x3_1).toNat * 14)).off + 10, none⟩ = some (.bool ((rd_T65 l0_0 x3_1).f7.f3)) ∧ w'.cell? ⟨(ad762.add ((x3_1).toNat * 14)).block, (ad762.add ((x3_1).toNat * 14)).off + 11, none⟩ = some (.int .i64 ((rd_T65 l0_0 x3_1).f8)) ∧ w'.cell? ⟨(ad762.add ((x3_1).toNat * 14)).block, (ad762.add ((x3_1).toNat * 14)).off + 12, none⟩ = some (.string ((rd_T65 l0_0 x3_1).f9)) ∧ w'.cell? ⟨(ad762.add ((x3_1).toNat * 14)).block, (ad762.add ((x3_1).toNat * 14)).off + 13, none⟩ = some (.string ((rd_T65 l0_0 x3_1).f10))) (ds := []) #[false, false, false, false, false, false, false, false, false, false, false, false, false, false, false, false, false, false, false, false, false, false, false, false, false, false, false] (by kernel_rfl) rfl rfl ⟨(blk_cell BK761.out 0).trans rfl, ((HB.out.cell (World.block_lt_of_cell? w _ hw762_0)).trans hw762_0), ((HB.out.cell (World.block_lt_of_cell? w _ hw762_1)).trans hw762_1), ((HB.out.cell (World.block_lt_of_cell? w _ hw762_2)).trans hw762_2), ((HB.out.cell (World.block_lt_of_cell? w _ hw762_3)).trans hw762_3), ((HB.out.cell (World.block_lt_of_cell? w _ hw762_4)).trans hw762_4), ((HB.out.cell (World.block_lt_of_cell? w _ hw762_5)).trans hw762_5), ((HB.out.cell (World.block_lt_of_cell? w _ hw762_6)).trans hw762_6), ((HB.out.cell (World.block_lt_of_cell? w _ hw762_7)).trans hw762_7), ((HB.out.cell (World.block_lt_of_cell? w _ hw762_8)).trans hw762_8), ((HB.out.cell (World.block_lt_of_cell? w _ hw762_9)).trans hw762_9), ((HB.out.cell (World.block_lt_of_cell? w _ hw762_10)).trans hw762_10), ((HB.out.cell (World.block_lt_of_cell? w _ hw762_11)).trans hw762_11), ((HB.out.cell (World.block_lt_of_cell? w _ hw762_12)).trans hw762_12), ((HB.out.cell (World.block_lt_of_cell? w _ hw762_13)).trans hw762_13)⟩ (fun hHeld => ?_); refine with_tabW spec_l4Good.tab6 spec_l4Good.bits6 (fun HT_ HW_ => ?_)
  generalize wr.drew = w23 at BK761 HB HR762_2 HR762_3 hx762_0 hx762_1 hx762_10 hx762_11 hx762_12 hx762_13 hx762_2 hx762_3 hx762_4 hx762_5 hx762_6 hx762_7 hx762_8 hx762_9 hHeld ⊢
  refine pure_ (i := 0) (N := some 15) (v := ?_) (a' := ?_) #[true, false, false, false, false, false, false, false, false, false, false, false, false, false, false, false, false, false, false, false, false, false, false, false, false, false, false] rfl rfl (any_of HT_.out (by kernel_rfl)) (fun _ _ _ h => h) (Or.inl ⟨by rfl, ?_⟩) ?_ ?_
  rotate_left
  ·
   intro w'
   go_simp
   with_reducible rfl
  rotate_left
  ·
   simp only [Act.put, List.setIfInBounds_toArray, List.set_cons_zero, List.set_cons_succ, i64_w, i32_w]
   rfl
  refine pure_ (i := 2) (N := some 17) (v := ?_) (a' := ?_) #[true, false, true, false, false, false, false, false, false, false, false, false, false, false, false, false, false, false, false, false, false, false, false, false, false, false, false] rfl rfl (any_of HT_.out (by kernel_rfl)) (fun _ _ _ h => h) (Or.inl ⟨by rfl, ?_⟩) ?_ ?_
  rotate_left
  ·
   intro w'
   go_simp
   with_reducible rfl
  rotate_left
  ·
   simp only [Act.put, List.setIfInBounds_toArray, List.set_cons_zero, List.set_cons_succ, i64_w, i32_w]
   rfl
  refine take_ (i := 1) (N := some 16) (v := ?_) (a' := ?_) #[true, true, true, false, false, false, false, false, false, false, false, false, false, false, false, false, false, false, false, false, false, false, false, false, false, false, false] rfl rfl (take_ofW HT_.out HW_.out (by kernel_rfl)) (fun _ _ _ h => h) (Or.inl ⟨by rfl, ?_⟩) hHeld ?_ ?_
  rotate_left
  ·
   rintro w' ⟨s0, s1, s2, s3, s4, s5, s6, s7, s8, s9, s10, s11, s12, s13, s14⟩
   go_simp
   with_reducible rfl
  rotate_left
  ·
   simp only [Act.put, List.setIfInBounds_toArray, List.set_cons_zero, List.set_cons_succ, i64_w, i32_w]
   rfl
  refine pure_ (i := 3) (N := some 18) (v := ?_) (a' := ?_) #[true, true, true, true, false, false, false, false, false, false, false, false, false, false, false, false, false, false, false, false, false, false, false, false, false, false, false] rfl rfl (any_of HT_.out (by kernel_rfl)) (fun _ _ _ h => h) (Or.inl ⟨by rfl, ?_⟩) ?_ ?_
  rotate_left
  ·
   intro w'
   go_simp
   with_reducible rfl
  rotate_left
  ·
   simp only [Act.put, List.setIfInBounds_toArray, List.set_cons_zero, List.set_cons_succ, i64_w, i32_w]
   rfl
  refine take_ (i := 4) (N := some 19) (v := ?_) (a' := ?_) #[true, true, true, true, true, false, false, false, false, false, false, false, false, false, false, false, false, false, false, false, false, false, false, false, false, false, false] rfl rfl (take_ofW HT_.out HW_.out (by kernel_rfl)) (fun _ _ _ h => h) (Or.inl ⟨by rfl, ?_⟩) hHeld ?_ ?_
  rotate_left
  ·
   rintro w' ⟨s0, s1, s2, s3, s4, s5, s6, s7, s8, s9, s10, s11, s12, s13, s14⟩
   go_simp
   with_reducible rfl
  rotate_left
  ·
   simp only [Act.put, List.setIfInBounds_toArray, List.set_cons_zero, List.set_cons_succ, i64_w, i32_w]
   rfl
  refine one_ (i := 5) (N := some 20) #[true, true, true, true, true, true, false, false, false, false, false, false, false, false, false, false, false, false, false, false, false, false, false, false, false, false, false] rfl rfl (one_of HT_.out (by kernel_rfl)) (by decide) (fun K hK => ?_)
  refine goes_ Tryd.func101 (by kernel_rfl) rfl #[.agg #[.string ((rd_T65 l0_0 x3_1).f0), .int .i64 ((rd_T65 l0_0 x3_1).f1), .slice A762_2 ((rd_T65 l0_0 x3_1).f2).length c762_2, .slice A762_3 ((rd_T65 l0_0 x3_1).f3).length c762_3, .string ((rd_T65 l0_0 x3_1).f4), .string ((rd_T65 l0_0 x3_1).f5), .string ((rd_T65 l0_0 x3_1).f6), .int .i64 ((rd_T65 l0_0 x3_1).f7.f0), .int .i64 ((rd_T65 l0_0 x3_1).f7.f1), .int .i64 ((rd_T65 l0_0 x3_1).f7.f2), .bool ((rd_T65 l0_0 x3_1).f7.f3), .int .i64 ((rd_T65 l0_0 x3_1).f8), .string ((rd_T65 l0_0 x3_1).f9), .string ((rd_T65 l0_0 x3_1).f10)]] (by rfl) rfl rfl au30 ?_
  first
  |
   with_reducible refine (spec_l4Entry.calls k1 ((rd_T65 l0_0 x3_1).f0) ((rd_T65 l0_0 x3_1).f1) _ _ ((rd_T65 l0_0 x3_1).f2) _ _ ((rd_T65 l0_0 x3_1).f3) ((rd_T65 l0_0 x3_1).f4) ((rd_T65 l0_0 x3_1).f5) ((rd_T65 l0_0 x3_1).f6) ((rd_T65 l0_0 x3_1).f7.f0) ((rd_T65 l0_0 x3_1).f7.f1) ((rd_T65 l0_0 x3_1).f7.f2) ((rd_T65 l0_0 x3_1).f7.f3) ((rd_T65 l0_0 x3_1).f8) ((rd_T65 l0_0 x3_1).f9) ((rd_T65 l0_0 x3_1).f10) _ _ ?side1 ?side2 ?side3 ?side4 A9.out).mono ?_
   (case side1 => repeat (first | exact (Kd.C_below HR762_2.out HB.out) | (with_reducible refine Kd.C_alloc ?_ _) | (with_reducible refine Kd.C_drewN ?_ _) | (with_reducible refine Kd.C_drew ?_)))
   (case side2 => exact HC762_2.out)
   (case side3 => repeat (first | exact (Kd.C_below HR762_3.out HB.out) | (with_reducible refine Kd.C_alloc ?_ _) | (with_reducible refine Kd.C_drewN ?_ _) | (with_reducible refine Kd.C_drew ?_)))
   (case side4 => exact HC762_3.out)
   rintro e w24 ⟨rfl, hb⟩
   refine ⟨_, rfl, ?_⟩
   have n0_ := Aside0.mk (blk_below (g := gb761) (o := .cells #[.slice (some ad762) l0_0.length c0_0] 76 (0, 0)) au36 hb)
   have n1_ := Aside0.mk (below_step au17 hb)
   clear BK761
   clear HB
   have BK761 := n0_
   have HB := n1_
   clear n0_ n1_
   (try clear hb)
   (try clear hb2)
   (try clear hk)
   (try clear hi)
   refine hK.out _ _ ⟨(blk_cell BK761.out 0).trans rfl, ((HB.out.cell (World.block_lt_of_cell? w _ hw762_0)).trans hw762_0), ((HB.out.cell (World.block_lt_of_cell? w _ hw762_1)).trans hw762_1), ((HB.out.cell (World.block_lt_of_cell? w _ hw762_2)).trans hw762_2), ((HB.out.cell (World.block_lt_of_cell? w _ hw762_3)).trans hw762_3), ((HB.out.cell (World.block_lt_of_cell? w _ hw762_4)).trans hw762_4), ((HB.out.cell (World.block_lt_of_cell? w _ hw762_5)).trans hw762_5), ((HB.out.cell (World.block_lt_of_cell? w _ hw762_6)).trans hw762_6), ((HB.out.cell (World.block_lt_of_cell? w _ hw762_7)).trans hw762_7), ((HB.out.cell (World.block_lt_of_cell? w _ hw762_8)).trans hw762_8), ((HB.out.cell (World.block_lt_of_cell? w _ hw762_9)).trans hw762_9), ((HB.out.cell (World.block_lt_of_cell? w _ hw762_10)).trans hw762_10), ((HB.out.cell (World.block_lt_of_cell? w _ hw762_11)).trans hw762_11), ((HB.out.cell (World.block_lt_of_cell? w _ hw762_12)).trans hw762_12), ((HB.out.cell (World.block_lt_of_cell? w _ hw762_13)).trans hw762_13)⟩ (fun hHeld => ?_)
   clear hK K
   refine norm_ (a' := ?_) ?_ ?_
   rotate_left
   ·
    show Act.put _ (some 20) _ = _
    simp only [Act.put, List.setIfInBounds_toArray, List.set_cons_zero, List.set_cons_succ, i64_w, i32_w]
    rfl
   refine pure_ (i := 6) (N := some 21) (v := ?_) (a' := ?_) #[true, true, true, true, true, true, true, false, false, false, false, false, false, false, false, false, false, false, false, false, false, false, false, false, false, false, false] rfl rfl (any_of HT_.out (by kernel_rfl)) (fun _ _ _ h => h) (Or.inl ⟨by rfl, ?_⟩) ?_ ?_
   rotate_left
   ·
    intro w'
    go_simp
    with_reducible rfl
   rotate_left
   ·
    simp only [Act.put, List.setIfInBounds_toArray, List.set_cons_zero, List.set_cons_succ, i64_w, i32_w]
    rfl
   refine pure_ (i := 7) (N := some 22) (v := ?_) (a' := ?_) #[true, true, true, true, true, true, true, true, false, false, false, false, false, false, false, false, false, false, false, false, false, false, false, false, false, false, false] rfl rfl (any_of HT_.out (by kernel_rfl)) (fun _ _ _ h => h) (Or.inl ⟨by rfl, ?_⟩) ?_ ?_
   rotate_left
   ·
    intro w'
    go_simp
    with_reducible rfl
   rotate_left
   ·
    simp only [Act.put, List.setIfInBounds_toArray, List.set_cons_zero, List.set_cons_succ, i64_w, i32_w]
    rfl
   refine pure_ (i := 8) (N := some 23) (v := ?_) (a' := ?_) #[true, true, true, true, true, true, true, true, true, false, false, false, false, false, false, false, false, false, false, false, false, false, false, false, false, false, false] rfl rfl (any_of HT_.out (by kernel_rfl)) (fun _ _ _ h => h) (Or.inl ⟨by rfl, ?_⟩) ?_ ?_
   rotate_left
   ·
    intro w'
    go_simp
    with_reducible rfl
   rotate_left
   ·
    simp only [Act.put, List.setIfInBounds_toArray, List.set_cons_zero, List.set_cons_succ, i64_w, i32_w]
    rfl
   refine pure_ (i := 9) (N := some 24) (v := ?_) (a' := ?_) #[true, true, true, true, true, true, true, true, true, true, false, false, false, false, false, false, false, false, false, false, false, false, false, false, false, false, false] rfl rfl (any_of HT_.out (by kernel_rfl)) (fun _ _ _ h => h) (Or.inl ⟨by rfl, ?_⟩) ?_ ?_
   rotate_left
   ·
    intro w'
    go_simp
    with_reducible rfl
   rotate_left
   ·
    simp only [Act.put, List.setIfInBounds_toArray, List.set_cons_zero, List.set_cons_succ, i64_w, i32_w]
    rfl
   refine pure_ (i := 10) (N := some 25) (v := ?_) (a' := ?_) #[true, true, true, true, true, true, true, true, true, true, true, false, false, false, false, false, false, false, false, false, false, false, false, false, false, false, false] rfl rfl (any_of HT_.out (by kernel_rfl)) (fun _ _ _ h => h) (Or.inl ⟨by rfl, ?_⟩) ?_ ?_
   rotate_left
   ·
    intro w'
    go_simp
    with_reducible rfl
   rotate_left
   ·
    simp only [Act.put, List.setIfInBounds_toArray, List.set_cons_zero, List.set_cons_succ, i64_w, i32_w]
    rfl
   refine pure_ (i := 11) (N := some 26) (v := undef) (a' := ?_) #[true, true, true, true, true, true, true, true, true, true, true, true, false, false, false, false, false, false, false, false, false, false, false, false, false, false, false] rfl rfl (any_of HT_.out (by kernel_rfl)) (fun _ _ _ h => h) (Or.inr ⟨by rfl, rfl⟩) ?_ ?_
   rotate_left
   ·
    simp only [Act.put, List.setIfInBounds_toArray, List.set_cons_zero, List.set_cons_succ, i64_w, i32_w]
    rfl
   refine pure_ (i := 12) (N := some 27) (v := undef) (a' := ?_) #[true, true, true, true, true, true, true, true, true, true, true, true, true, false, false, false, false, false, false, false, false, false, false, false, false, false, false] rfl rfl (any_of HT_.out (by kernel_rfl)) (fun _ _ _ h => h) (Or.inr ⟨by rfl, rfl⟩) ?_ ?_
   rotate_left
   ·
    simp only [Act.put, List.setIfInBounds_toArray, List.set_cons_zero, List.set_cons_succ, i64_w, i32_w]
    rfl
   refine pure_ (i := 13) (N := some 28) (v := undef) (a' := ?_) #[true, true, true, true, true, true, true, true, true, true, true, true, true, true, false, false, false, false, false, false, false, false, false, false, false, false, false] rfl rfl (any_of HT_.out (by kernel_rfl)) (fun _ _ _ h => h) (Or.inr ⟨by rfl, rfl⟩) ?_ ?_
   rotate_left
   ·
    simp only [Act.put, List.setIfInBounds_toArray, List.set_cons_zero, List.set_cons_succ, i64_w, i32_w]
    rfl
   refine pure_ (i := 14) (N := some 29) (v := undef) (a' := ?_) #[true, true, true, true, true, true, true, true, true, true, true, true, true, true, true, false, false, false, false, false, false, false, false, false, false, false, false] rfl rfl (any_of HT_.out (by kernel_rfl)) (fun _ _ _ h => h) (Or.inr ⟨by rfl, rfl⟩) ?_ ?_
   rotate_left
   ·
    simp only [Act.put, List.setIfInBounds_toArray, List.set_cons_zero, List.set_cons_succ, i64_w, i32_w]
    rfl
   refine pure_ (i := 15) (N := some 30) (v := undef) (a' := ?_) #[true, true, true, true, true, true, true, true, true, true, true, true, true, true, true, true, false, false, false, false, false, false, false, false, false, false, false] rfl rfl (any_of HT_.out (by kernel_rfl)) (fun _ _ _ h => h) (Or.inr ⟨by rfl, rfl⟩) ?_ ?_
   rotate_left
   ·
    simp only [Act.put, List.setIfInBounds_toArray, List.set_cons_zero, List.set_cons_succ, i64_w, i32_w]
    rfl
   refine pure_ (i := 16) (N := some 31) (v := undef) (a' := ?_) #[true, true, true, true, true, true, true, true, true, true, true, true, true, true, true, true, true, false, false, false, false, false, false, false, false, false, false] rfl rfl (any_of HT_.out (by kernel_rfl)) (fun _ _ _ h => h) (Or.inr ⟨by rfl, rfl⟩) ?_ ?_
   rotate_left
   ·
    simp only [Act.put, List.setIfInBounds_toArray, List.set_cons_zero, List.set_cons_succ, i64_w, i32_w]
    rfl
   refine pure_ (i := 17) (N := some 32) (v := undef) (a' := ?_) #[true, true, true, true, true, true, true, true, true, true, true, true, true, true, true, true, true, true, false, false, false, false, false, false, false, false, false] rfl rfl (any_of HT_.out (by kernel_rfl)) (fun _ _ _ h => h) (Or.inr ⟨by rfl, rfl⟩) ?_ ?_
   rotate_left
   ·
    simp only [Act.put, List.setIfInBounds_toArray, List.set_cons_zero, List.set_cons_succ, i64_w, i32_w]
    rfl
   refine pure_ (i := 18) (N := some 33) (v := undef) (a' := ?_) #[true, true, true, true, true, true, true, true, true, true, true, true, true, true, true, true, true, true, true, false, false, false, false, false, false, false, false] rfl rfl (any_of HT_.out (by kernel_rfl)) (fun _ _ _ h => h) (Or.inr ⟨by rfl, rfl⟩) ?_ ?_
   rotate_left
   ·
    simp only [Act.put, List.setIfInBounds_toArray, List.set_cons_zero, List.set_cons_succ, i64_w, i32_w]
    rfl
   refine pure_ (i := 19) (N := some 34) (v := undef) (a' := ?_) #[true, true, true, true, true, true, true, true, true, true, true, true, true, true, true, true, true, true, true, true, false, false, false, false, false, false, false] rfl rfl (any_of HT_.out (by kernel_rfl)) (fun _ _ _ h => h) (Or.inr ⟨by rfl, rfl⟩) ?_ ?_
   rotate_left
   ·
    simp only [Act.put, List.setIfInBounds_toArray, List.set_cons_zero, List.set_cons_succ, i64_w, i32_w]
    rfl
   refine pure_ (i := 20) (N := some 35) (v := undef) (a' := ?_) #[true, true, true, true, true, true, true, true, true, true, true, true, true, true, true, true, true, true, true, true, true, false, false, false, false, false, false] rfl rfl (any_of HT_.out (by kernel_rfl)) (fun _ _ _ h => h) (Or.inr ⟨by rfl, rfl⟩) ?_ ?_
   rotate_left
   ·
    simp only [Act.put, List.setIfInBounds_toArray, List.set_cons_zero, List.set_cons_succ, i64_w, i32_w]
    rfl
   refine pure_ (i := 21) (N := some 36) (v := undef) (a' := ?_) #[true, true, true, true, true, true, true, true, true, true, true, true, true, true, true, true, true, true, true, true, true, true, false, false, false, false, false] rfl rfl (any_of HT_.out (by kernel_rfl)) (fun _ _ _ h => h) (Or.inr ⟨by rfl, rfl⟩) ?_ ?_
   rotate_left
   ·
    simp only [Act.put, List.setIfInBounds_toArray, List.set_cons_zero, List.set_cons_succ, i64_w, i32_w]
    rfl
   refine pure_ (i := 22) (N := some 37) (v := undef) (a' := ?_) #[true, true, true, true, true, true, true, true, true, true, true, true, true, true, true, true, true, true, true, true, true, true, true, false, false, false, false] rfl rfl (any_of HT_.out (by kernel_rfl)) (fun _ _ _ h => h) (Or.inr ⟨by rfl, rfl⟩) ?_ ?_
   rotate_left
   ·
    simp only [Act.put, List.setIfInBounds_toArray, List.set_cons_zero, List.set_cons_succ, i64_w, i32_w]
    rfl
   refine pure_ (i := 23) (N := some 38) (v := undef) (a' := ?_) #[true, true, true, true, true, true, true, true, true, true, true, true, true, true, true, true, true, true, true, true, true, true, true, true, false, false, false] rfl rfl (any_of HT_.out (by kernel_rfl)) (fun _ _ _ h => h) (Or.inr ⟨by rfl, rfl⟩) ?_ ?_
   rotate_left
   ·
    simp only [Act.put, List.setIfInBounds_toArray, List.set_cons_zero, List.set_cons_succ, i64_w, i32_w]
    rfl
   refine pure_ (i := 24) (N := some 39) (v := undef) (a' := ?_) #[true, true, true, true, true, true, true, true, true, true, true, true, true, true, true, true, true, true, true, true, true, true, true, true, true, false, false] rfl rfl (any_of HT_.out (by kernel_rfl)) (fun _ _ _ h => h) (Or.inr ⟨by rfl, rfl⟩) ?_ ?_
   rotate_left
   ·
    simp only [Act.put, List.setIfInBounds_toArray, List.set_cons_zero, List.set_cons_succ, i64_w, i32_w]
    rfl
   refine pure_ (i := 25) (N := some 40) (v := ?_) (a' := ?_) #[true, true, true, true, true, true, true, true, true, true, true, true, true, true, true, true, true, true, true, true, true, true, true, true, true, true, false] rfl rfl (any_of HT_.out (by kernel_rfl)) (fun _ _ _ h => h) (Or.inl ⟨by rfl, ?_⟩) ?_ ?_
   rotate_left
   ·
    intro w'
    go_simp
    with_reducible rfl
   rotate_left
   ·
    simp only [Act.put, List.setIfInBounds_toArray, List.set_cons_zero, List.set_cons_succ, i64_w, i32_w]
    rfl
   refine pure_ (i := 26) (N := some 41) (v := ?_) (a' := ?_) #[true, true, true, true, true, true, true, true, true, true, true, true, true, true, true, true, true, true, true, true, true, true, true, true, true, true, true] rfl rfl (any_of HT_.out (by kernel_rfl)) (fun _ _ _ h => h) (Or.inl ⟨by rfl, ?_⟩) ?_ ?_
   rotate_left
   ·
    intro w'
    go_simp
    with_reducible rfl
   rotate_left
   ·
    simp only [Act.put, List.setIfInBounds_toArray, List.set_cons_zero, List.set_cons_succ, i64_w, i32_w]
    rfl
   refine done_ (done_of HT_.out (by kernel_rfl)) ?_
   try go_wp2
   go_roundg k1
   case measure => have := HK1.out; omega
   case rel => exact ⟨(wrap64 (x3_1 + 1)), au61, H', ⟨by have := HK1.out; omega⟩, ⟨by (with_reducible repeat (first | refine blk_drewN ?_ _ | refine blk_drew ?_ | refine blk_alloc ?_ _)); exact BK761.out⟩, ⟨by repeat (first | (with_reducible first | exact HB.out | apply below_alloc | apply pw_below_drewN | apply below_drew1 | refine below_set ?_ GE761.out) | exact HB.out)⟩⟩
  |
   with_reducible refine (spec_l4Entry.calls k1 ((rd_T65 l0_0 x3_1).f0) ((rd_T65 l0_0 x3_1).f1) _ _ ((rd_T65 l0_0 x3_1).f2) _ _ ((rd_T65 l0_0 x3_1).f3) ((rd_T65 l0_0 x3_1).f4) ((rd_T65 l0_0 x3_1).f5) ((rd_T65 l0_0 x3_1).f6) ((rd_T65 l0_0 x3_1).f7.f0) ((rd_T65 l0_0 x3_1).f7.f1) ((rd_T65 l0_0 x3_1).f7.f2) ((rd_T65 l0_0 x3_1).f7.f3) ((rd_T65 l0_0 x3_1).f8) ((rd_T65 l0_0 x3_1).f9) ((rd_T65 l0_0 x3_1).f10) _ _ ?side1 ?side2 ?side3 ?side4 A9.out).mono ?_
   (case side1 => repeat (first | exact (Kd.C_below HR762_2.out HB.out) | (with_reducible refine Kd.C_alloc ?_ _) | (with_reducible refine Kd.C_drewN ?_ _) | (with_reducible refine Kd.C_drew ?_)))
   (case side2 => exact HC762_2.out)
   (case side3 => repeat (first | exact (Kd.C_below HR762_3.out HB.out) | (with_reducible refine Kd.C_alloc ?_ _) | (with_reducible refine Kd.C_drewN ?_ _) | (with_reducible refine Kd.C_drew ?_)))
   (case side4 => exact HC762_3.out)
   rintro e w27 ⟨rfl, hb⟩
   refine ⟨_, rfl, ?_⟩
   have n0_ := Aside0.mk (blk_below (g := gb761) (o := .cells #[.slice (some ad762) l0_0.length c0_0] 76 (0, 0)) au36 hb)
   have n1_ := Aside0.mk (below_step au17 hb)
   clear BK761
   clear HB
   have BK761 := n0_
   have HB := n1_
   clear n0_ n1_
   (try clear hb)
   (try clear hb2)
   (try clear hk)
   (try clear hi)
   refine hK.out _ _ ⟨(blk_cell BK761.out 0).trans rfl, ((HB.out.cell (World.block_lt_of_cell? w _ hw762_0)).trans hw762_0), ((HB.out.cell (World.block_lt_of_cell? w _ hw762_1)).trans hw762_1), ((HB.out.cell (World.block_lt_of_cell? w _ hw762_2)).trans hw762_2), ((HB.out.cell (World.block_lt_of_cell? w _ hw762_3)).trans hw762_3), ((HB.out.cell (World.block_lt_of_cell? w _ hw762_4)).trans hw762_4), ((HB.out.cell (World.block_lt_of_cell? w _ hw762_5)).trans hw762_5), ((HB.out.cell (World.block_lt_of_cell? w _ hw762_6)).trans hw762_6), ((HB.out.cell (World.block_lt_of_cell? w _ hw762_7)).trans hw762_7), ((HB.out.cell (World.block_lt_of_cell? w _ hw762_8)).trans hw762_8), ((HB.out.cell (World.block_lt_of_cell? w _ hw762_9)).trans hw762_9), ((HB.out.cell (World.block_lt_of_cell? w _ hw762_10)).trans hw762_10), ((HB.out.cell (World.block_lt_of_cell? w _ hw762_11)).trans hw762_11), ((HB.out.cell (World.block_lt_of_cell? w _ hw762_12)).trans hw762_12), ((HB.out.cell (World.block_lt_of_cell? w _ hw762_13)).trans hw762_13)⟩ (fun hHeld => ?_)
   clear hK K
   refine norm_ (a' := ?_) ?_ ?_
   rotate_left
   ·
    show Act.put _ (some 20) _ = _
    simp only [Act.put, List.setIfInBounds_toArray, List.set_cons_zero, List.set_cons_succ, i64_w, i32_w]
    rfl
   refine pure_ (i := 6) (N := some 21) (v := ?_) (a' := ?_) #[true, true, true, true, true, true, true, false, false, false, false, false, false, false, false, false, false, false, false, false, false, false, false, false, false, false, false] rfl rfl (any_of HT_.out (by kernel_rfl)) (fun _ _ _ h => h) (Or.inl ⟨by rfl, ?_⟩) ?_ ?_
   rotate_left
   ·
    intro w'
    go_simp
    with_reducible rfl
   rotate_left
   ·
    simp only [Act.put, List.setIfInBounds_toArray, List.set_cons_zero, List.set_cons_succ, i64_w, i32_w]
    rfl
   refine pure_ (i := 7) (N := some 22) (v := ?_) (a' := ?_) #[true, true, true, true, true, true, true, true, false, false, false, false, false, false, false, false, false, false, false, false, false, false, false, false, false, false, false] rfl rfl (any_of HT_.out (by kernel_rfl)) (fun _ _ _ h => h) (Or.inl ⟨by rfl, ?_⟩) ?_ ?_
   rotate_left
   ·
    intro w'
    go_simp
    with_reducible rfl
   rotate_left
   ·
    simp only [Act.put, List.setIfInBounds_toArray, List.set_cons_zero, List.set_cons_succ, i64_w, i32_w]
    rfl
   refine pure_ (i := 8) (N := some 23) (v := undef) (a' := ?_) #[true, true, true, true, true, true, true, true, true, false, false, false, false, false, false, false, false, false, false, false, false, false, false, false, false, false, false] rfl rfl (any_of HT_.out (by kernel_rfl)) (fun _ _ _ h => h) (Or.inr ⟨by rfl, rfl⟩) ?_ ?_
   rotate_left
   ·
    simp only [Act.put, List.setIfInBounds_toArray, List.set_cons_zero, List.set_cons_succ, i64_w, i32_w]
    rfl
   refine pure_ (i := 9) (N := some 24) (v := undef) (a' := ?_) #[true, true, true, true, true, true, true, true, true, true, false, false, false, false, false, false, false, false, false, false, false, false, false, false, false, false, false] rfl rfl (any_of HT_.out (by kernel_rfl)) (fun _ _ _ h => h) (Or.inr ⟨by rfl, rfl⟩) ?_ ?_
   rotate_left
   ·
    simp only [Act.put, List.setIfInBounds_toArray, List.set_cons_zero, List.set_cons_succ, i64_w, i32_w]
    rfl
   refine pure_ (i := 10) (N := some 25) (v := undef) (a' := ?_) #[true, true, true, true, true, true, true, true, true, true, true, false, false, false, false, false, false, false, false, false, false, false, false, false, false, false, false] rfl rfl (any_of HT_.out (by kernel_rfl)) (fun _ _ _ h => h) (Or.inr ⟨by rfl, rfl⟩) ?_ ?_
   rotate_left
   ·
    simp only [Act.put, List.setIfInBounds_toArray, List.set_cons_zero, List.set_cons_succ, i64_w, i32_w]
    rfl
   refine pure_ (i := 11) (N := some 26) (v := undef) (a' := ?_) #[true, true, true, true, true, true, true, true, true, true, true, true, false, false, false, false, false, false, false, false, false, false, false, false, false, false, false] rfl rfl (any_of HT_.out (by kernel_rfl)) (fun _ _ _ h => h) (Or.inr ⟨by rfl, rfl⟩) ?_ ?_
   rotate_left
   ·
    simp only [Act.put, List.setIfInBounds_toArray, List.set_cons_zero, List.set_cons_succ, i64_w, i32_w]
    rfl
   refine pure_ (i := 12) (N := some 27) (v := undef) (a' := ?_) #[true, true, true, true, true, true, true, true, true, true, true, true, true, false, false, false, false, false, false, false, false, false, false, false, false, false, false] rfl rfl (any_of HT_.out (by kernel_rfl)) (fun _ _ _ h => h) (Or.inr ⟨by rfl, rfl⟩) ?_ ?_
   rotate_left
   ·
    simp only [Act.put, List.setIfInBounds_toArray, List.set_cons_zero, List.set_cons_succ, i64_w, i32_w]
    rfl
   refine pure_ (i := 13) (N := some 28) (v := undef) (a' := ?_) #[true, true, true, true, true, true, true, true, true, true, true, true, true, true, false, false, false, false, false, false, false, false, false, false, false, false, false] rfl rfl (any_of HT_.out (by kernel_rfl)) (fun _ _ _ h => h) (Or.inr ⟨by rfl, rfl⟩) ?_ ?_
   rotate_left
   ·
    simp only [Act.put, List.setIfInBounds_toArray, List.set_cons_zero, List.set_cons_succ, i64_w, i32_w]
    rfl
   refine pure_ (i := 14) (N := some 29) (v := undef) (a' := ?_) #[true, true, true, true, true, true, true, true, true, true, true, true, true, true, true, false, false, false, false, false, false, false, false, false, false, false, false] rfl rfl (any_of HT_.out (by kernel_rfl)) (fun _ _ _ h => h) (Or.inr ⟨by rfl, rfl⟩) ?_ ?_
   rotate_left
   ·
    simp only [Act.put, List.setIfInBounds_toArray, List.set_cons_zero, List.set_cons_succ, i64_w, i32_w]
    rfl
   refine pure_ (i := 15) (N := some 30) (v := undef) (a' := ?_) #[true, true, true, true, true, true, true, true, true, true, true, true, true, true, true, true, false, false, false, false, false, false, false, false, false, false, false] rfl rfl (any_of HT_.out (by kernel_rfl)) (fun _ _ _ h => h) (Or.inr ⟨by rfl, rfl⟩) ?_ ?_
   rotate_left
   ·
    simp only [Act.put, List.setIfInBounds_toArray, List.set_cons_zero, List.set_cons_succ, i64_w, i32_w]
    rfl
   refine pure_ (i := 16) (N := some 31) (v := undef) (a' := ?_) #[true, true, true, true, true, true, true, true, true, true, true, true, true, true, true, true, true, false, false, false, false, false, false, false, false, false, false] rfl rfl (any_of HT_.out (by kernel_rfl)) (fun _ _ _ h => h) (Or.inr ⟨by rfl, rfl⟩) ?_ ?_
   rotate_left
   ·
    simp only [Act.put, List.setIfInBounds_toArray, List.set_cons_zero, List.set_cons_succ, i64_w, i32_w]
    rfl
   refine pure_ (i := 17) (N := some 32) (v := undef) (a' := ?_) #[true, true, true, true, true, true, true, true, true, true, true, true, true, true, true, true, true, true, false, false, false, false, false, false, false, false, false] rfl rfl (any_of HT_.out (by kernel_rfl)) (fun _ _ _ h => h) (Or.inr ⟨by rfl, rfl⟩) ?_ ?_
   rotate_left
   ·
    simp only [Act.put, List.setIfInBounds_toArray, List.set_cons_zero, List.set_cons_succ, i64_w, i32_w]
    rfl
   refine pure_ (i := 18) (N := some 33) (v := undef) (a' := ?_) #[true, true, true, true, true, true, true, true, true, true, true, true, true, true, true, true, true, true, true, false, false, false, false, false, false, false, false] rfl rfl (any_of HT_.out (by kernel_rfl)) (fun _ _ _ h => h) (Or.inr ⟨by rfl, rfl⟩) ?_ ?_
   rotate_left
   ·
    simp only [Act.put, List.setIfInBounds_toArray, List.set_cons_zero, List.set_cons_succ, i64_w, i32_w]
    rfl
   refine pure_ (i := 19) (N := some 34) (v := undef) (a' := ?_) #[true, true, true, true, true, true, true, true, true, true, true, true, true, true, true, true, true, true, true, true, false, false, false, false, false, false, false] rfl rfl (any_of HT_.out (by kernel_rfl)) (fun _ _ _ h => h) (Or.inr ⟨by rfl, rfl⟩) ?_ ?_
   rotate_left
   ·
    simp only [Act.put, List.setIfInBounds_toArray, List.set_cons_zero, List.set_cons_succ, i64_w, i32_w]
    rfl
   refine pure_ (i := 20) (N := some 35) (v := undef) (a' := ?_) #[true, true, true, true, true, true, true, true, true, true, true, true, true, true, true, true, true, true, true, true, true, false, false, false, false, false, false] rfl rfl (any_of HT_.out (by kernel_rfl)) (fun _ _ _ h => h) (Or.inr ⟨by rfl, rfl⟩) ?_ ?_
   rotate_left
   ·
    simp only [Act.put, List.setIfInBounds_toArray, List.set_cons_zero, List.set_cons_succ, i64_w, i32_w]
    rfl
   refine pure_ (i := 21) (N := some 36) (v := undef) (a' := ?_) #[true, true, true, true, true, true, true, true, true, true, true, true, true, true, true, true, true, true, true, true, true, true, false, false, false, false, false] rfl rfl (any_of HT_.out (by kernel_rfl)) (fun _ _ _ h => h) (Or.inr ⟨by rfl, rfl⟩) ?_ ?_
   rotate_left
   ·
    simp only [Act.put, List.setIfInBounds_toArray, List.set_cons_zero, List.set_cons_succ, i64_w, i32_w]
    rfl
   refine pure_ (i := 22) (N := some 37) (v := undef) (a' := ?_) #[true, true, true, true, true, true, true, true, true, true, true, true, true, true, true, true, true, true, true, true, true, true, true, false, false, false, false] rfl rfl (any_of HT_.out (by kernel_rfl)) (fun _ _ _ h => h) (Or.inr ⟨by rfl, rfl⟩) ?_ ?_
   rotate_left
   ·
    simp only [Act.put, List.setIfInBounds_toArray, List.set_cons_zero, List.set_cons_succ, i64_w, i32_w]
    rfl
   refine pure_ (i := 23) (N := some 38) (v := undef) (a' := ?_) #[true, true, true, true, true, true, true, true, true, true, true, true, true, true, true, true, true, true, true, true, true, true, true, true, false, false, false] rfl rfl (any_of HT_.out (by kernel_rfl)) (fun _ _ _ h => h) (Or.inr ⟨by rfl, rfl⟩) ?_ ?_
   rotate_left
   ·
    simp only [Act.put, List.setIfInBounds_toArray, List.set_cons_zero, List.set_cons_succ, i64_w, i32_w]
    rfl
   refine pure_ (i := 24) (N := some 39) (v := undef) (a' := ?_) #[true, true, true, true, true, true, true, true, true, true, true, true, true, true, true, true, true, true, true, true, true, true, true, true, true, false, false] rfl rfl (any_of HT_.out (by kernel_rfl)) (fun _ _ _ h => h) (Or.inr ⟨by rfl, rfl⟩) ?_ ?_
   rotate_left
   ·
    simp only [Act.put, List.setIfInBounds_toArray, List.set_cons_zero, List.set_cons_succ, i64_w, i32_w]
    rfl
   refine pure_ (i := 25) (N := some 40) (v := undef) (a' := ?_) #[true, true, true, true, true, true, true, true, true, true, true, true, true, true, true, true, true, true, true, true, true, true, true, true, true, true, false] rfl rfl (any_of HT_.out (by kernel_rfl)) (fun _ _ _ h => h) (Or.inr ⟨by rfl, rfl⟩) ?_ ?_
   rotate_left
   ·
    simp only [Act.put, List.setIfInBounds_toArray, List.set_cons_zero, List.set_cons_succ, i64_w, i32_w]
    rfl
   refine pure_ (i := 26) (N := some 41) (v := ?_) (a' := ?_) #[true, true, true, true, true, true, true, true, true, true, true, true, true, true, true, true, true, true, true, true, true, true, true, true, true, true, true] rfl rfl (any_of HT_.out (by kernel_rfl)) (fun _ _ _ h => h) (Or.inl ⟨by rfl, ?_⟩) ?_ ?_
   rotate_left
   ·
    intro w'
    go_simp
    with_reducible rfl
   rotate_left
   ·
    simp only [Act.put, List.setIfInBounds_toArray, List.set_cons_zero, List.set_cons_succ, i64_w, i32_w]
    rfl
   refine done_ (done_of HT_.out (by kernel_rfl)) ?_
   try go_wp2
   go_ret
   exact ax8) : P := h
set_option maxHeartbeats 8000000 in
set_option maxRecDepth 100000 in
theorem spec_l4Good.calls (k : Nat) (A0_0 : Option Addr) (c0_0 : Nat) (l0_0 : List (S65)) (r : Bool) (w : World) (hr0_0 : Kd.C k65 w A0_0 l0_0.length l0_0) (hc0_0 : l0_0.length ≤ c0_0) (h : spec_l4Good.f k l0_0 = some r) :
  Calls Tryd.prog 110 #[.agg #[.slice A0_0 l0_0.length c0_0]] w fun e w' => e = .returned (.bool r) ∧ Below w.heap.size w w' := by
 have hu76 := Tryd.underlying76
 have hu65 := Tryd.underlying65
 have HR0_0 := Aside0.mk hr0_0
 have HC0_0 := Aside0.mk hc0_0
 clear hr0_0 hc0_0
 have HB := Aside0.mk (Below.refl w.heap.size w)
 have H : (if (l0_0.length : Int) > 8 then (some false) else (spec_l4Good.l0 k 0 l0_0)) = some r := h
 clear h
 by_cases c2 : (l0_0.length : Int) > 8
 ·
  rw [if_pos c2] at H
  have c2b0 : decide (8 < (l0_0.length : Int)) = true := decide_eq_true c2
  have c2b1 : decide (8 < l0_0.length) = true := decide_eq_true (by omega)
  clear c2
  obtain rfl := Option.some.inj H
  go_enter Tryd.func110, Tryd.ntmps110
  go_wp2_with (first | ((with_reducible refine gate_dst (N := 1) rfl ?_); refine box_event ?hg (N := 1) ?hd (cs := #[.slice A0_0 l0_0.length c0_0]) (t := 76) ?hr ?_; (case hd => rfl); (case hg => rfl); (case hr => first | (go_simp; done) | (go_simp; rfl)); intro gb761 hg w3 hbox hb; have n0_ := Aside0.mk (below_step au31 hb); have n1_ := Aside0.mk (hbox); have n2_ := Aside0.mk ((by rw [hg]; exact (below_size au31) : w.heap.size ≤ gb761)); have n3_ := Aside0.mk ((by rw [hg]; exact (below_size au31) : w.heap.size ≤ gb761)); clear HB; have HB := n0_; have BK761 := n1_; have GW761 := n2_; have GE761 := n3_; clear n0_ n1_ n2_ n3_; clear hb hbox hg; have hcz4_0 : w3.cell? ⟨gb761, 0, none⟩ = some (.slice A0_0 l0_0.length c0_0) := (blk_cell BK761.out 0).trans rfl; have hfz4_0 := blk_frozen BK761.out 0))
  go_ret
  exact ax8
 ·
  rw [if_neg c2] at H
  have c2b0 : decide (8 < (l0_0.length : Int)) = false := decide_eq_false c2
  have c2b1 : decide (8 < l0_0.length) = false := decide_eq_false (by omega)
  clear c2
  have H' := Aside0.mk H
  clear H
  go_enter Tryd.func110, Tryd.ntmps110
  go_wp2_with (first | ((with_reducible refine gate_dst (N := 1) rfl ?_); refine box_event ?hg (N := 1) ?hd (cs := #[.slice A0_0 l0_0.length c0_0]) (t := 76) ?hr ?_; (case hd => rfl); (case hg => rfl); (case hr => first | (go_simp; done) | (go_simp; rfl)); intro gb761 hg w5 hbox hb; have n0_ := Aside0.mk (below_step au31 hb); have n1_ := Aside0.mk (hbox); have n2_ := Aside0.mk ((by rw [hg]; exact (below_size au31) : w.heap.size ≤ gb761)); have n3_ := Aside0.mk ((by rw [hg]; exact (below_size au31) : w.heap.size ≤ gb761)); clear HB; have HB := n0_; have BK761 := n1_; have GW761 := n2_; have GE761 := n3_; clear n0_ n1_ n2_ n3_; clear hb hbox hg; have hcz6_0 : w5.cell? ⟨gb761, 0, none⟩ = some (.slice A0_0 l0_0.length c0_0) := (blk_cell BK761.out 0).trans rfl; have hfz6_0 := blk_frozen BK761.out 0))
  go_loopg [3] k (fun kq v3 w' => ∃ (x3_1 : Int), v3 = .int .i64 x3_1 ∧ Aside0 (spec_l4Good.l0 kq x3_1 l0_0 = some r) ∧ Aside0 (kq ≤ k) ∧ Aside0 (w'.heap[gb761]? = some (.cells #[(.slice A0_0 l0_0.length c0_0)] 76 (0, 0))) ∧ Aside0 (Below w.heap.size w w'))
  case atStart => exact ⟨(0), au61, H', ⟨Nat.le_refl _⟩, ⟨by (with_reducible repeat (first | refine blk_drewN ?_ _ | refine blk_drew ?_ | refine blk_alloc ?_ _)); exact BK761.out⟩, ⟨by repeat (first | (with_reducible first | exact HB.out | apply below_alloc | apply pw_below_drewN | apply below_drew1 | refine below_set ?_ GE761.out) | exact HB.out)⟩⟩
  case round =>
   clear H'
   try clear c1
   try clear c2
   try clear c2b0
   try clear c2b1
   try clear p2
   try clear hcz4_0
   try clear hcz6_0
   try clear hfz4_0
   try clear hfz6_0
   obtain ⟨x3_1, rfl, HA, HK1, BK761, HB⟩ := hrel
   cases gk with
   | zero => exact absurd HA.out (by simp [spec_l4Good.l0])
   | succ k1 =>
    have H := HA.out
    clear HA
    simp only [spec_l4Good.l0] at H
    by_cases c7 : x3_1 < (l0_0.length : Int)
    ·
     rw [if_pos c7] at H
     have c7b0 : decide (x3_1 < (l0_0.length : Int)) = true := decide_eq_true c7
     clear c7
     by_cases c8 : 0 ≤ x3_1
     ·
      rw [if_pos c8] at H
      have c8b0 : decide (0 ≤ x3_1) = true := decide_eq_true c8
      clear c8
      replace H := Option.bind_eq_some_iff.mp H
      obtain ⟨t763, A90, H⟩ := H
      try dsimp only at H
      have A9 := Aside0.mk A90
      clear A90
      by_cases c10 : t763 = true
      ·
       subst c10
       replace H := (if_pos rfl).symm.trans H
       by_cases c11 : x3_1 > 0
       ·
        rw [if_pos c11] at H
        have c11b0 : decide (0 < x3_1) = true := decide_eq_true c11
        clear c11
        obtain ⟨ji12, hji12⟩ : ∃ j_ : Int, (wrap64 (x3_1 - 1)) = j_ := ⟨_, rfl⟩
        replace H : (if 0 ≤ (ji12) then (if (ji12) < (l0_0.length : Int) then (if ((Op.bytesLess (((rd_T65 l0_0 (ji12)).f0).toList) (((rd_T65 l0_0 x3_1).f0).toList)) = true) then (spec_l4Good.l0 k1 (wrap64 (x3_1 + 1)) l0_0) else (some false)) else (none)) else (none)) = some r := by first | (rw [hji12] at H; exact H) | (simp only [hji12] at H ⊢; exact H)
        (try rw [hji12] at A9)
        have hji12w : (IntKind.i64.wrap (x3_1 - 1)) = ji12 := (i64_w _).trans hji12
        by_cases c13 : 0 ≤ (ji12)
        ·
         rw [if_pos c13] at H
         have c13b0 : decide (0 ≤ (ji12)) = true := decide_eq_true c13
         clear c13
         by_cases c14 : (ji12) < (l0_0.length : Int)
         ·
          rw [if_pos c14] at H
          have c14b0 : decide ((ji12) < (l0_0.length : Int)) = true := decide_eq_true c14
          clear c14
          by_cases c15 : ((Op.bytesLess (((rd_T65 l0_0 (ji12)).f0).toList) (((rd_T65 l0_0 x3_1).f0).toList)) = true)
          ·
           rw [if_pos c15] at H
           have c15b0 : (Op.bytesLess (((rd_T65 l0_0 (ji12)).f0).toList) (((rd_T65 l0_0 x3_1).f0).toList)) = true := c15
           clear c15
           have H' := Aside0.mk H
           clear H
           exact spec_l4Good.L0
          ·
           rw [if_neg c15] at H
           have c15b0 : (Op.bytesLess (((rd_T65 l0_0 (ji12)).f0).toList) (((rd_T65 l0_0 x3_1).f0).toList)) = false := by simpa using c15
           clear c15
           obtain rfl := Option.some.inj H
           exact spec_l4Good.L0
         ·
          rw [if_neg c14] at H
          exact absurd H (by simp)
        ·
         rw [if_neg c13] at H
         exact absurd H (by simp)
       ·
        rw [if_neg c11] at H
        have c11b0 : decide (0 < x3_1) = false := decide_eq_false c11
        clear c11
        have H' := Aside0.mk H
        clear H
        exact spec_l4Good.L1
      ·
       replace c10 := Bool.eq_false_iff.mpr c10
       subst c10
       replace H := (if_neg (show ¬ (false = true) by decide)).symm.trans H
       obtain rfl := Option.some.inj H
       exact spec_l4Good.L1
     ·
      rw [if_neg c8] at H
      exact absurd H (by simp)
    ·
     rw [if_neg c7] at H
     have c7b0 : decide (x3_1 < (l0_0.length : Int)) = false := decide_eq_false c7
     clear c7
     obtain rfl := Option.some.inj H
     have hcz28_0 : wr.cell? ⟨gb761, 0, none⟩ = some (.slice A0_0 l0_0.length c0_0) := (blk_cell BK761.out 0).trans rfl
     have hfz28_0 := blk_frozen BK761.out 0
     go_wp2
     go_ret
     exact ax8


/-! ### spec_IsValidLibrary: function 47 -/
def spec_IsValidLibrary.f (k : Nat) (l0_0 : List (S65)) : Option (Bool) := (spec_l4Good.f k l0_0).bind fun t767 => (some t767)
theorem spec_IsValidLibrary.mono : ∀ a0 k, LeO (spec_IsValidLibrary.f k a0) (spec_IsValidLibrary.f (k + 1) a0) := by
 intro a0 k
 unfold spec_IsValidLibrary.f
 repeat' first
   | (with_reducible exact spec_l4Good.mono _ _)
   | (with_reducible exact LeO.refl _)
   | (with_reducible exact LeO.none _)
   | (with_reducible refine LeO.ite ?_ ?_)
   | (with_reducible refine LeO.bind ?_ (fun _ => ?_))
   | exact spec_l4Good.mono _ _
   | exact LeO.none _
   | refine LeO.ite ?_ ?_
   | refine LeO.bind ?_ (fun _ => ?_)
set_option maxHeartbeats 8000000 in
set_option maxRecDepth 100000 in
theorem spec_IsValidLibrary.calls (k : Nat) (A0_0 : Option Addr) (c0_0 : Nat) (l0_0 : List (S65)) (r : Bool) (w : World) (hr0_0 : Kd.C k65 w A0_0 l0_0.length l0_0) (hc0_0 : l0_0.length ≤ c0_0) (h : spec_IsValidLibrary.f k l0_0 = some r) :
  Calls Tryd.prog 47 #[.agg #[.slice A0_0 l0_0.length c0_0]] w fun e w' => e = .returned (.bool r) ∧ Below w.heap.size w w' := by
 have hu76 := Tryd.underlying76
 have HR0_0 := Aside0.mk hr0_0
 have HC0_0 := Aside0.mk hc0_0
 clear hr0_0 hc0_0
 have HB := Aside0.mk (Below.refl w.heap.size w)
 have H : ((spec_l4Good.f k l0_0).bind fun t767 => (some t767)) = some r := h
 clear h
 replace H := Option.bind_eq_some_iff.mp H
 obtain ⟨t767, A20, H⟩ := H
 try dsimp only at H
 have A2 := Aside0.mk A20
 clear A20
 obtain rfl := Option.some.inj H
 go_enter Tryd.func47, Tryd.ntmps47
 go_wp2_with (first | ((with_reducible refine gate_dst (N := 1) rfl ?_); refine box_event ?hg (N := 1) ?hd (cs := #[.slice A0_0 l0_0.length c0_0]) (t := 76) ?hr ?_; (case hd => rfl); (case hg => rfl); (case hr => first | (go_simp; done) | (go_simp; rfl)); intro gb766 hg w3 hbox hb; have n0_ := Aside0.mk (below_step au31 hb); have n1_ := Aside0.mk (hbox); have n2_ := Aside0.mk ((by rw [hg]; exact (below_size au31) : w.heap.size ≤ gb766)); have n3_ := Aside0.mk ((by rw [hg]; exact (below_size au31) : w.heap.size ≤ gb766)); clear HB; have HB := n0_; have BK766 := n1_; have GW766 := n2_; have GE766 := n3_; clear n0_ n1_ n2_ n3_; clear hb hbox hg; have hcz4_0 : w3.cell? ⟨gb766, 0, none⟩ = some (.slice A0_0 l0_0.length c0_0) := (blk_cell BK766.out 0).trans rfl; have hfz4_0 := blk_frozen BK766.out 0) | ((with_reducible refine gate_callee (f := 110) rfl ?_); refine goesL_ (some 4) rfl rfl Tryd.func110 (by kernel_rfl) rfl #[.agg #[.slice A0_0 l0_0.length c0_0]] rfl au30 ?_; (with_reducible refine (spec_l4Good.calls k _ _ l0_0 t767 _ ?side1 ?side2 A2.out).mono ?_); (case side1 => repeat (first | exact (Kd.C_below HR0_0.out HB.out) | (with_reducible refine Kd.C_alloc ?_ _) | (with_reducible refine Kd.C_drewN ?_ _) | (with_reducible refine Kd.C_drew ?_))); (case side2 => exact HC0_0.out); rintro e w5 ⟨rfl, hb⟩; refine ⟨_, rfl, ?_⟩; have n0_ := Aside0.mk (blk_below (g := gb766) (o := .cells #[.slice A0_0 l0_0.length c0_0] 76 (0, 0)) (by (with_reducible repeat (first | refine blk_drewN ?_ _ | refine blk_drew ?_ | refine blk_alloc ?_ _)); exact BK766.out) hb); have n1_ := Aside0.mk (below_step (by repeat (first | (with_reducible first | exact HB.out | apply below_alloc | apply pw_below_drewN | apply below_drew1 | refine below_set ?_ GE766.out) | exact HB.out)) hb); clear BK766; clear HB; have BK766 := n0_; have HB := n1_; clear n0_ n1_; (try clear hb); (try clear hb2); (try clear hk); (try clear hi)))
 go_ret
 exact ⟨by first | rfl | (simp [errW_none, errW_some] <;> rfl) | (simp [*, errW_none, errW_some] <;> rfl), by repeat (first | (with_reducible first | exact HB.out | apply below_alloc | apply pw_below_drewN | apply below_drew1 | refine below_set ?_ GE766.out) | exact HB.out)⟩


/-! ### laws_toDate: function 102 -/
def laws_toDate.f (a0_0 : Int) (a0_1 : Int) (a0_2 : Int) (a0_3 : Bool) : Option (Int × Int × Int × Bool) := some (a0_0, a0_1, a0_2, a0_3)
set_option maxHeartbeats 8000000 in
set_option maxRecDepth 100000 in
theorem laws_toDate.calls (a0_0 : Int) (a0_1 : Int) (a0_2 : Int) (a0_3 : Bool) (r1 : Int) (r2 : Int) (r3 : Int) (r4 : Bool) (w : World) (h : laws_toDate.f a0_0 a0_1 a0_2 a0_3 = some (r1, r2, r3, r4)) :
  Calls Tryd.prog 102 #[.agg #[.int .i64 a0_0, .int .i64 a0_1, .int .i64 a0_2, .bool a0_3]] w fun e w' => e = .returned (.agg #[.int .i64 r1, .int .i64 r2, .int .i64 r3, .bool r4]) ∧ Below w.heap.size w w' := by
 have hu58 := Tryd.underlying58
 have hu63 := Tryd.underlying63
 have HB := Aside0.mk (Below.refl w.heap.size w)
 have H : (some (a0_0, a0_1, a0_2, a0_3)) = some (r1, r2, r3, r4) := h
 clear h
 simp only [Option.some.injEq, Prod.mk.injEq] at H
 obtain ⟨rfl, rfl, rfl, rfl⟩ := H
 go_enter Tryd.func102, Tryd.ntmps102
 go_wp2_with (first | ((with_reducible refine gate_dst (N := 1) rfl ?_); refine box_event ?hg (N := 1) ?hd (cs := #[.int .i64 a0_0, .int .i64 a0_1, .int .i64 a0_2, .bool a0_3]) (t := 58) ?hr ?_; (case hd => rfl); (case hg => rfl); (case hr => first | (go_simp; done) | (go_simp; rfl)); intro gb646 hg w2 hbox hb; have n0_ := Aside0.mk (below_step au31 hb); have n1_ := Aside0.mk (hbox); have n2_ := Aside0.mk ((by rw [hg]; exact (below_size au31) : w.heap.size ≤ gb646)); have n3_ := Aside0.mk ((by rw [hg]; exact (below_size au31) : w.heap.size ≤ gb646)); clear HB; have HB := n0_; have BK646 := n1_; have GW646 := n2_; have GE646 := n3_; clear n0_ n1_ n2_ n3_; clear hb hbox hg) | ((with_reducible refine gate_dst (N := 2) rfl ?_); refine box_event ?hg (N := 2) ?hd (cs := #[.int .i64 0, .int .i64 0, .int .i64 0, .bool false]) (t := 63) ?hr ?_; (case hd => rfl); (case hg => rfl); (case hr => first | (go_simp; done) | (go_simp; rfl)); intro gb647 hg w3 hbox hb; have n0_ := Aside0.mk (blk_below (g := gb646) (o := .cells #[.int .i64 a0_0, .int .i64 a0_1, .int .i64 a0_2, .bool a0_3] 58 (0, 0)) au37 hb); have n1_ := Aside0.mk (below_step au18 hb); have n2_ := Aside0.mk (hbox); have n3_ := Aside0.mk ((by rw [hg]; exact (below_size au18) : w.heap.size ≤ gb647)); have n4_ := Aside0.mk ((by rw [hg]; exact (below_size au18) : w.heap.size ≤ gb647)); have n5_ := Aside0.mk ((by rw [hg]; exact Nat.ne_of_lt (blk_lt (g := gb646) (o := .cells #[.int .i64 a0_0, .int .i64 a0_1, .int .i64 a0_2, .bool a0_3] 58 (0, 0)) au37) : gb646 ≠ gb647)); have n6_ := Aside0.mk ((by rw [hg]; exact Nat.ne_of_gt (blk_lt (g := gb646) (o := .cells #[.int .i64 a0_0, .int .i64 a0_1, .int .i64 a0_2, .bool a0_3] 58 (0, 0)) au37) : gb647 ≠ gb646)); clear BK646; clear HB; have BK646 := n0_; have HB := n1_; have BK647 := n2_; have GW647 := n3_; have GE647 := n4_; have NB646_647 := n5_; have NB647_646 := n6_; clear n0_ n1_ n2_ n3_ n4_ n5_ n6_; clear hb hbox hg) | ((with_reducible refine gate_dst (N := 3) rfl ?_); refine box_event ?hg (N := 3) ?hd (cs := #[.int .i64 0, .int .i64 0, .int .i64 0, .bool false]) (t := 63) ?hr ?_; (case hd => rfl); (case hg => rfl); (case hr => first | (go_simp; done) | (go_simp; rfl)); intro gb648 hg w4 hbox hb; have n0_ := Aside0.mk (blk_below (g := gb646) (o := .cells #[.int .i64 a0_0, .int .i64 a0_1, .int .i64 a0_2, .bool a0_3] 58 (0, 0)) au37 hb); have n1_ := Aside0.mk (blk_below (g := gb647) (o := .cells #[.int .i64 0, .int .i64 0, .int .i64 0, .bool false] 63 (0, 0)) au38 hb); have n2_ := Aside0.mk (below_step au6 hb); have n3_ := Aside0.mk (hbox); have n4_ := Aside0.mk ((by rw [hg]; exact (below_size au6) : w.heap.size ≤ gb648)); have n5_ := Aside0.mk ((by rw [hg]; exact (below_size au6) : w.heap.size ≤ gb648)); have n6_ := Aside0.mk ((by rw [hg]; exact Nat.ne_of_lt (blk_lt (g := gb646) (o := .cells #[.int .i64 a0_0, .int .i64 a0_1, .int .i64 a0_2, .bool a0_3] 58 (0, 0)) au37) : gb646 ≠ gb648)); have n7_ := Aside0.mk ((by rw [hg]; exact Nat.ne_of_gt (blk_lt (g := gb646) (o := .cells #[.int .i64 a0_0, .int .i64 a0_1, .int .i64 a0_2, .bool a0_3] 58 (0, 0)) au37) : gb648 ≠ gb646)); have n8_ := Aside0.mk ((by rw [hg]; exact Nat.ne_of_lt (blk_lt (g := gb647) (o := .cells #[.int .i64 0, .int .i64 0, .int .i64 0, .bool false] 63 (0, 0)) au38) : gb647 ≠ gb648)); have n9_ := Aside0.mk ((by rw [hg]; exact Nat.ne_of_gt (blk_lt (g := gb647) (o := .cells #[.int .i64 0, .int .i64 0, .int .i64 0, .bool false] 63 (0, 0)) au38) : gb648 ≠ gb647)); clear BK646; clear BK647; clear HB; have BK646 := n0_; have BK647 := n1_; have HB := n2_; have BK648 := n3_; have GW648 := n4_; have GE648 := n5_; have NB646_648 := n6_; have NB648_646 := n7_; have NB647_648 := n8_; have NB648_647 := n9_; clear n0_ n1_ n2_ n3_ n4_ n5_ n6_ n7_ n8_ n9_; clear hb hbox hg; have hnb5 := NB646_647.out; have hnc5 := NB647_646.out; have hnb6 := NB646_648.out; have hnc6 := NB648_646.out; have hcz7_0 : w4.cell? ⟨gb646, 0, none⟩ = some (.int .i64 a0_0) := (blk_cell BK646.out 0).trans rfl; have hcz7_1 : w4.cell? ⟨gb646, 1, none⟩ = some (.int .i64 a0_1) := (blk_cell BK646.out 1).trans rfl; have hcz7_2 : w4.cell? ⟨gb646, 2, none⟩ = some (.int .i64 a0_2) := (blk_cell BK646.out 2).trans rfl; have hcz7_3 : w4.cell? ⟨gb646, 3, none⟩ = some (.bool a0_3) := (blk_cell BK646.out 3).trans rfl; have hfz7_0 := blk_frozen BK646.out 0; have hfz7_1 := blk_frozen BK646.out 1; have hfz7_2 := blk_frozen BK646.out 2; have hfz7_3 := blk_frozen BK646.out 3; have hnb8 := NB648_647.out; have hnc8 := NB647_648.out; have hcz9_0 : w4.cell? ⟨gb648, 0, none⟩ = some (.int .i64 0) := (blk_cell BK648.out 0).trans rfl; have hcz9_1 : w4.cell? ⟨gb648, 1, none⟩ = some (.int .i64 0) := (blk_cell BK648.out 1).trans rfl; have hcz9_2 : w4.cell? ⟨gb648, 2, none⟩ = some (.int .i64 0) := (blk_cell BK648.out 2).trans rfl; have hcz9_3 : w4.cell? ⟨gb648, 3, none⟩ = some (.bool false) := (blk_cell BK648.out 3).trans rfl; have hfz9_0 := blk_frozen BK648.out 0; have hfz9_1 := blk_frozen BK648.out 1; have hfz9_2 := blk_frozen BK648.out 2; have hfz9_3 := blk_frozen BK648.out 3; have hcz10_0 : w4.cell? ⟨gb647, 0, none⟩ = some (.int .i64 0) := (blk_cell BK647.out 0).trans rfl; have hcz10_1 : w4.cell? ⟨gb647, 1, none⟩ = some (.int .i64 0) := (blk_cell BK647.out 1).trans rfl; have hcz10_2 : w4.cell? ⟨gb647, 2, none⟩ = some (.int .i64 0) := (blk_cell BK647.out 2).trans rfl; have hcz10_3 : w4.cell? ⟨gb647, 3, none⟩ = some (.bool false) := (blk_cell BK647.out 3).trans rfl; have hfz10_0 := blk_frozen BK647.out 0; have hfz10_1 := blk_frozen BK647.out 1; have hfz10_2 := blk_frozen BK647.out 2; have hfz10_3 := blk_frozen BK647.out 3))
 refine bodyPost_ret (results_cell_row rfl _ _ gb647 63 #[.int .i64 a0_0, .int .i64 a0_1, .int .i64 a0_2, .bool a0_3] (0, 0) _ rfl (by (with_reducible repeat (first | refine blk_drewN ?_ _ | refine blk_drew ?_ | refine blk_alloc ?_ _)); refine blk_put (cs := #[.int .i64 a0_0, .int .i64 a0_1, .int .i64 a0_2, .bool false]) ?_ 3 _ rfl; (with_reducible repeat (first | refine blk_drewN ?_ _ | refine blk_drew ?_ | refine blk_alloc ?_ _)); refine blk_put (cs := #[.int .i64 a0_0, .int .i64 a0_1, .int .i64 0, .bool false]) ?_ 2 _ rfl; (with_reducible repeat (first | refine blk_drewN ?_ _ | refine blk_drew ?_ | refine blk_alloc ?_ _)); refine blk_put (cs := #[.int .i64 a0_0, .int .i64 0, .int .i64 0, .bool false]) ?_ 1 _ rfl; (with_reducible repeat (first | refine blk_drewN ?_ _ | refine blk_drew ?_ | refine blk_alloc ?_ _)); refine blk_put (cs := #[.int .i64 0, .int .i64 0, .int .i64 0, .bool false]) ?_ 0 _ rfl; (with_reducible repeat (first | refine blk_drewN ?_ _ | refine blk_drew ?_ | refine blk_alloc ?_ _)); refine blk_far ?_ NB647_648.out _; (with_reducible repeat (first | refine blk_drewN ?_ _ | refine blk_drew ?_ | refine blk_alloc ?_ _)); refine blk_far ?_ NB647_648.out _; (with_reducible repeat (first | refine blk_drewN ?_ _ | refine blk_drew ?_ | refine blk_alloc ?_ _)); refine blk_far ?_ NB647_648.out _; (with_reducible repeat (first | refine blk_drewN ?_ _ | refine blk_drew ?_ | refine blk_alloc ?_ _)); refine blk_far ?_ NB647_648.out _; (with_reducible repeat (first | refine blk_drewN ?_ _ | refine blk_drew ?_ | refine blk_alloc ?_ _)); exact BK647.out) Tryd.underlying63 rfl (by kernel_rfl)) rfl ?_
 exact ⟨by first | rfl | (simp [errW_none, errW_some] <;> rfl) | (simp [*, errW_none, errW_some] <;> rfl), by repeat (first | (with_reducible first | exact HB.out | apply below_alloc | apply pw_below_drewN | apply below_drew1 | refine below_set ?_ GE646.out | refine below_set ?_ GE647.out | refine below_set ?_ GE648.out) | exact HB.out)⟩


/-! ### laws_toStringS: function 117 -/
def laws_toStringS.l0 : Nat → List ByteArray → List ByteArray → Int → Option (List ByteArray)
 | 0, _, _, _ => none
 | k + 1, x0, x3, x4 => if x4 < (x0.length : Int) then (if 0 ≤ x4 then (if x4 < (x3.length : Int) then (laws_toStringS.l0 k x0 (x3.set (x4 : Int).toNat (rdOf ByteArray.empty x0 x4)) (wrap64 (x4 + 1))) else (none)) else (none)) else (some x3)
def laws_toStringS.f (k : Nat) (l0 : List ByteArray) : Option (List ByteArray) := if 0 ≤ (l0.length : Int) then (if ((l0.length : Int) : Int).toNat ≤ 17592186044416 then (laws_toStringS.l0 k l0 (List.replicate ((l0.length : Int) : Int).toNat (⟨#[]⟩ : ByteArray)) 0) else (none)) else (none)
theorem laws_toStringS.mono_l : ∀ k, (∀ y0 y1 y2, LeO (laws_toStringS.l0 k y0 y1 y2) (laws_toStringS.l0 (k + 1) y0 y1 y2))
 | 0 => fun _ _ _ r h => by simp [laws_toStringS.l0] at h
 | k + 1 => by
  have ih0 := laws_toStringS.mono_l k
  ·
   intro y0 y1 y2
   unfold laws_toStringS.l0
   repeat' first
   | (with_reducible exact ih0 _ _ _)
   | (with_reducible exact LeO.refl _)
   | (with_reducible exact LeO.none _)
   | (with_reducible refine LeO.ite ?_ ?_)
   | (with_reducible refine LeO.bind ?_ (fun _ => ?_))
   | exact ih0 _ _ _
   | exact LeO.none _
   | refine LeO.ite ?_ ?_
   | refine LeO.bind ?_ (fun _ => ?_)
theorem laws_toStringS.mono : ∀ a0 k, LeO (laws_toStringS.f k a0) (laws_toStringS.f (k + 1) a0) := by
 intro a0 k
 have ih0 := laws_toStringS.mono_l k
 unfold laws_toStringS.f
 repeat' first
   | (with_reducible exact ih0 _ _ _)
   | (with_reducible exact LeO.refl _)
   | (with_reducible exact LeO.none _)
   | (with_reducible refine LeO.ite ?_ ?_)
   | (with_reducible refine LeO.bind ?_ (fun _ => ?_))
   | exact ih0 _ _ _
   | exact LeO.none _
   | refine LeO.ite ?_ ?_
   | refine LeO.bind ?_ (fun _ => ?_)
set_option maxHeartbeats 8000000 in
set_option maxRecDepth 100000 in
theorem laws_toStringS.calls (k : Nat) (A0 : Option Addr) (c0 : Nat) (l0 : List ByteArray) (r : List ByteArray) (w : World) (hr0 : Kd.C Kd.string w A0 l0.length l0) (hc0 : l0.length ≤ c0) (h : laws_toStringS.f k l0 = some r) :
  Calls Tryd.prog 117 #[.slice A0 l0.length c0] w fun e w' => ∃ v0_ : Value, e = .returned (v0_) ∧ Kd.R Kd.string 9 w' w.heap.size (fun _ => True) v0_ r ∧ Below w.heap.size w w' := by
 have HR0 := Aside0.mk hr0
 have HC0 := Aside0.mk hc0
 clear hr0 hc0
 have HB := Aside0.mk (Below.refl w.heap.size w)
 have H : (if 0 ≤ (l0.length : Int) then (if ((l0.length : Int) : Int).toNat ≤ 17592186044416 then (laws_toStringS.l0 k l0 (List.replicate ((l0.length : Int) : Int).toNat (⟨#[]⟩ : ByteArray)) 0) else (none)) else (none)) = some r := h
 clear h
 by_cases c2 : 0 ≤ (l0.length : Int)
 ·
  rw [if_pos c2] at H
  have c2b0 := eq_true c2
  have c2b1 : decide (0 ≤ (l0.length : Int)) = true := decide_eq_true c2
  clear c2
  by_cases c3 : ((l0.length : Int) : Int).toNat ≤ 17592186044416
  ·
   rw [if_pos c3] at H
   have c3b0 := eq_true c3
   have c3b1 : decide (((l0.length : Int) : Int).toNat ≤ 17592186044416) = true := decide_eq_true c3
   clear c3
   obtain ⟨y177, hy177⟩ : ∃ y_ : List ByteArray, y_ = (List.replicate ((l0.length : Int) : Int).toNat (⟨#[]⟩ : ByteArray)) := ⟨_, rfl⟩
   replace H : (laws_toStringS.l0 k l0 y177 0) = some r := by first | (rw [hy177]; with_reducible exact H) | (have H2_ := (Option.bind_some _ _).symm.trans H; rw [hy177]; with_reducible exact H2_) | (have H2_ := (Option.bind_some _ _).symm.trans H; with_reducible exact H2_) | with_reducible exact H | (rw [hy177]; exact H) | exact H
   have Ny177 := Aside0.mk hy177
   clear hy177
   have H' := Aside0.mk H
   clear H
   go_enter Tryd.func117, Tryd.ntmps117
   go_wp2_with (first | ((with_reducible refine gate_dst (N := 7) rfl ?_); refine Kd.R_make Kd.string _ 9 rfl (N := 7) rfl 32 _ _ rfl (l0.length : Int) rfl rfl Tryd.underlying32 (.string ⟨#[]⟩) 16 info9 rfl (by decide) (by omega) (⟨#[]⟩ : ByteArray) (ok := fun _ => True) (okp := fun _ => True) rfl (fun _ hk => hk) trivial (of_decide_eq_true au60) (Nat.le_trans (Nat.mul_le_mul_right _ (of_decide_eq_true au60 : (l0.length : Int).toNat ≤ 17592186044416)) (by omega)) (Below.refl _ _) (Nat.le_refl _) ?_; intro v178 w4 ho5 hb hg_ hnew_; clear hg_ hnew_; (first | rw [← Ny177.out] at ho5 | (simp only [Int.reduceToNat] at ho5; rw [← Ny177.out] at ho5)); have n0_ := Aside0.mk (Kd.R_lower ho5 (below_size au31)); have n1_ := Aside0.mk (below_step au31 hb); clear HB; have HO179 := n0_; have HB := n1_; clear n0_ n1_; clear hb ho5))
   go_loopg [4] k (fun kq v4 w' => ∃ (x3_1 : List ByteArray) (x4_1 : Int), v4 = .int .i64 x4_1 ∧ Aside0 (laws_toStringS.l0 kq l0 x3_1 x4_1 = some r) ∧ Aside0 (kq ≤ k) ∧ Aside0 (Kd.R Kd.string 9 w' w.heap.size (fun _ => True) v178 x3_1) ∧ Aside0 (Below w.heap.size w w'))
   case atStart => exact ⟨(y177), (0), au61, H', ⟨Nat.le_refl _⟩, ⟨by (with_reducible repeat (first | apply Kd.R_alloc | apply Kd.R_drewN | apply Kd.R_drew)); exact HO179.out⟩, ⟨by repeat (first | (with_reducible first | exact HB.out | apply below_alloc | apply pw_below_drewN | apply below_drew1) | exact HB.out)⟩⟩
   case round =>
    clear H'
    try clear c1
    try clear c2
    try clear c2b0
    try clear c2b1
    try clear p2
    try clear c3
    try clear c3b0
    try clear c3b1
    obtain ⟨x3_1, x4_1, rfl, HA, HK1, HO_3, HB⟩ := hrel
    cases gk with
    | zero => exact absurd HA.out (by simp [laws_toStringS.l0])
    | succ k1 =>
     have H := HA.out
     clear HA
     simp only [laws_toStringS.l0] at H
     by_cases c6 : x4_1 < (l0.length : Int)
     ·
      rw [if_pos c6] at H
      have c6b0 : decide (x4_1 < (l0.length : Int)) = true := decide_eq_true c6
      clear c6
      by_cases c7 : 0 ≤ x4_1
      ·
       rw [if_pos c7] at H
       have c7b0 : decide (0 ≤ x4_1) = true := decide_eq_true c7
       clear c7
       by_cases c8 : x4_1 < (x3_1.length : Int)
       ·
        rw [if_pos c8] at H
        have c8b0 : decide (x4_1 < (x3_1.length : Int)) = true := decide_eq_true c8
        clear c8
        obtain ⟨y181, hy181⟩ : ∃ y_ : List ByteArray, y_ = (x3_1.set (x4_1 : Int).toNat (rdOf ByteArray.empty l0 x4_1)) := ⟨_, rfl⟩
        replace H : (laws_toStringS.l0 k1 l0 y181 (wrap64 (x4_1 + 1))) = some r := by first | (rw [hy181]; with_reducible exact H) | (have H2_ := (Option.bind_some _ _).symm.trans H; rw [hy181]; with_reducible exact H2_) | (have H2_ := (Option.bind_some _ _).symm.trans H; with_reducible exact H2_) | with_reducible exact H | (rw [hy181]; exact H) | exact H
        have Ny181 := Aside0.mk hy181
        clear hy181
        have H' := Aside0.mk H
        clear H
        have p180 : 0 ≤ (x4_1 : Int) := of_decide_eq_true au60
        have q180 : x4_1 < (l0.length : Int) := of_decide_eq_true au60
        obtain ⟨ad180, e180, hx180_0⟩ := Kd.at_string HR0.out x4_1 p180 q180
        cases e180
        replace hx180_0 := (HB.out.cell (World.block_lt_of_cell? w _ hx180_0)).trans hx180_0
        replace p180 := eq_true p180
        replace q180 := eq_true q180
        have p9 : 0 ≤ (x4_1 : Int) := of_decide_eq_true au60
        have q9 : (x4_1 : Int) < ((x3_1.length : Int) : Int) := of_decide_eq_true au60
        obtain ⟨go9, co9, eo9, gb9, gl9, cl9, HG9⟩ := Kd.R_form HO_3.out (by omega)
        (first | cases eo9 | (injection eo9 with ea_ en_ ec_; (first | subst ea_ | (injection ea_ with ea_; subst ea_)); subst ec_; clear en_))
        have GB9 := Aside0.mk gb9
        have GG9 := Aside0.mk HG9
        clear gb9 gl9 HG9
        obtain ⟨hx9_0, hf9_0⟩ := Kd.R_celln (⟨#[]⟩ : ByteArray) HO_3.out (x4_1 : Int) p9 q9
        replace p9 := eq_true p9
        replace q9 := eq_true q9
        have HP10 := Kd.R_putg HO_3.out (x4_1 : Int) (rdOf ByteArray.empty l0 x4_1)
        go_wp2_with (first | ((with_reducible refine gate_store (t := 9) (p := 20) rfl ?_); refine store_event (t := 9) (p := 20) (v := ?vo_w11) (w1 := (wr.setCell ⟨go9, (x4_1 : Int).toNat, none⟩ (.string (rdOf ByteArray.empty l0 x4_1)))) ?hg ?ho ?hn ?hr ?_; (case ho => rfl); (case hg => rfl); (case hn => rfl); (case hr => first | (go_simp; done) | (go_simp; rfl)); intro w11 hw; have hg : wr.grownBy w11 (some go9) := (by rw [hw]; exact HP10.2); have hp_ : Kd.R Kd.string 9 w11 w.heap.size (fun _ => True) (.slice (some ⟨go9, 0, none⟩) x3_1.length co9) y181 := (by rw [hw, Ny181.out]; exact HP10.1); clear HP10; have n0_ := Aside0.mk (hp_); have n1_ := Aside0.mk ((by rw [hw]; exact below_set (HB.out) GB9.out : Below w.heap.size w w11)); clear HO_3; clear HB; have HO_3 := n0_; have HB := n1_; clear n0_ n1_; clear hg hw hp_))
        go_roundg k1
        case measure => have := HK1.out; omega
        case rel => exact ⟨(y181), (wrap64 (x4_1 + 1)), au61, H', ⟨by have := HK1.out; omega⟩, ⟨by (with_reducible repeat (first | apply Kd.R_alloc | apply Kd.R_drewN | apply Kd.R_drew)); exact HO_3.out⟩, ⟨by repeat (first | (with_reducible first | exact HB.out | apply below_alloc | apply pw_below_drewN | apply below_drew1) | exact HB.out)⟩⟩
       ·
        rw [if_neg c8] at H
        exact absurd H (by simp)
      ·
       rw [if_neg c7] at H
       exact absurd H (by simp)
     ·
      rw [if_neg c6] at H
      have c6b0 : decide (x4_1 < (l0.length : Int)) = false := decide_eq_false c6
      clear c6
      obtain rfl := Option.some.inj H
      go_wp2
      go_ret
      exact ⟨_, by first | rfl | (simp [errW_none, errW_some] <;> rfl) | (simp [*, errW_none, errW_some] <;> rfl), by (with_reducible repeat (first | apply Kd.R_alloc | apply Kd.R_drewN | apply Kd.R_drew)); exact HO_3.out, by repeat (first | (with_reducible first | exact HB.out | apply below_alloc | apply pw_below_drewN | apply below_drew1) | exact HB.out)⟩
  ·
   rw [if_neg c3] at H
   exact absurd H (by simp)
 ·
  rw [if_neg c2] at H
  exact absurd H (by simp)


/-! ### laws_toName: function 63 -/
def laws_toName.f (k : Nat) (l0_0 : List ByteArray) (a0_1 : ByteArray) (a0_2 : ByteArray) (a0_3 : ByteArray) : Option (List ByteArray × ByteArray × ByteArray × ByteArray) := (laws_toStringS.f k l0_0).bind fun t185 => (some (t185, a0_1, a0_2, a0_3))
theorem laws_toName.mono : ∀ a0 a1 a2 a3 k, LeO (laws_toName.f k a0 a1 a2 a3) (laws_toName.f (k + 1) a0 a1 a2 a3) := by
 intro a0 a1 a2 a3 k
 unfold laws_toName.f
 repeat' first
   | (with_reducible exact laws_toStringS.mono _ _)
   | (with_reducible exact LeO.refl _)
   | (with_reducible exact LeO.none _)
   | (with_reducible refine LeO.ite ?_ ?_)
   | (with_reducible refine LeO.bind ?_ (fun _ => ?_))
   | exact laws_toStringS.mono _ _
   | exact LeO.none _
   | refine LeO.ite ?_ ?_
   | refine LeO.bind ?_ (fun _ => ?_)
set_option maxHeartbeats 8000000 in
set_option maxRecDepth 100000 in
theorem laws_toName.calls (k : Nat) (A0_0 : Option Addr) (c0_0 : Nat) (l0_0 : List ByteArray) (a0_1 : ByteArray) (a0_2 : ByteArray) (a0_3 : ByteArray) (r1 : List ByteArray) (r2 : ByteArray) (r3 : ByteArray) (r4 : ByteArray) (w : World) (hr0_0 : Kd.C Kd.string w A0_0 l0_0.length l0_0) (hc0_0 : l0_0.length ≤ c0_0) (h : laws_toName.f k l0_0 a0_1 a0_2 a0_3 = some (r1, r2, r3, r4)) :
  Calls Tryd.prog 63 #[.agg #[.slice A0_0 l0_0.length c0_0, .string a0_1, .string a0_2, .string a0_3]] w fun e w' => ∃ v0_ : Value, e = .returned (.agg #[v0_, .string r2, .string r3, .string r4]) ∧ Kd.R Kd.string 9 w' w.heap.size (fun _ => True) v0_ r1 ∧ Below w.heap.size w w' := by
 have hu89 := Tryd.underlying89
 have hu34 := Tryd.underlying34
 have HR0_0 := Aside0.mk hr0_0
 have HC0_0 := Aside0.mk hc0_0
 clear hr0_0 hc0_0
 have HB := Aside0.mk (Below.refl w.heap.size w)
 have H : ((laws_toStringS.f k l0_0).bind fun t185 => (some (t185, a0_1, a0_2, a0_3))) = some (r1, r2, r3, r4) := h
 clear h
 replace H := Option.bind_eq_some_iff.mp H
 obtain ⟨t185, A20, H⟩ := H
 try dsimp only at H
 have A2 := Aside0.mk A20
 clear A20
 simp only [Option.some.injEq, Prod.mk.injEq] at H
 obtain ⟨rfl, rfl, rfl, rfl⟩ := H
 go_enter Tryd.func63, Tryd.ntmps63
 go_wp2_with (first | ((with_reducible refine gate_dst (N := 1) rfl ?_); refine box_event ?hg (N := 1) ?hd (cs := #[.slice A0_0 l0_0.length c0_0, .string a0_1, .string a0_2, .string a0_3]) (t := 89) ?hr ?_; (case hd => rfl); (case hg => rfl); (case hr => first | (go_simp; done) | (go_simp; rfl)); intro gb182 hg w3 hbox hb; have n0_ := Aside0.mk (below_step au31 hb); have n1_ := Aside0.mk (hbox); have n2_ := Aside0.mk ((by rw [hg]; exact (below_size au31) : w.heap.size ≤ gb182)); have n3_ := Aside0.mk ((by rw [hg]; exact (below_size au31) : w.heap.size ≤ gb182)); clear HB; have HB := n0_; have BK182 := n1_; have GW182 := n2_; have GE182 := n3_; clear n0_ n1_ n2_ n3_; clear hb hbox hg) | ((with_reducible refine gate_dst (N := 2) rfl ?_); refine box_event ?hg (N := 2) ?hd (cs := #[.slice none 0 0, .string (⟨#[]⟩ : ByteArray), .string (⟨#[]⟩ : ByteArray), .string (⟨#[]⟩ : ByteArray)]) (t := 34) ?hr ?_; (case hd => rfl); (case hg => rfl); (case hr => first | (go_simp; done) | (go_simp; rfl)); intro gb183 hg w4 hbox hb; have n0_ := Aside0.mk (blk_below (g := gb182) (o := .cells #[.slice A0_0 l0_0.length c0_0, .string a0_1, .string a0_2, .string a0_3] 89 (0, 0)) au39 hb); have n1_ := Aside0.mk (below_step au19 hb); have n2_ := Aside0.mk (hbox); have n3_ := Aside0.mk ((by rw [hg]; exact (below_size au19) : w.heap.size ≤ gb183)); have n4_ := Aside0.mk ((by rw [hg]; exact (below_size au19) : w.heap.size ≤ gb183)); have n5_ := Aside0.mk ((by rw [hg]; exact Nat.ne_of_lt (blk_lt (g := gb182) (o := .cells #[.slice A0_0 l0_0.length c0_0, .string a0_1, .string a0_2, .string a0_3] 89 (0, 0)) au39) : gb182 ≠ gb183)); have n6_ := Aside0.mk ((by rw [hg]; exact Nat.ne_of_gt (blk_lt (g := gb182) (o := .cells #[.slice A0_0 l0_0.length c0_0, .string a0_1, .string a0_2, .string a0_3] 89 (0, 0)) au39) : gb183 ≠ gb182)); clear BK182; clear HB; have BK182 := n0_; have HB := n1_; have BK183 := n2_; have GW183 := n3_; have GE183 := n4_; have NB182_183 := n5_; have NB183_182 := n6_; clear n0_ n1_ n2_ n3_ n4_ n5_ n6_; clear hb hbox hg) | ((with_reducible refine gate_dst (N := 3) rfl ?_); refine box_event ?hg (N := 3) ?hd (cs := #[.slice none 0 0, .string (⟨#[]⟩ : ByteArray), .string (⟨#[]⟩ : ByteArray), .string (⟨#[]⟩ : ByteArray)]) (t := 34) ?hr ?_; (case hd => rfl); (case hg => rfl); (case hr => first | (go_simp; done) | (go_simp; rfl)); intro gb184 hg w5 hbox hb; have n0_ := Aside0.mk (blk_below (g := gb182) (o := .cells #[.slice A0_0 l0_0.length c0_0, .string a0_1, .string a0_2, .string a0_3] 89 (0, 0)) au39 hb); have n1_ := Aside0.mk (blk_below (g := gb183) (o := .cells #[.slice none 0 0, .string (⟨#[]⟩ : ByteArray), .string (⟨#[]⟩ : ByteArray), .string (⟨#[]⟩ : ByteArray)] 34 (0, 0)) au40 hb); have n2_ := Aside0.mk (below_step au7 hb); have n3_ := Aside0.mk (hbox); have n4_ := Aside0.mk ((by rw [hg]; exact (below_size au7) : w.heap.size ≤ gb184)); have n5_ := Aside0.mk ((by rw [hg]; exact (below_size au7) : w.heap.size ≤ gb184)); have n6_ := Aside0.mk ((by rw [hg]; exact Nat.ne_of_lt (blk_lt (g := gb182) (o := .cells #[.slice A0_0 l0_0.length c0_0, .string a0_1, .string a0_2, .string a0_3] 89 (0, 0)) au39) : gb182 ≠ gb184)); have n7_ := Aside0.mk ((by rw [hg]; exact Nat.ne_of_gt (blk_lt (g := gb182) (o := .cells #[.slice A0_0 l0_0.length c0_0, .string a0_1, .string a0_2, .string a0_3] 89 (0, 0)) au39) : gb184 ≠ gb182)); have n8_ := Aside0.mk ((by rw [hg]; exact Nat.ne_of_lt (blk_lt (g := gb183) (o := .cells #[.slice none 0 0, .string (⟨#[]⟩ : ByteArray), .string (⟨#[]⟩ : ByteArray), .string (⟨#[]⟩ : ByteArray)] 34 (0, 0)) au40) : gb183 ≠ gb184)); have n9_ := Aside0.mk ((by rw [hg]; exact Nat.ne_of_gt (blk_lt (g := gb183) (o := .cells #[.slice none 0 0, .string (⟨#[]⟩ : ByteArray), .string (⟨#[]⟩ : ByteArray), .string (⟨#[]⟩ : ByteArray)] 34 (0, 0)) au40) : gb184 ≠ gb183)); clear BK182; clear BK183; clear HB; have BK182 := n0_; have BK183 := n1_; have HB := n2_; have BK184 := n3_; have GW184 := n4_; have GE184 := n5_; have NB182_184 := n6_; have NB184_182 := n7_; have NB183_184 := n8_; have NB184_183 := n9_; clear n0_ n1_ n2_ n3_ n4_ n5_ n6_ n7_ n8_ n9_; clear hb hbox hg; have hnb6 := NB182_183.out; have hnc6 := NB183_182.out; have hnb7 := NB182_184.out; have hnc7 := NB184_182.out; have hcz8_0 : w5.cell? ⟨gb182, 0, none⟩ = some (.slice A0_0 l0_0.length c0_0) := (blk_cell BK182.out 0).trans rfl; have hcz8_1 : w5.cell? ⟨gb182, 1, none⟩ = some (.string a0_1) := (blk_cell BK182.out 1).trans rfl; have hcz8_2 : w5.cell? ⟨gb182, 2, none⟩ = some (.string a0_2) := (blk_cell BK182.out 2).trans rfl; have hcz8_3 : w5.cell? ⟨gb182, 3, none⟩ = some (.string a0_3) := (blk_cell BK182.out 3).trans rfl; have hfz8_0 := blk_frozen BK182.out 0; have hfz8_1 := blk_frozen BK182.out 1; have hfz8_2 := blk_frozen BK182.out 2; have hfz8_3 := blk_frozen BK182.out 3) | ((with_reducible refine gate_callee (f := 117) rfl ?_); refine goesL_ (some 6) rfl rfl Tryd.func117 (by kernel_rfl) rfl #[.slice A0_0 l0_0.length c0_0] rfl au30 ?_; (with_reducible refine (laws_toStringS.calls k _ _ l0_0 t185 _ ?side1 ?side2 A2.out).mono ?_); (case side1 => repeat (first | exact (Kd.C_below HR0_0.out HB.out) | (with_reducible refine Kd.C_alloc ?_ _) | (with_reducible refine Kd.C_drewN ?_ _) | (with_reducible refine Kd.C_drew ?_))); (case side2 => exact HC0_0.out); rintro e w9 ⟨v186, rfl, ho0, hb⟩; refine ⟨_, rfl, ?_⟩; have n0_ := Aside0.mk (Kd.R_lower ho0 (below_size au3)); have n1_ := Aside0.mk (blk_below (g := gb182) (o := .cells #[.slice A0_0 l0_0.length c0_0, .string a0_1, .string a0_2, .string a0_3] 89 (0, 0)) au39 hb); have n2_ := Aside0.mk (blk_below (g := gb183) (o := .cells #[.slice none 0 0, .string (⟨#[]⟩ : ByteArray), .string (⟨#[]⟩ : ByteArray), .string (⟨#[]⟩ : ByteArray)] 34 (0, 0)) au40 hb); have n3_ := Aside0.mk (blk_below (g := gb184) (o := .cells #[.slice none 0 0, .string (⟨#[]⟩ : ByteArray), .string (⟨#[]⟩ : ByteArray), .string (⟨#[]⟩ : ByteArray)] 34 (0, 0)) (by (with_reducible repeat (first | refine blk_drewN ?_ _ | refine blk_drew ?_ | refine blk_alloc ?_ _)); exact BK184.out) hb); have n4_ := Aside0.mk (below_step au3 hb); clear BK182; clear BK183; clear BK184; clear HB; have HO187 := n0_; have BK182 := n1_; have BK183 := n2_; have BK184 := n3_; have HB := n4_; clear n0_ n1_ n2_ n3_ n4_; (try clear hb); (try clear hb2); (try clear hk); (try clear hi); (try clear ho0); obtain ⟨Ao10, co10, eo10⟩ := Kd.R_slice HO187.out; subst eo10; have hnb11 := NB184_183.out; have hnc11 := NB183_184.out; have hcz12_0 : w9.cell? ⟨gb184, 0, none⟩ = some (.slice none 0 0) := (blk_cell BK184.out 0).trans rfl; have hcz12_1 : w9.cell? ⟨gb184, 1, none⟩ = some (.string (⟨#[]⟩ : ByteArray)) := (blk_cell BK184.out 1).trans rfl; have hcz12_2 : w9.cell? ⟨gb184, 2, none⟩ = some (.string (⟨#[]⟩ : ByteArray)) := (blk_cell BK184.out 2).trans rfl; have hcz12_3 : w9.cell? ⟨gb184, 3, none⟩ = some (.string (⟨#[]⟩ : ByteArray)) := (blk_cell BK184.out 3).trans rfl; have hfz12_0 := blk_frozen BK184.out 0; have hfz12_1 := blk_frozen BK184.out 1; have hfz12_2 := blk_frozen BK184.out 2; have hfz12_3 := blk_frozen BK184.out 3; have hcz13_0 : w9.cell? ⟨gb182, 0, none⟩ = some (.slice A0_0 l0_0.length c0_0) := (blk_cell BK182.out 0).trans rfl; have hcz13_1 : w9.cell? ⟨gb182, 1, none⟩ = some (.string a0_1) := (blk_cell BK182.out 1).trans rfl; have hcz13_2 : w9.cell? ⟨gb182, 2, none⟩ = some (.string a0_2) := (blk_cell BK182.out 2).trans rfl; have hcz13_3 : w9.cell? ⟨gb182, 3, none⟩ = some (.string a0_3) := (blk_cell BK182.out 3).trans rfl; have hfz13_0 := blk_frozen BK182.out 0; have hfz13_1 := blk_frozen BK182.out 1; have hfz13_2 := blk_frozen BK182.out 2; have hfz13_3 := blk_frozen BK182.out 3; have hcz14_0 : w9.cell? ⟨gb183, 0, none⟩ = some (.slice none 0 0) := (blk_cell BK183.out 0).trans rfl; have hcz14_1 : w9.cell? ⟨gb183, 1, none⟩ = some (.string (⟨#[]⟩ : ByteArray)) := (blk_cell BK183.out 1).trans rfl; have hcz14_2 : w9.cell? ⟨gb183, 2, none⟩ = some (.string (⟨#[]⟩ : ByteArray)) := (blk_cell BK183.out 2).trans rfl; have hcz14_3 : w9.cell? ⟨gb183, 3, none⟩ = some (.string (⟨#[]⟩ : ByteArray)) := (blk_cell BK183.out 3).trans rfl; have hfz14_0 := blk_frozen BK183.out 0; have hfz14_1 := blk_frozen BK183.out 1; have hfz14_2 := blk_frozen BK183.out 2; have hfz14_3 := blk_frozen BK183.out 3))
 refine bodyPost_ret (results_cell_row rfl _ _ gb183 34 #[.slice Ao10 t185.length co10, .string a0_1, .string a0_2, .string a0_3] (0, 0) _ rfl (by (with_reducible repeat (first | refine blk_drewN ?_ _ | refine blk_drew ?_ | refine blk_alloc ?_ _)); refine blk_put (cs := #[.slice Ao10 t185.length co10, .string a0_1, .string a0_2, .string (⟨#[]⟩ : ByteArray)]) ?_ 3 _ rfl; (with_reducible repeat (first | refine blk_drewN ?_ _ | refine blk_drew ?_ | refine blk_alloc ?_ _)); refine blk_put (cs := #[.slice Ao10 t185.length co10, .string a0_1, .string (⟨#[]⟩ : ByteArray), .string (⟨#[]⟩ : ByteArray)]) ?_ 2 _ rfl; (with_reducible repeat (first | refine blk_drewN ?_ _ | refine blk_drew ?_ | refine blk_alloc ?_ _)); refine blk_put (cs := #[.slice Ao10 t185.length co10, .string (⟨#[]⟩ : ByteArray), .string (⟨#[]⟩ : ByteArray), .string (⟨#[]⟩ : ByteArray)]) ?_ 1 _ rfl; (with_reducible repeat (first | refine blk_drewN ?_ _ | refine blk_drew ?_ | refine blk_alloc ?_ _)); refine blk_put (cs := #[.slice none 0 0, .string (⟨#[]⟩ : ByteArray), .string (⟨#[]⟩ : ByteArray), .string (⟨#[]⟩ : ByteArray)]) ?_ 0 _ rfl; (with_reducible repeat (first | refine blk_drewN ?_ _ | refine blk_drew ?_ | refine blk_alloc ?_ _)); refine blk_far ?_ NB183_184.out _; (with_reducible repeat (first | refine blk_drewN ?_ _ | refine blk_drew ?_ | refine blk_alloc ?_ _)); refine blk_far ?_ NB183_184.out _; (with_reducible repeat (first | refine blk_drewN ?_ _ | refine blk_drew ?_ | refine blk_alloc ?_ _)); refine blk_far ?_ NB183_184.out _; (with_reducible repeat (first | refine blk_drewN ?_ _ | refine blk_drew ?_ | refine blk_alloc ?_ _)); refine blk_far ?_ NB183_184.out _; (with_reducible repeat (first | refine blk_drewN ?_ _ | refine blk_drew ?_ | refine blk_alloc ?_ _)); exact BK183.out) Tryd.underlying34 rfl (by kernel_rfl)) rfl ?_
 exact ⟨_, by first | rfl | (simp [errW_none, errW_some] <;> rfl) | (simp [*, errW_none, errW_some] <;> rfl), by (with_reducible repeat (first | apply Kd.R_alloc | apply Kd.R_drewN | apply Kd.R_drew)); exact Kd.R_mono (Kd.R_far (p := ⟨gb183, 3, none⟩) (Kd.R_far (p := ⟨gb183, 2, none⟩) (Kd.R_far (p := ⟨gb183, 1, none⟩) (Kd.R_far (p := ⟨gb183, 0, none⟩) (Kd.R_far (p := ⟨gb184, 3, none⟩) (Kd.R_far (p := ⟨gb184, 2, none⟩) (Kd.R_far (p := ⟨gb184, 1, none⟩) (Kd.R_far (p := ⟨gb184, 0, none⟩) (Kd.R_types (Kd.R_types HO187.out BK184.out (by decide)) BK183.out (by decide)) (fun _ hk => hk.1.2) (.slice Ao10 t185.length co10)) (fun _ hk => hk.1.2) (.string a0_1)) (fun _ hk => hk.1.2) (.string a0_2)) (fun _ hk => hk.1.2) (.string a0_3)) (fun _ hk => hk.2) (.slice Ao10 t185.length co10)) (fun _ hk => hk.2) (.string a0_1)) (fun _ hk => hk.2) (.string a0_2)) (fun _ hk => hk.2) (.string a0_3)) (fun _ hk => trivial), by repeat (first | (with_reducible first | exact HB.out | apply below_alloc | apply pw_below_drewN | apply below_drew1 | refine below_set ?_ GE182.out | refine below_set ?_ GE183.out | refine below_set ?_ GE184.out) | exact HB.out)⟩


/-! ### laws_toNameS: function 14 -/
def laws_toNameS.l0 : Nat → List (S89) → List (S34) → Int → Option ((List (S34)))
 | 0, _, _, _ => none
 | k + 1, x0, x3, x4 => if x4 < (x0.length : Int) then (if 0 ≤ x4 then ((laws_toName.f k ((rd_T89 x0 x4).f0) ((rd_T89 x0 x4).f1) ((rd_T89 x0 x4).f2) ((rd_T89 x0 x4).f3)).bind fun bt192 => (if x4 < (x3.length : Int) then (laws_toNameS.l0 k x0 (x3.set (x4 : Int).toNat (⟨bt192.1, bt192.2.1, bt192.2.2.1, bt192.2.2.2⟩ : S34)) (wrap64 (x4 + 1))) else (none))) else (none)) else (some x3)
def laws_toNameS.f (k : Nat) (l0 : List (S89)) : Option ((List (S34))) := if 0 ≤ (l0.length : Int) then (if ((l0.length : Int) : Int).toNat ≤ 3909374676536 then (laws_toNameS.l0 k l0 (List.replicate ((l0.length : Int) : Int).toNat z34) 0) else (none)) else (none)
theorem laws_toNameS.mono_l : ∀ k, (∀ y0 y1 y2, LeO (laws_toNameS.l0 k y0 y1 y2) (laws_toNameS.l0 (k + 1) y0 y1 y2))
 | 0 => fun _ _ _ r h => by simp [laws_toNameS.l0] at h
 | k + 1 => by
  have ih0 := laws_toNameS.mono_l k
  ·
   intro y0 y1 y2
   unfold laws_toNameS.l0
   repeat' first
   | (with_reducible exact ih0 _ _ _)
   | (with_reducible exact laws_toName.mono _ _ _ _ _)
   | (with_reducible exact LeO.refl _)
   | (with_reducible exact LeO.none _)
   | (with_reducible refine LeO.ite ?_ ?_)
   | (with_reducible refine LeO.bind ?_ (fun _ => ?_))
   | exact ih0 _ _ _
   | exact laws_toName.mono _ _ _ _ _
   | exact LeO.none _
   | refine LeO.ite ?_ ?_
   | refine LeO.bind ?_ (fun _ => ?_)
theorem laws_toNameS.mono : ∀ a0 k, LeO (laws_toNameS.f k a0) (laws_toNameS.f (k + 1) a0) := by
 intro a0 k
 have ih0 := laws_toNameS.mono_l k
 unfold laws_toNameS.f
 repeat' first
   | (with_reducible exact ih0 _ _ _)
   | (with_reducible exact laws_toName.mono _ _ _ _ _)
   | (with_reducible exact LeO.refl _)
   | (with_reducible exact LeO.none _)
   | (with_reducible refine LeO.ite ?_ ?_)
   | (with_reducible refine LeO.bind ?_ (fun _ => ?_))
   | exact ih0 _ _ _
   | exact laws_toName.mono _ _ _ _ _
   | exact LeO.none _
   | refine LeO.ite ?_ ?_
   | refine LeO.bind ?_ (fun _ => ?_)
set_option maxHeartbeats 8000000 in
set_option maxRecDepth 100000 in
theorem laws_toNameS.calls (k : Nat) (A0 : Option Addr) (c0 : Nat) (l0 : List (S89)) (r : List (S34)) (w : World) (hr0 : Kd.C k89 w A0 l0.length l0) (hc0 : l0.length ≤ c0) (h : laws_toNameS.f k l0 = some r) :
  Calls Tryd.prog 14 #[.slice A0 l0.length c0] w fun e w' => ∃ v0_ : Value, e = .returned (v0_) ∧ Kd.S k34 34 w' w.heap.size (fun _ => True) v0_ r ∧ Below w.heap.size w w' := by
 have hu89 := Tryd.underlying89
 have hu34 := Tryd.underlying34
 have HR0 := Aside0.mk hr0
 have HC0 := Aside0.mk hc0
 clear hr0 hc0
 have HB := Aside0.mk (Below.refl w.heap.size w)
 have H : (if 0 ≤ (l0.length : Int) then (if ((l0.length : Int) : Int).toNat ≤ 3909374676536 then (laws_toNameS.l0 k l0 (List.replicate ((l0.length : Int) : Int).toNat z34) 0) else (none)) else (none)) = some r := h
 clear h
 by_cases c2 : 0 ≤ (l0.length : Int)
 ·
  rw [if_pos c2] at H
  have c2b0 := eq_true c2
  have c2b1 : decide (0 ≤ (l0.length : Int)) = true := decide_eq_true c2
  clear c2
  by_cases c3 : ((l0.length : Int) : Int).toNat ≤ 3909374676536
  ·
   rw [if_pos c3] at H
   have c3b0 := eq_true c3
   have c3b1 : decide (((l0.length : Int) : Int).toNat ≤ 3909374676536) = true := decide_eq_true c3
   clear c3
   obtain ⟨y188, hy188⟩ : ∃ y_ : List (S34), y_ = (List.replicate ((l0.length : Int) : Int).toNat z34) := ⟨_, rfl⟩
   replace H : (laws_toNameS.l0 k l0 y188 0) = some r := by first | (rw [hy188]; with_reducible exact H) | (have H2_ := (Option.bind_some _ _).symm.trans H; rw [hy188]; with_reducible exact H2_) | (have H2_ := (Option.bind_some _ _).symm.trans H; with_reducible exact H2_) | with_reducible exact H | (rw [hy188]; exact H) | exact H
   have Ny188 := Aside0.mk hy188
   clear hy188
   have H' := Aside0.mk H
   clear H
   go_enter Tryd.func14, Tryd.ntmps14
   go_wp2_with (first | ((with_reducible refine gate_dst (N := 7) rfl ?_); refine Kd.S_make k34 _ 34 rfl (N := 7) rfl 26 _ _ rfl (l0.length : Int) rfl rfl Tryd.underlying26 (.agg #[(.slice none 0 0), (.string ⟨#[]⟩), (.string ⟨#[]⟩), (.string ⟨#[]⟩)]) 72 info34 rfl (by decide) (by omega) z34 (ok := fun _ => True) (okp := fun _ => True) (k34_mkM _ _ _ z34 (Kd.R_nil _ _ _ _ _)) (fun _ hk => hk) trivial (of_decide_eq_true au60) (Nat.le_trans (Nat.mul_le_mul_right _ (of_decide_eq_true au60 : (l0.length : Int).toNat ≤ 3909374676536)) (by omega)) (Below.refl _ _) (Nat.le_refl _) ?_; intro v189 w4 ho5 hb hg_ hnew_; clear hg_ hnew_; (first | rw [← Ny188.out] at ho5 | (simp only [Int.reduceToNat] at ho5; rw [← Ny188.out] at ho5)); have n0_ := Aside0.mk (Kd.S_lower ho5 (below_size au31)); have n1_ := Aside0.mk (below_step au31 hb); clear HB; have HO190 := n0_; have HB := n1_; clear n0_ n1_; clear hb ho5))
   go_loopg [4] k (fun kq v4 w' => ∃ (x3_1 : List (S34)) (x4_1 : Int), v4 = .int .i64 x4_1 ∧ Aside0 (laws_toNameS.l0 kq l0 x3_1 x4_1 = some r) ∧ Aside0 (kq ≤ k) ∧ Aside0 (Kd.S k34 34 w' w.heap.size (fun _ => True) v189 x3_1) ∧ Aside0 (Below w.heap.size w w'))
   case atStart => exact ⟨(y188), (0), au61, H', ⟨Nat.le_refl _⟩, ⟨by (with_reducible repeat (first | apply Kd.S_alloc | apply Kd.S_drewN | apply Kd.S_drew)); exact HO190.out⟩, ⟨by repeat (first | (with_reducible first | exact HB.out | apply below_alloc | apply pw_below_drewN | apply below_drew1) | exact HB.out)⟩⟩
   case round =>
    clear H'
    try clear c1
    try clear c2
    try clear c2b0
    try clear c2b1
    try clear p2
    try clear c3
    try clear c3b0
    try clear c3b1
    obtain ⟨x3_1, x4_1, rfl, HA, HK1, HO_3, HB⟩ := hrel
    cases gk with
    | zero => exact absurd HA.out (by simp [laws_toNameS.l0])
    | succ k1 =>
     have H := HA.out
     clear HA
     simp only [laws_toNameS.l0] at H
     by_cases c6 : x4_1 < (l0.length : Int)
     ·
      rw [if_pos c6] at H
      have c6b0 : decide (x4_1 < (l0.length : Int)) = true := decide_eq_true c6
      clear c6
      by_cases c7 : 0 ≤ x4_1
      ·
       rw [if_pos c7] at H
       have c7b0 : decide (0 ≤ x4_1) = true := decide_eq_true c7
       clear c7
       replace H := Option.bind_eq_some_iff.mp H
       obtain ⟨⟨t192, t195, t196, t197⟩, A80, H⟩ := H
       replace H : (if x4_1 < (x3_1.length : Int) then (laws_toNameS.l0 k1 l0 (x3_1.set (x4_1 : Int).toNat (⟨t192, t195, t196, t197⟩ : S34)) (wrap64 (x4_1 + 1))) else (none)) = some r := H
       have A8 := Aside0.mk A80
       clear A80
       by_cases c9 : x4_1 < (x3_1.length : Int)
       ·
        rw [if_pos c9] at H
        have c9b0 : decide (x4_1 < (x3_1.length : Int)) = true := decide_eq_true c9
        clear c9
        obtain ⟨y198, hy198⟩ : ∃ y_ : List (S34), y_ = (x3_1.set (x4_1 : Int).toNat (⟨t192, t195, t196, t197⟩ : S34)) := ⟨_, rfl⟩
        replace H : (laws_toNameS.l0 k1 l0 y198 (wrap64 (x4_1 + 1))) = some r := by first | (rw [hy198]; with_reducible exact H) | (have H2_ := (Option.bind_some _ _).symm.trans H; rw [hy198]; with_reducible exact H2_) | (have H2_ := (Option.bind_some _ _).symm.trans H; with_reducible exact H2_) | with_reducible exact H | (rw [hy198]; exact H) | exact H
        have Ny198 := Aside0.mk hy198
        clear hy198
        have H' := Aside0.mk H
        clear H
        have p191 : 0 ≤ (x4_1 : Int) := of_decide_eq_true au60
        have q191 : x4_1 < (l0.length : Int) := of_decide_eq_true au60
        obtain ⟨ad191, A191_0, c191_0, e191, hx191_0, hx191_1, hx191_2, hx191_3, hl191_0, hi191_0⟩ := at_T89 HR0.out x4_1 p191 q191
        cases e191
        replace hx191_0 := (HB.out.cell (World.block_lt_of_cell? w _ hx191_0)).trans hx191_0
        replace hx191_1 := (HB.out.cell (World.block_lt_of_cell? w _ hx191_1)).trans hx191_1
        replace hx191_2 := (HB.out.cell (World.block_lt_of_cell? w _ hx191_2)).trans hx191_2
        replace hx191_3 := (HB.out.cell (World.block_lt_of_cell? w _ hx191_3)).trans hx191_3
        have HR191_0 := Aside0.mk hi191_0
        have HC191_0 := Aside0.mk hl191_0
        clear hi191_0 hl191_0
        replace p191 := eq_true p191
        replace q191 := eq_true q191
        go_wp2_with (first | ((with_reducible refine gate_callee (f := 63) rfl ?_); refine goesL_ (some 20) rfl rfl Tryd.func63 (by kernel_rfl) rfl #[.agg #[.slice A191_0 ((rd_T89 l0 x4_1).f0).length c191_0, .string ((rd_T89 l0 x4_1).f1), .string ((rd_T89 l0 x4_1).f2), .string ((rd_T89 l0 x4_1).f3)]] rfl au30 ?_; (with_reducible refine (laws_toName.calls k1 _ _ ((rd_T89 l0 x4_1).f0) ((rd_T89 l0 x4_1).f1) ((rd_T89 l0 x4_1).f2) ((rd_T89 l0 x4_1).f3) t192 t195 t196 t197 _ ?side1 ?side2 A8.out).mono ?_); (case side1 => repeat (first | exact (Kd.C_below HR191_0.out HB.out) | (with_reducible refine Kd.C_alloc ?_ _) | (with_reducible refine Kd.C_drewN ?_ _) | (with_reducible refine Kd.C_drew ?_))); (case side2 => exact HC191_0.out); rintro e w11 ⟨v193, rfl, ho0, hb⟩; obtain ⟨Aqv193, cqv193, eqv193⟩ := Kd.R_slice ho0; subst eqv193; refine ⟨_, rfl, ?_⟩; have n0_ := Aside0.mk (Kd.S_elder' (by (with_reducible repeat (first | apply Kd.S_alloc | apply Kd.S_drewN | apply Kd.S_drew)); exact HO_3.out) (Kd.R_base ho0) hb); have n1_ := Aside0.mk (Kd.R_lower ho0 (below_size au31)); have n2_ := Aside0.mk (below_step au31 hb); clear HO_3; clear HB; have HO_3 := n0_; have HO194 := n1_; have HB := n2_; clear n0_ n1_ n2_; (try clear hb); (try clear hb2); (try clear hk); (try clear hi); (try clear ho0); have p10 : 0 ≤ (x4_1 : Int) := of_decide_eq_true au60; have q10 : (x4_1 : Int) < ((x3_1.length : Int) : Int) := of_decide_eq_true au60; obtain ⟨go10, co10, eo10, gb10, gl10, cl10, HG10⟩ := Kd.S_form HO_3.out (by omega); (first | cases eo10 | (injection eo10 with ea_ en_ ec_; (first | subst ea_ | (injection ea_ with ea_; subst ea_)); subst ec_; clear en_)); have GB10 := Aside0.mk gb10; have GG10 := Aside0.mk HG10; clear gb10 gl10 HG10; obtain ⟨_, ce10, hcl10, hM10, hcc10, hfr10, _, _⟩ := Kd.S_elem HO_3.out z34 (x4_1 : Int) p10 q10; obtain ⟨ve10_0, rfl, ge10_0⟩ := k34_openM hM10; have hx10_0 : w11.cell? ⟨go10, (x4_1 : Int).toNat * 4, none⟩ = some (ve10_0) := hcc10 0 _ rfl; have hx10_1 : w11.cell? ⟨go10, (x4_1 : Int).toNat * 4 + 1, none⟩ = some (.string ((rd_T34 x3_1 x4_1).f1)) := hcc10 1 _ rfl; have hx10_2 : w11.cell? ⟨go10, (x4_1 : Int).toNat * 4 + 2, none⟩ = some (.string ((rd_T34 x3_1 x4_1).f2)) := hcc10 2 _ rfl; have hx10_3 : w11.cell? ⟨go10, (x4_1 : Int).toNat * 4 + 3, none⟩ = some (.string ((rd_T34 x3_1 x4_1).f3)) := hcc10 3 _ rfl; have hf10_0 : w11.frozen? ⟨go10, (x4_1 : Int).toNat * 4, none⟩ = false := hfr10 0; have hf10_1 : w11.frozen? ⟨go10, (x4_1 : Int).toNat * 4 + 1, none⟩ = false := hfr10 1; have hf10_2 : w11.frozen? ⟨go10, (x4_1 : Int).toNat * 4 + 2, none⟩ = false := hfr10 2; have hf10_3 : w11.frozen? ⟨go10, (x4_1 : Int).toNat * 4 + 3, none⟩ = false := hfr10 3; clear hcl10 hcc10 hfr10 hM10; replace p10 := eq_true p10; replace q10 := eq_true q10; have n_ := Aside0.mk (Kd.S_mono (ok' := (fun k_ => some k_ ≠ ((.slice Aqv193 t192.length cqv193 : Value) : Value).ownBlock)) HO_3.out (fun k_ hk => hk.2)); clear HO_3; have HO_3 := n_; clear n_; have HX12 := Aside0.mk (show Kd.S k34 34 w11 w.heap.size (fun k_ => ((fun _ => True)) k_ ∧ ¬ ((fun k_ => some k_ = ((.slice Aqv193 t192.length cqv193 : Value) : Value).ownBlock)) k_) (.slice (some ⟨go10, 0, none⟩) x3_1.length co10) x3_1 from (by (with_reducible repeat (first | apply Kd.S_alloc | apply Kd.S_drewN | apply Kd.S_drew)); exact Kd.S_mono HO_3.out (fun k_ hk => ⟨trivial, fun e_ => hk e_⟩))); obtain ⟨oki12, ce12, hcl12, hM12, hcc12, hfr12, hoki12, hH12⟩ := Kd.S_elem HX12.out z34 (x4_1 : Int) (of_decide_eq_true au60) (by have h_ : (x4_1 : Int) < ((x3_1.length : Int) : Int) := of_decide_eq_true au60; first | exact h_ | (have e_ := (Kd.S_reads' HO_3.out).1; omega) | simpa using h_); obtain ⟨ve12_0, rfl, ge12_0⟩ := k34_openM hM12; have HP12 := Kd.S_seg hH12 (of_decide_eq_true au60) (by have h_ : (x4_1 : Int) < ((x3_1.length : Int) : Int) := of_decide_eq_true au60; first | exact h_ | (have e_ := (Kd.S_reads' HO_3.out).1; omega) | simpa using h_) (seg := [(.slice Aqv193 t192.length cqv193 : Value), .string t195, .string t196, .string t197]) (j := 0) (show 4 ≤ 4 from by decide) (x' := (⟨t192, t195, t196, t197⟩ : S34)) (k34_mkM _ _ _ (⟨t192, t195, t196, t197⟩ : S34) (Kd.R_mono (Kd.R_tight rfl (Kd.R_mono (ok' := fun k_ => ((fun _ => True)) k_ ∧ k_ ≠ go10) (Kd.R_apart' (HO194.out) (Kd.S_typed HO_3.out) (by decide)) (fun k_ hk => ⟨trivial, fun e_ => (hk.2) (by rw [e_]; rfl)⟩))) (fun _ h_ => Or.inr (h_)))) (fun _ hk => hk) (fun k_ hk_ => ((Kd.R_mono (ok' := fun k_ => ((fun _ => True)) k_ ∧ k_ ≠ go10) (Kd.R_apart' (HO194.out) (Kd.S_typed HO_3.out) (by decide)) (fun k_ hk => ⟨trivial, fun e_ => (hk.2) (by rw [e_]; rfl)⟩))).1 k_ hk_.symm); have hx12_0 := hcc12 0 _ rfl; (try simp only [show (k34).sz = 4 from rfl, Nat.mul_one, Nat.add_zero] at hx12_0); have hf12_0 := hfr12 0; (try simp only [show (k34).sz = 4 from rfl, Nat.mul_one, Nat.add_zero] at hf12_0); have hx12_1 := hcc12 1 _ rfl; (try simp only [show (k34).sz = 4 from rfl, Nat.mul_one, Nat.add_zero] at hx12_1); have hf12_1 := hfr12 1; (try simp only [show (k34).sz = 4 from rfl, Nat.mul_one, Nat.add_zero] at hf12_1); have hx12_2 := hcc12 2 _ rfl; (try simp only [show (k34).sz = 4 from rfl, Nat.mul_one, Nat.add_zero] at hx12_2); have hf12_2 := hfr12 2; (try simp only [show (k34).sz = 4 from rfl, Nat.mul_one, Nat.add_zero] at hf12_2); have hx12_3 := hcc12 3 _ rfl; (try simp only [show (k34).sz = 4 from rfl, Nat.mul_one, Nat.add_zero] at hx12_3); have hf12_3 := hfr12 3; (try simp only [show (k34).sz = 4 from rfl, Nat.mul_one, Nat.add_zero] at hf12_3); clear hcl12 hcc12 hfr12 hM12 hoki12 hH12) | ((with_reducible refine gate_store (t := 34) (p := 21) rfl ?_); refine store_event (t := 34) (p := 21) (v := ?vo_w13) (w1 := ((((w11.setCell ⟨go10, (x4_1 : Int).toNat * 4, none⟩ ((.slice Aqv193 t192.length cqv193 : Value))).setCell ⟨go10, (x4_1 : Int).toNat * 4 + 1, none⟩ (.string t195)).setCell ⟨go10, (x4_1 : Int).toNat * 4 + 2, none⟩ (.string t196)).setCell ⟨go10, (x4_1 : Int).toNat * 4 + 3, none⟩ (.string t197))) ?hg ?ho ?hn ?hr ?_; (case ho => rfl); (case hg => rfl); (case hn => rfl); (case hr => first | (go_simp; done) | (go_simp; rfl)); intro w13 hw; have hg : w11.grownBy w13 (some go10) := (by rw [hw]; exact HP12.2); have hp_ : Kd.S k34 34 w13 w.heap.size (fun _ => True) (.slice (some ⟨go10, 0, none⟩) x3_1.length co10) y198 := (by rw [hw, Ny198.out]; exact HP12.1); clear HP12; have n0_ := Aside0.mk (hp_); have n1_ := Aside0.mk ((by rw [hw]; exact below_set (below_set (below_set (below_set (HB.out) GB10.out) GB10.out) GB10.out) GB10.out : Below w.heap.size w w13)); clear HO_3; clear HB; clear HO194; have HO_3 := n0_; have HB := n1_; clear n0_ n1_; clear hg hw hp_))
        go_roundg k1
        case measure => have := HK1.out; omega
        case rel => exact ⟨(y198), (wrap64 (x4_1 + 1)), au61, H', ⟨by have := HK1.out; omega⟩, ⟨by (with_reducible repeat (first | apply Kd.S_alloc | apply Kd.S_drewN | apply Kd.S_drew)); exact HO_3.out⟩, ⟨by repeat (first | (with_reducible first | exact HB.out | apply below_alloc | apply pw_below_drewN | apply below_drew1) | exact HB.out)⟩⟩
       ·
        rw [if_neg c9] at H
        exact absurd H (by simp)
      ·
       rw [if_neg c7] at H
       exact absurd H (by simp)
     ·
      rw [if_neg c6] at H
      have c6b0 : decide (x4_1 < (l0.length : Int)) = false := decide_eq_false c6
      clear c6
      obtain rfl := Option.some.inj H
      go_wp2
      go_ret
      exact ⟨_, by first | rfl | (simp [errW_none, errW_some] <;> rfl) | (simp [*, errW_none, errW_some] <;> rfl), by (with_reducible repeat (first | apply Kd.S_alloc | apply Kd.S_drewN | apply Kd.S_drew)); exact HO_3.out, by repeat (first | (with_reducible first | exact HB.out | apply below_alloc | apply pw_below_drewN | apply below_drew1) | exact HB.out)⟩
  ·
   rw [if_neg c3] at H
   exact absurd H (by simp)
 ·
  rw [if_neg c2] at H
  exact absurd H (by simp)


/-! ### laws_toEntry: function 43 -/
def laws_toEntry.f (k : Nat) (a0_0 : ByteArray) (a0_1 : Int) (l0_2 : List (S89)) (l0_3 : List (S89)) (a0_4 : ByteArray) (a0_5 : ByteArray) (a0_6 : ByteArray) (a0_7 : Int) (a0_8 : Int) (a0_9 : Int) (a0_10 : Bool) (a0_11 : Int) (a0_12 : ByteArray) (a0_13 : ByteArray) : Option (ByteArray × Int × (List (S34)) × (List (S34)) × ByteArray × ByteArray × ByteArray × Int × Int × Int × Bool × Int × ByteArray × ByteArray) := (laws_toNameS.f k l0_2).bind fun t652 => ((laws_toNameS.f k l0_3).bind fun t655 => ((laws_toDate.f a0_7 a0_8 a0_9 a0_10).bind fun bt658 => (some (a0_0, a0_1, t652, t655, a0_4, a0_5, a0_6, bt658.1, bt658.2.1, bt658.2.2.1, bt658.2.2.2, a0_11, a0_12, a0_13))))
theorem laws_toEntry.mono : ∀ a0 a1 a2 a3 a4 a5 a6 a7 a8 a9 a10 a11 a12 a13 k, LeO (laws_toEntry.f k a0 a1 a2 a3 a4 a5 a6 a7 a8 a9 a10 a11 a12 a13) (laws_toEntry.f (k + 1) a0 a1 a2 a3 a4 a5 a6 a7 a8 a9 a10 a11 a12 a13) := by
 intro a0 a1 a2 a3 a4 a5 a6 a7 a8 a9 a10 a11 a12 a13 k
 unfold laws_toEntry.f
 repeat' first
   | (with_reducible exact laws_toNameS.mono _ _)
   | (with_reducible exact LeO.refl _)
   | (with_reducible exact LeO.none _)
   | (with_reducible refine LeO.ite ?_ ?_)
   | (with_reducible refine LeO.bind ?_ (fun _ => ?_))
   | exact laws_toNameS.mono _ _
   | exact LeO.none _
   | refine LeO.ite ?_ ?_
   | refine LeO.bind ?_ (fun _ => ?_)
set_option maxHeartbeats 8000000 in
set_option maxRecDepth 100000 in
theorem laws_toEntry.calls (k : Nat) (a0_0 : ByteArray) (a0_1 : Int) (A0_2 : Option Addr) (c0_2 : Nat) (l0_2 : List (S89)) (A0_3 : Option Addr) (c0_3 : Nat) (l0_3 : List (S89)) (a0_4 : ByteArray) (a0_5 : ByteArray) (a0_6 : ByteArray) (a0_7 : Int) (a0_8 : Int) (a0_9 : Int) (a0_10 : Bool) (a0_11 : Int) (a0_12 : ByteArray) (a0_13 : ByteArray) (r1 : ByteArray) (r2 : Int) (r3 : List (S34)) (r4 : List (S34)) (r5 : ByteArray) (r6 : ByteArray) (r7 : ByteArray) (r8 : Int) (r9 : Int) (r10 : Int) (r11 : Bool) (r12 : Int) (r13 : ByteArray) (r14 : ByteArray) (w : World) (hr0_2 : Kd.C k89 w A0_2 l0_2.length l0_2) (hc0_2 : l0_2.length ≤ c0_2) (hr0_3 : Kd.C k89 w A0_3 l0_3.length l0_3) (hc0_3 : l0_3.length ≤ c0_3) (h : laws_toEntry.f k a0_0 a0_1 l0_2 l0_3 a0_4 a0_5 a0_6 a0_7 a0_8 a0_9 a0_10 a0_11 a0_12 a0_13 = some (r1, r2, r3, r4, r5, r6, r7, r8, r9, r10, r11, r12, r13, r14)) :
  Calls Tryd.prog 43 #[.agg #[.string a0_0, .int .i64 a0_1, .slice A0_2 l0_2.length c0_2, .slice A0_3 l0_3.length c0_3, .string a0_4, .string a0_5, .string a0_6, .int .i64 a0_7, .int .i64 a0_8, .int .i64 a0_9, .bool a0_10, .int .i64 a0_11, .string a0_12, .string a0_13]] w fun e w' => ∃ v2_ v3_ : Value, e = .returned (.agg #[.string r1, .int .i64 r2, v2_, v3_, .string r5, .string r6, .string r7, .int .i64 r8, .int .i64 r9, .int .i64 r10, .bool r11, .int .i64 r12, .string r13, .string r14]) ∧ Kd.S k34 34 w' w.heap.size (fun k_ => some k_ ≠ (v3_ : Value).ownBlock) v2_ r3 ∧ Kd.S k34 34 w' w.heap.size (fun k_ => some k_ ≠ (v2_ : Value).ownBlock) v3_ r4 ∧ Below w.heap.size w w' := by
 have hu60 := Tryd.underlying60
 have hu65 := Tryd.underlying65
 have hu58 := Tryd.underlying58
 have hu63 := Tryd.underlying63
 have HR0_2 := Aside0.mk hr0_2
 have HC0_2 := Aside0.mk hc0_2
 clear hr0_2 hc0_2
 have HR0_3 := Aside0.mk hr0_3
 have HC0_3 := Aside0.mk hc0_3
 clear hr0_3 hc0_3
 have HB := Aside0.mk (Below.refl w.heap.size w)
 have H : ((laws_toNameS.f k l0_2).bind fun t652 => ((laws_toNameS.f k l0_3).bind fun t655 => ((laws_toDate.f a0_7 a0_8 a0_9 a0_10).bind fun bt658 => (some (a0_0, a0_1, t652, t655, a0_4, a0_5, a0_6, bt658.1, bt658.2.1, bt658.2.2.1, bt658.2.2.2, a0_11, a0_12, a0_13))))) = some (r1, r2, r3, r4, r5, r6, r7, r8, r9, r10, r11, r12, r13, r14) := h
 clear h
 replace H := Option.bind_eq_some_iff.mp H
 obtain ⟨t652, A20, H⟩ := H
 try dsimp only at H
 have A2 := Aside0.mk A20
 clear A20
 replace H := Option.bind_eq_some_iff.mp H
 obtain ⟨t655, A30, H⟩ := H
 try dsimp only at H
 have A3 := Aside0.mk A30
 clear A30
 replace H := Option.bind_eq_some_iff.mp H
 obtain ⟨⟨t658, t659, t660, t661⟩, A40, H⟩ := H
 replace H : (some (a0_0, a0_1, t652, t655, a0_4, a0_5, a0_6, t658, t659, t660, t661, a0_11, a0_12, a0_13)) = some (r1, r2, r3, r4, r5, r6, r7, r8, r9, r10, r11, r12, r13, r14) := H
 have A4 := Aside0.mk A40
 clear A40
 simp only [Option.some.injEq, Prod.mk.injEq] at H
 obtain ⟨rfl, rfl, rfl, rfl, rfl, rfl, rfl, rfl, rfl, rfl, rfl, rfl, rfl, rfl⟩ := H
 go_enter Tryd.func43, Tryd.ntmps43
 go_wp2_with (first | ((with_reducible refine gate_dst (N := 1) rfl ?_); refine box_event ?hg (N := 1) ?hd (cs := #[.string a0_0, .int .i64 a0_1, .slice A0_2 l0_2.length c0_2, .slice A0_3 l0_3.length c0_3, .string a0_4, .string a0_5, .string a0_6, .int .i64 a0_7, .int .i64 a0_8, .int .i64 a0_9, .bool a0_10, .int .i64 a0_11, .string a0_12, .string a0_13]) (t := 60) ?hr ?_; (case hd => rfl); (case hg => rfl); (case hr => first | (go_simp; done) | (go_simp; rfl)); intro gb649 hg w5 hbox hb; have n0_ := Aside0.mk (below_step au31 hb); have n1_ := Aside0.mk (hbox); have n2_ := Aside0.mk ((by rw [hg]; exact (below_size au31) : w.heap.size ≤ gb649)); have n3_ := Aside0.mk ((by rw [hg]; exact (below_size au31) : w.heap.size ≤ gb649)); clear HB; have HB := n0_; have BK649 := n1_; have GW649 := n2_; have GE649 := n3_; clear n0_ n1_ n2_ n3_; clear hb hbox hg) | ((with_reducible refine gate_dst (N := 2) rfl ?_); refine box_event ?hg (N := 2) ?hd (cs := #[.string (⟨#[]⟩ : ByteArray), .int .i64 0, .slice none 0 0, .slice none 0 0, .string (⟨#[]⟩ : ByteArray), .string (⟨#[]⟩ : ByteArray), .string (⟨#[]⟩ : ByteArray), .int .i64 0, .int .i64 0, .int .i64 0, .bool false, .int .i64 0, .string (⟨#[]⟩ : ByteArray), .string (⟨#[]⟩ : ByteArray)]) (t := 65) ?hr ?_; (case hd => rfl); (case hg => rfl); (case hr => first | (go_simp; done) | (go_simp; rfl)); intro gb650 hg w6 hbox hb; have n0_ := Aside0.mk (blk_below (g := gb649) (o := .cells #[.string a0_0, .int .i64 a0_1, .slice A0_2 l0_2.length c0_2, .slice A0_3 l0_3.length c0_3, .string a0_4, .string a0_5, .string a0_6, .int .i64 a0_7, .int .i64 a0_8, .int .i64 a0_9, .bool a0_10, .int .i64 a0_11, .string a0_12, .string a0_13] 60 (0, 0)) au41 hb); have n1_ := Aside0.mk (below_step au20 hb); have n2_ := Aside0.mk (hbox); have n3_ := Aside0.mk ((by rw [hg]; exact (below_size au20) : w.heap.size ≤ gb650)); have n4_ := Aside0.mk ((by rw [hg]; exact (below_size au20) : w.heap.size ≤ gb650)); have n5_ := Aside0.mk ((by rw [hg]; exact Nat.ne_of_lt (blk_lt (g := gb649) (o := .cells #[.string a0_0, .int .i64 a0_1, .slice A0_2 l0_2.length c0_2, .slice A0_3 l0_3.length c0_3, .string a0_4, .string a0_5, .string a0_6, .int .i64 a0_7, .int .i64 a0_8, .int .i64 a0_9, .bool a0_10, .int .i64 a0_11, .string a0_12, .string a0_13] 60 (0, 0)) au41) : gb649 ≠ gb650)); have n6_ := Aside0.mk ((by rw [hg]; exact Nat.ne_of_gt (blk_lt (g := gb649) (o := .cells #[.string a0_0, .int .i64 a0_1, .slice A0_2 l0_2.length c0_2, .slice A0_3 l0_3.length c0_3, .string a0_4, .string a0_5, .string a0_6, .int .i64 a0_7, .int .i64 a0_8, .int .i64 a0_9, .bool a0_10, .int .i64 a0_11, .string a0_12, .string a0_13] 60 (0, 0)) au41) : gb650 ≠ gb649)); clear BK649; clear HB; have BK649 := n0_; have HB := n1_; have BK650 := n2_; have GW650 := n3_; have GE650 := n4_; have NB649_650 := n5_; have NB650_649 := n6_; clear n0_ n1_ n2_ n3_ n4_ n5_ n6_; clear hb hbox hg) | ((with_reducible refine gate_dst (N := 3) rfl ?_); refine box_event ?hg (N := 3) ?hd (cs := #[.string (⟨#[]⟩ : ByteArray), .int .i64 0, .slice none 0 0, .slice none 0 0, .string (⟨#[]⟩ : ByteArray), .string (⟨#[]⟩ : ByteArray), .string (⟨#[]⟩ : ByteArray), .int .i64 0, .int .i64 0, .int .i64 0, .bool false, .int .i64 0, .string (⟨#[]⟩ : ByteArray), .string (⟨#[]⟩ : ByteArray)]) (t := 65) ?hr ?_; (case hd => rfl); (case hg => rfl); (case hr => first | (go_simp; done) | (go_simp; rfl)); intro gb651 hg w7 hbox hb; have n0_ := Aside0.mk (blk_below (g := gb649) (o := .cells #[.string a0_0, .int .i64 a0_1, .slice A0_2 l0_2.length c0_2, .slice A0_3 l0_3.length c0_3, .string a0_4, .string a0_5, .string a0_6, .int .i64 a0_7, .int .i64 a0_8, .int .i64 a0_9, .bool a0_10, .int .i64 a0_11, .string a0_12, .string a0_13] 60 (0, 0)) au41 hb); have n1_ := Aside0.mk (blk_below (g := gb650) (o := .cells #[.string (⟨#[]⟩ : ByteArray), .int .i64 0, .slice none 0 0, .slice none 0 0, .string (⟨#[]⟩ : ByteArray), .string (⟨#[]⟩ : ByteArray), .string (⟨#[]⟩ : ByteArray), .int .i64 0, .int .i64 0, .int .i64 0, .bool false, .int .i64 0, .string (⟨#[]⟩ : ByteArray), .string (⟨#[]⟩ : ByteArray)] 65 (0, 0)) au42 hb); have n2_ := Aside0.mk (below_step au8 hb); have n3_ := Aside0.mk (hbox); have n4_ := Aside0.mk ((by rw [hg]; exact (below_size au8) : w.heap.size ≤ gb651)); have n5_ := Aside0.mk ((by rw [hg]; exact (below_size au8) : w.heap.size ≤ gb651)); have n6_ := Aside0.mk ((by rw [hg]; exact Nat.ne_of_lt (blk_lt (g := gb649) (o := .cells #[.string a0_0, .int .i64 a0_1, .slice A0_2 l0_2.length c0_2, .slice A0_3 l0_3.length c0_3, .string a0_4, .string a0_5, .string a0_6, .int .i64 a0_7, .int .i64 a0_8, .int .i64 a0_9, .bool a0_10, .int .i64 a0_11, .string a0_12, .string a0_13] 60 (0, 0)) au41) : gb649 ≠ gb651)); have n7_ := Aside0.mk ((by rw [hg]; exact Nat.ne_of_gt (blk_lt (g := gb649) (o := .cells #[.string a0_0, .int .i64 a0_1, .slice A0_2 l0_2.length c0_2, .slice A0_3 l0_3.length c0_3, .string a0_4, .string a0_5, .string a0_6, .int .i64 a0_7, .int .i64 a0_8, .int .i64 a0_9, .bool a0_10, .int .i64 a0_11, .string a0_12, .string a0_13] 60 (0, 0)) au41) : gb651 ≠ gb649)); have n8_ := Aside0.mk ((by rw [hg]; exact Nat.ne_of_lt (blk_lt (g := gb650) (o := .cells #[.string (⟨#[]⟩ : ByteArray), .int .i64 0, .slice none 0 0, .slice none 0 0, .string (⟨#[]⟩ : ByteArray), .string (⟨#[]⟩ : ByteArray), .string (⟨#[]⟩ : ByteArray), .int .i64 0, .int .i64 0, .int .i64 0, .bool false, .int .i64 0, .string (⟨#[]⟩ : ByteArray), .string (⟨#[]⟩ : ByteArray)] 65 (0, 0)) au42) : gb650 ≠ gb651)); have n9_ := Aside0.mk ((by rw [hg]; exact Nat.ne_of_gt (blk_lt (g := gb650) (o := .cells #[.string (⟨#[]⟩ : ByteArray), .int .i64 0, .slice none 0 0, .slice none 0 0, .string (⟨#[]⟩ : ByteArray), .string (⟨#[]⟩ : ByteArray), .string (⟨#[]⟩ : ByteArray), .int .i64 0, .int .i64 0, .int .i64 0, .bool false, .int .i64 0, .string (⟨#[]⟩ : ByteArray), .string (⟨#[]⟩ : ByteArray)] 65 (0, 0)) au42) : gb651 ≠ gb650)); clear BK649; clear BK650; clear HB; have BK649 := n0_; have BK650 := n1_; have HB := n2_; have BK651 := n3_; have GW651 := n4_; have GE651 := n5_; have NB649_651 := n6_; have NB651_649 := n7_; have NB650_651 := n8_; have NB651_650 := n9_; clear n0_ n1_ n2_ n3_ n4_ n5_ n6_ n7_ n8_ n9_; clear hb hbox hg; have hnb8 := NB649_650.out; have hnc8 := NB650_649.out; have hnb9 := NB649_651.out; have hnc9 := NB651_649.out; have hcz10_0 : w7.cell? ⟨gb649, 0, none⟩ = some (.string a0_0) := (blk_cell BK649.out 0).trans rfl; have hcz10_1 : w7.cell? ⟨gb649, 1, none⟩ = some (.int .i64 a0_1) := (blk_cell BK649.out 1).trans rfl; have hcz10_2 : w7.cell? ⟨gb649, 2, none⟩ = some (.slice A0_2 l0_2.length c0_2) := (blk_cell BK649.out 2).trans rfl; have hcz10_3 : w7.cell? ⟨gb649, 3, none⟩ = some (.slice A0_3 l0_3.length c0_3) := (blk_cell BK649.out 3).trans rfl; have hcz10_4 : w7.cell? ⟨gb649, 4, none⟩ = some (.string a0_4) := (blk_cell BK649.out 4).trans rfl; have hcz10_5 : w7.cell? ⟨gb649, 5, none⟩ = some (.string a0_5) := (blk_cell BK649.out 5).trans rfl; have hcz10_6 : w7.cell? ⟨gb649, 6, none⟩ = some (.string a0_6) := (blk_cell BK649.out 6).trans rfl; have hcz10_7 : w7.cell? ⟨gb649, 7, none⟩ = some (.int .i64 a0_7) := (blk_cell BK649.out 7).trans rfl; have hcz10_8 : w7.cell? ⟨gb649, 8, none⟩ = some (.int .i64 a0_8) := (blk_cell BK649.out 8).trans rfl; have hcz10_9 : w7.cell? ⟨gb649, 9, none⟩ = some (.int .i64 a0_9) := (blk_cell BK649.out 9).trans rfl; have hcz10_10 : w7.cell? ⟨gb649, 10, none⟩ = some (.bool a0_10) := (blk_cell BK649.out 10).trans rfl; have hcz10_11 : w7.cell? ⟨gb649, 11, none⟩ = some (.int .i64 a0_11) := (blk_cell BK649.out 11).trans rfl; have hcz10_12 : w7.cell? ⟨gb649, 12, none⟩ = some (.string a0_12) := (blk_cell BK649.out 12).trans rfl; have hcz10_13 : w7.cell? ⟨gb649, 13, none⟩ = some (.string a0_13) := (blk_cell BK649.out 13).trans rfl; have hfz10_0 := blk_frozen BK649.out 0; have hfz10_1 := blk_frozen BK649.out 1; have hfz10_2 := blk_frozen BK649.out 2; have hfz10_3 := blk_frozen BK649.out 3; have hfz10_4 := blk_frozen BK649.out 4; have hfz10_5 := blk_frozen BK649.out 5; have hfz10_6 := blk_frozen BK649.out 6; have hfz10_7 := blk_frozen BK649.out 7; have hfz10_8 := blk_frozen BK649.out 8; have hfz10_9 := blk_frozen BK649.out 9; have hfz10_10 := blk_frozen BK649.out 10; have hfz10_11 := blk_frozen BK649.out 11; have hfz10_12 := blk_frozen BK649.out 12; have hfz10_13 := blk_frozen BK649.out 13; have hnb11 := NB651_650.out; have hnc11 := NB650_651.out; have hcz12_0 : w7.cell? ⟨gb651, 0, none⟩ = some (.string (⟨#[]⟩ : ByteArray)) := (blk_cell BK651.out 0).trans rfl; have hcz12_1 : w7.cell? ⟨gb651, 1, none⟩ = some (.int .i64 0) := (blk_cell BK651.out 1).trans rfl; have hcz12_2 : w7.cell? ⟨gb651, 2, none⟩ = some (.slice none 0 0) := (blk_cell BK651.out 2).trans rfl; have hcz12_3 : w7.cell? ⟨gb651, 3, none⟩ = some (.slice none 0 0) := (blk_cell BK651.out 3).trans rfl; have hcz12_4 : w7.cell? ⟨gb651, 4, none⟩ = some (.string (⟨#[]⟩ : ByteArray)) := (blk_cell BK651.out 4).trans rfl; have hcz12_5 : w7.cell? ⟨gb651, 5, none⟩ = some (.string (⟨#[]⟩ : ByteArray)) := (blk_cell BK651.out 5).trans rfl; have hcz12_6 : w7.cell? ⟨gb651, 6, none⟩ = some (.string (⟨#[]⟩ : ByteArray)) := (blk_cell BK651.out 6).trans rfl; have hcz12_7 : w7.cell? ⟨gb651, 7, none⟩ = some (.int .i64 0) := (blk_cell BK651.out 7).trans rfl; have hcz12_8 : w7.cell? ⟨gb651, 8, none⟩ = some (.int .i64 0) := (blk_cell BK651.out 8).trans rfl; have hcz12_9 : w7.cell? ⟨gb651, 9, none⟩ = some (.int .i64 0) := (blk_cell BK651.out 9).trans rfl; have hcz12_10 : w7.cell? ⟨gb651, 10, none⟩ = some (.bool false) := (blk_cell BK651.out 10).trans rfl; have hcz12_11 : w7.cell? ⟨gb651, 11, none⟩ = some (.int .i64 0) := (blk_cell BK651.out 11).trans rfl; have hcz12_12 : w7.cell? ⟨gb651, 12, none⟩ = some (.string (⟨#[]⟩ : ByteArray)) := (blk_cell BK651.out 12).trans rfl; have hcz12_13 : w7.cell? ⟨gb651, 13, none⟩ = some (.string (⟨#[]⟩ : ByteArray)) := (blk_cell BK651.out 13).trans rfl; have hfz12_0 := blk_frozen BK651.out 0; have hfz12_1 := blk_frozen BK651.out 1; have hfz12_2 := blk_frozen BK651.out 2; have hfz12_3 := blk_frozen BK651.out 3; have hfz12_4 := blk_frozen BK651.out 4; have hfz12_5 := blk_frozen BK651.out 5; have hfz12_6 := blk_frozen BK651.out 6; have hfz12_7 := blk_frozen BK651.out 7; have hfz12_8 := blk_frozen BK651.out 8; have hfz12_9 := blk_frozen BK651.out 9; have hfz12_10 := blk_frozen BK651.out 10; have hfz12_11 := blk_frozen BK651.out 11; have hfz12_12 := blk_frozen BK651.out 12; have hfz12_13 := blk_frozen BK651.out 13) | ((with_reducible refine gate_callee (f := 14) rfl ?_); refine goesL_ (some 12) rfl rfl Tryd.func14 (by kernel_rfl) rfl #[.slice A0_2 l0_2.length c0_2] rfl au30 ?_; (with_reducible refine (laws_toNameS.calls k _ _ l0_2 t652 _ ?side1 ?side2 A2.out).mono ?_); (case side1 => exact Kd.C_below HR0_2.out au4); (case side2 => exact HC0_2.out); rintro e w13 ⟨v653, rfl, ho0, hb⟩; refine ⟨_, rfl, ?_⟩; have n0_ := Aside0.mk (Kd.S_lower ho0 (below_size au4)); have n1_ := Aside0.mk (blk_below (g := gb649) (o := .cells #[.string a0_0, .int .i64 a0_1, .slice A0_2 l0_2.length c0_2, .slice A0_3 l0_3.length c0_3, .string a0_4, .string a0_5, .string a0_6, .int .i64 a0_7, .int .i64 a0_8, .int .i64 a0_9, .bool a0_10, .int .i64 a0_11, .string a0_12, .string a0_13] 60 (0, 0)) (by (with_reducible repeat (first | refine blk_drewN ?_ _ | refine blk_drew ?_ | refine blk_alloc ?_ _)); refine blk_far ?_ NB649_651.out _; (with_reducible repeat (first | refine blk_drewN ?_ _ | refine blk_drew ?_ | refine blk_alloc ?_ _)); refine blk_far ?_ NB649_651.out _; (with_reducible repeat (first | refine blk_drewN ?_ _ | refine blk_drew ?_ | refine blk_alloc ?_ _)); exact BK649.out) hb); have n2_ := Aside0.mk (blk_below (g := gb650) (o := .cells #[.string (⟨#[]⟩ : ByteArray), .int .i64 0, .slice none 0 0, .slice none 0 0, .string (⟨#[]⟩ : ByteArray), .string (⟨#[]⟩ : ByteArray), .string (⟨#[]⟩ : ByteArray), .int .i64 0, .int .i64 0, .int .i64 0, .bool false, .int .i64 0, .string (⟨#[]⟩ : ByteArray), .string (⟨#[]⟩ : ByteArray)] 65 (0, 0)) (by (with_reducible repeat (first | refine blk_drewN ?_ _ | refine blk_drew ?_ | refine blk_alloc ?_ _)); refine blk_far ?_ NB650_651.out _; (with_reducible repeat (first | refine blk_drewN ?_ _ | refine blk_drew ?_ | refine blk_alloc ?_ _)); refine blk_far ?_ NB650_651.out _; (with_reducible repeat (first | refine blk_drewN ?_ _ | refine blk_drew ?_ | refine blk_alloc ?_ _)); exact BK650.out) hb); have n3_ := Aside0.mk (blk_below (g := gb651) (o := .cells #[.string a0_0, .int .i64 a0_1, .slice none 0 0, .slice none 0 0, .string (⟨#[]⟩ : ByteArray), .string (⟨#[]⟩ : ByteArray), .string (⟨#[]⟩ : ByteArray), .int .i64 0, .int .i64 0, .int .i64 0, .bool false, .int .i64 0, .string (⟨#[]⟩ : ByteArray), .string (⟨#[]⟩ : ByteArray)] 65 (0, 0)) (by (with_reducible repeat (first | refine blk_drewN ?_ _ | refine blk_drew ?_ | refine blk_alloc ?_ _)); refine blk_put (cs := #[.string a0_0, .int .i64 0, .slice none 0 0, .slice none 0 0, .string (⟨#[]⟩ : ByteArray), .string (⟨#[]⟩ : ByteArray), .string (⟨#[]⟩ : ByteArray), .int .i64 0, .int .i64 0, .int .i64 0, .bool false, .int .i64 0, .string (⟨#[]⟩ : ByteArray), .string (⟨#[]⟩ : ByteArray)]) ?_ 1 _ rfl; (with_reducible repeat (first | refine blk_drewN ?_ _ | refine blk_drew ?_ | refine blk_alloc ?_ _)); refine blk_put (cs := #[.string (⟨#[]⟩ : ByteArray), .int .i64 0, .slice none 0 0, .slice none 0 0, .string (⟨#[]⟩ : ByteArray), .string (⟨#[]⟩ : ByteArray), .string (⟨#[]⟩ : ByteArray), .int .i64 0, .int .i64 0, .int .i64 0, .bool false, .int .i64 0, .string (⟨#[]⟩ : ByteArray), .string (⟨#[]⟩ : ByteArray)]) ?_ 0 _ rfl; (with_reducible repeat (first | refine blk_drewN ?_ _ | refine blk_drew ?_ | refine blk_alloc ?_ _)); exact BK651.out) hb); have n4_ := Aside0.mk (below_step au4 hb); clear BK649; clear BK650; clear BK651; clear HB; have HO654 := n0_; have BK649 := n1_; have BK650 := n2_; have BK651 := n3_; have HB := n4_; clear n0_ n1_ n2_ n3_ n4_; (try clear hb); (try clear hb2); (try clear hk); (try clear hi); (try clear ho0); obtain ⟨Ao14, co14, eo14⟩ := Kd.S_slice HO654.out; subst eo14; have hcz15_0 : w13.cell? ⟨gb651, 0, none⟩ = some (.string a0_0) := (blk_cell BK651.out 0).trans rfl; have hcz15_1 : w13.cell? ⟨gb651, 1, none⟩ = some (.int .i64 a0_1) := (blk_cell BK651.out 1).trans rfl; have hcz15_2 : w13.cell? ⟨gb651, 2, none⟩ = some (.slice none 0 0) := (blk_cell BK651.out 2).trans rfl; have hcz15_3 : w13.cell? ⟨gb651, 3, none⟩ = some (.slice none 0 0) := (blk_cell BK651.out 3).trans rfl; have hcz15_4 : w13.cell? ⟨gb651, 4, none⟩ = some (.string (⟨#[]⟩ : ByteArray)) := (blk_cell BK651.out 4).trans rfl; have hcz15_5 : w13.cell? ⟨gb651, 5, none⟩ = some (.string (⟨#[]⟩ : ByteArray)) := (blk_cell BK651.out 5).trans rfl; have hcz15_6 : w13.cell? ⟨gb651, 6, none⟩ = some (.string (⟨#[]⟩ : ByteArray)) := (blk_cell BK651.out 6).trans rfl; have hcz15_7 : w13.cell? ⟨gb651, 7, none⟩ = some (.int .i64 0) := (blk_cell BK651.out 7).trans rfl; have hcz15_8 : w13.cell? ⟨gb651, 8, none⟩ = some (.int .i64 0) := (blk_cell BK651.out 8).trans rfl; have hcz15_9 : w13.cell? ⟨gb651, 9, none⟩ = some (.int .i64 0) := (blk_cell BK651.out 9).trans rfl; have hcz15_10 : w13.cell? ⟨gb651, 10, none⟩ = some (.bool false) := (blk_cell BK651.out 10).trans rfl; have hcz15_11 : w13.cell? ⟨gb651, 11, none⟩ = some (.int .i64 0) := (blk_cell BK651.out 11).trans rfl; have hcz15_12 : w13.cell? ⟨gb651, 12, none⟩ = some (.string (⟨#[]⟩ : ByteArray)) := (blk_cell BK651.out 12).trans rfl; have hcz15_13 : w13.cell? ⟨gb651, 13, none⟩ = some (.string (⟨#[]⟩ : ByteArray)) := (blk_cell BK651.out 13).trans rfl; have hfz15_0 := blk_frozen BK651.out 0; have hfz15_1 := blk_frozen BK651.out 1; have hfz15_2 := blk_frozen BK651.out 2; have hfz15_3 := blk_frozen BK651.out 3; have hfz15_4 := blk_frozen BK651.out 4; have hfz15_5 := blk_frozen BK651.out 5; have hfz15_6 := blk_frozen BK651.out 6; have hfz15_7 := blk_frozen BK651.out 7; have hfz15_8 := blk_frozen BK651.out 8; have hfz15_9 := blk_frozen BK651.out 9; have hfz15_10 := blk_frozen BK651.out 10; have hfz15_11 := blk_frozen BK651.out 11; have hfz15_12 := blk_frozen BK651.out 12; have hfz15_13 := blk_frozen BK651.out 13; have hcz16_0 : w13.cell? ⟨gb649, 0, none⟩ = some (.string a0_0) := (blk_cell BK649.out 0).trans rfl; have hcz16_1 : w13.cell? ⟨gb649, 1, none⟩ = some (.int .i64 a0_1) := (blk_cell BK649.out 1).trans rfl; have hcz16_2 : w13.cell? ⟨gb649, 2, none⟩ = some (.slice A0_2 l0_2.length c0_2) := (blk_cell BK649.out 2).trans rfl; have hcz16_3 : w13.cell? ⟨gb649, 3, none⟩ = some (.slice A0_3 l0_3.length c0_3) := (blk_cell BK649.out 3).trans rfl; have hcz16_4 : w13.cell? ⟨gb649, 4, none⟩ = some (.string a0_4) := (blk_cell BK649.out 4).trans rfl; have hcz16_5 : w13.cell? ⟨gb649, 5, none⟩ = some (.string a0_5) := (blk_cell BK649.out 5).trans rfl; have hcz16_6 : w13.cell? ⟨gb649, 6, none⟩ = some (.string a0_6) := (blk_cell BK649.out 6).trans rfl; have hcz16_7 : w13.cell? ⟨gb649, 7, none⟩ = some (.int .i64 a0_7) := (blk_cell BK649.out 7).trans rfl; have hcz16_8 : w13.cell? ⟨gb649, 8, none⟩ = some (.int .i64 a0_8) := (blk_cell BK649.out 8).trans rfl; have hcz16_9 : w13.cell? ⟨gb649, 9, none⟩ = some (.int .i64 a0_9) := (blk_cell BK649.out 9).trans rfl; have hcz16_10 : w13.cell? ⟨gb649, 10, none⟩ = some (.bool a0_10) := (blk_cell BK649.out 10).trans rfl; have hcz16_11 : w13.cell? ⟨gb649, 11, none⟩ = some (.int .i64 a0_11) := (blk_cell BK649.out 11).trans rfl; have hcz16_12 : w13.cell? ⟨gb649, 12, none⟩ = some (.string a0_12) := (blk_cell BK649.out 12).trans rfl; have hcz16_13 : w13.cell? ⟨gb649, 13, none⟩ = some (.string a0_13) := (blk_cell BK649.out 13).trans rfl; have hfz16_0 := blk_frozen BK649.out 0; have hfz16_1 := blk_frozen BK649.out 1; have hfz16_2 := blk_frozen BK649.out 2; have hfz16_3 := blk_frozen BK649.out 3; have hfz16_4 := blk_frozen BK649.out 4; have hfz16_5 := blk_frozen BK649.out 5; have hfz16_6 := blk_frozen BK649.out 6; have hfz16_7 := blk_frozen BK649.out 7; have hfz16_8 := blk_frozen BK649.out 8; have hfz16_9 := blk_frozen BK649.out 9; have hfz16_10 := blk_frozen BK649.out 10; have hfz16_11 := blk_frozen BK649.out 11; have hfz16_12 := blk_frozen BK649.out 12; have hfz16_13 := blk_frozen BK649.out 13) | ((with_reducible refine gate_callee (f := 14) rfl ?_); refine goesL_ (some 16) rfl rfl Tryd.func14 (by kernel_rfl) rfl #[.slice A0_3 l0_3.length c0_3] rfl au30 ?_; (with_reducible refine (laws_toNameS.calls k _ _ l0_3 t655 _ ?side1 ?side2 A3.out).mono ?_); (case side1 => exact Kd.C_below HR0_3.out au4); (case side2 => exact HC0_3.out); rintro e w17 ⟨v656, rfl, ho0, hb⟩; refine ⟨_, rfl, ?_⟩; have n0_ := Aside0.mk (Kd.S_elder' au1 (Kd.S_base ho0) hb); have n1_ := Aside0.mk (Kd.S_lower (Kd.S_new' ho0 (Kd.S_lt au1)) (below_size au4)); have n2_ := Aside0.mk (blk_below (g := gb649) (o := .cells #[.string a0_0, .int .i64 a0_1, .slice A0_2 l0_2.length c0_2, .slice A0_3 l0_3.length c0_3, .string a0_4, .string a0_5, .string a0_6, .int .i64 a0_7, .int .i64 a0_8, .int .i64 a0_9, .bool a0_10, .int .i64 a0_11, .string a0_12, .string a0_13] 60 (0, 0)) (by (with_reducible repeat (first | refine blk_drewN ?_ _ | refine blk_drew ?_ | refine blk_alloc ?_ _)); refine blk_far ?_ NB649_651.out _; (with_reducible repeat (first | refine blk_drewN ?_ _ | refine blk_drew ?_ | refine blk_alloc ?_ _)); exact BK649.out) hb); have n3_ := Aside0.mk (blk_below (g := gb650) (o := .cells #[.string (⟨#[]⟩ : ByteArray), .int .i64 0, .slice none 0 0, .slice none 0 0, .string (⟨#[]⟩ : ByteArray), .string (⟨#[]⟩ : ByteArray), .string (⟨#[]⟩ : ByteArray), .int .i64 0, .int .i64 0, .int .i64 0, .bool false, .int .i64 0, .string (⟨#[]⟩ : ByteArray), .string (⟨#[]⟩ : ByteArray)] 65 (0, 0)) (by (with_reducible repeat (first | refine blk_drewN ?_ _ | refine blk_drew ?_ | refine blk_alloc ?_ _)); refine blk_far ?_ NB650_651.out _; (with_reducible repeat (first | refine blk_drewN ?_ _ | refine blk_drew ?_ | refine blk_alloc ?_ _)); exact BK650.out) hb); have n4_ := Aside0.mk (blk_below (g := gb651) (o := .cells #[.string a0_0, .int .i64 a0_1, .slice Ao14 t652.length co14, .slice none 0 0, .string (⟨#[]⟩ : ByteArray), .string (⟨#[]⟩ : ByteArray), .string (⟨#[]⟩ : ByteArray), .int .i64 0, .int .i64 0, .int .i64 0, .bool false, .int .i64 0, .string (⟨#[]⟩ : ByteArray), .string (⟨#[]⟩ : ByteArray)] 65 (0, 0)) (by (with_reducible repeat (first | refine blk_drewN ?_ _ | refine blk_drew ?_ | refine blk_alloc ?_ _)); refine blk_put (cs := #[.string a0_0, .int .i64 a0_1, .slice none 0 0, .slice none 0 0, .string (⟨#[]⟩ : ByteArray), .string (⟨#[]⟩ : ByteArray), .string (⟨#[]⟩ : ByteArray), .int .i64 0, .int .i64 0, .int .i64 0, .bool false, .int .i64 0, .string (⟨#[]⟩ : ByteArray), .string (⟨#[]⟩ : ByteArray)]) ?_ 2 _ rfl; (with_reducible repeat (first | refine blk_drewN ?_ _ | refine blk_drew ?_ | refine blk_alloc ?_ _)); exact BK651.out) hb); have n5_ := Aside0.mk (below_step au4 hb); clear HO654; clear BK649; clear BK650; clear BK651; clear HB; have HO654 := n0_; have HO657 := n1_; have BK649 := n2_; have BK650 := n3_; have BK651 := n4_; have HB := n5_; clear n0_ n1_ n2_ n3_ n4_ n5_; (try clear hb); (try clear hb2); (try clear hk); (try clear hi); (try clear ho0); obtain ⟨Ao18, co18, eo18⟩ := Kd.S_slice HO657.out; subst eo18; have hcz19_0 : w17.cell? ⟨gb651, 0, none⟩ = some (.string a0_0) := (blk_cell BK651.out 0).trans rfl; have hcz19_1 : w17.cell? ⟨gb651, 1, none⟩ = some (.int .i64 a0_1) := (blk_cell BK651.out 1).trans rfl; have hcz19_2 : w17.cell? ⟨gb651, 2, none⟩ = some (.slice Ao14 t652.length co14) := (blk_cell BK651.out 2).trans rfl; have hcz19_3 : w17.cell? ⟨gb651, 3, none⟩ = some (.slice none 0 0) := (blk_cell BK651.out 3).trans rfl; have hcz19_4 : w17.cell? ⟨gb651, 4, none⟩ = some (.string (⟨#[]⟩ : ByteArray)) := (blk_cell BK651.out 4).trans rfl; have hcz19_5 : w17.cell? ⟨gb651, 5, none⟩ = some (.string (⟨#[]⟩ : ByteArray)) := (blk_cell BK651.out 5).trans rfl; have hcz19_6 : w17.cell? ⟨gb651, 6, none⟩ = some (.string (⟨#[]⟩ : ByteArray)) := (blk_cell BK651.out 6).trans rfl; have hcz19_7 : w17.cell? ⟨gb651, 7, none⟩ = some (.int .i64 0) := (blk_cell BK651.out 7).trans rfl; have hcz19_8 : w17.cell? ⟨gb651, 8, none⟩ = some (.int .i64 0) := (blk_cell BK651.out 8).trans rfl; have hcz19_9 : w17.cell? ⟨gb651, 9, none⟩ = some (.int .i64 0) := (blk_cell BK651.out 9).trans rfl; have hcz19_10 : w17.cell? ⟨gb651, 10, none⟩ = some (.bool false) := (blk_cell BK651.out 10).trans rfl; have hcz19_11 : w17.cell? ⟨gb651, 11, none⟩ = some (.int .i64 0) := (blk_cell BK651.out 11).trans rfl; have hcz19_12 : w17.cell? ⟨gb651, 12, none⟩ = some (.string (⟨#[]⟩ : ByteArray)) := (blk_cell BK651.out 12).trans rfl; have hcz19_13 : w17.cell? ⟨gb651, 13, none⟩ = some (.string (⟨#[]⟩ : ByteArray)) := (blk_cell BK651.out 13).trans rfl; have hfz19_0 := blk_frozen BK651.out 0; have hfz19_1 := blk_frozen BK651.out 1; have hfz19_2 := blk_frozen BK651.out 2; have hfz19_3 := blk_frozen BK651.out 3; have hfz19_4 := blk_frozen BK651.out 4; have hfz19_5 := blk_frozen BK651.out 5; have hfz19_6 := blk_frozen BK651.out 6; have hfz19_7 := blk_frozen BK651.out 7; have hfz19_8 := blk_frozen BK651.out 8; have hfz19_9 := blk_frozen BK651.out 9; have hfz19_10 := blk_frozen BK651.out 10; have hfz19_11 := blk_frozen BK651.out 11; have hfz19_12 := blk_frozen BK651.out 12; have hfz19_13 := blk_frozen BK651.out 13; have hcz20_0 : w17.cell? ⟨gb649, 0, none⟩ = some (.string a0_0) := (blk_cell BK649.out 0).trans rfl; have hcz20_1 : w17.cell? ⟨gb649, 1, none⟩ = some (.int .i64 a0_1) := (blk_cell BK649.out 1).trans rfl; have hcz20_2 : w17.cell? ⟨gb649, 2, none⟩ = some (.slice A0_2 l0_2.length c0_2) := (blk_cell BK649.out 2).trans rfl; have hcz20_3 : w17.cell? ⟨gb649, 3, none⟩ = some (.slice A0_3 l0_3.length c0_3) := (blk_cell BK649.out 3).trans rfl; have hcz20_4 : w17.cell? ⟨gb649, 4, none⟩ = some (.string a0_4) := (blk_cell BK649.out 4).trans rfl; have hcz20_5 : w17.cell? ⟨gb649, 5, none⟩ = some (.string a0_5) := (blk_cell BK649.out 5).trans rfl; have hcz20_6 : w17.cell? ⟨gb649, 6, none⟩ = some (.string a0_6) := (blk_cell BK649.out 6).trans rfl; have hcz20_7 : w17.cell? ⟨gb649, 7, none⟩ = some (.int .i64 a0_7) := (blk_cell BK649.out 7).trans rfl; have hcz20_8 : w17.cell? ⟨gb649, 8, none⟩ = some (.int .i64 a0_8) := (blk_cell BK649.out 8).trans rfl; have hcz20_9 : w17.cell? ⟨gb649, 9, none⟩ = some (.int .i64 a0_9) := (blk_cell BK649.out 9).trans rfl; have hcz20_10 : w17.cell? ⟨gb649, 10, none⟩ = some (.bool a0_10) := (blk_cell BK649.out 10).trans rfl; have hcz20_11 : w17.cell? ⟨gb649, 11, none⟩ = some (.int .i64 a0_11) := (blk_cell BK649.out 11).trans rfl; have hcz20_12 : w17.cell? ⟨gb649, 12, none⟩ = some (.string a0_12) := (blk_cell BK649.out 12).trans rfl; have hcz20_13 : w17.cell? ⟨gb649, 13, none⟩ = some (.string a0_13) := (blk_cell BK649.out 13).trans rfl; have hfz20_0 := blk_frozen BK649.out 0; have hfz20_1 := blk_frozen BK649.out 1; have hfz20_2 := blk_frozen BK649.out 2; have hfz20_3 := blk_frozen BK649.out 3; have hfz20_4 := blk_frozen BK649.out 4; have hfz20_5 := blk_frozen BK649.out 5; have hfz20_6 := blk_frozen BK649.out 6; have hfz20_7 := blk_frozen BK649.out 7; have hfz20_8 := blk_frozen BK649.out 8; have hfz20_9 := blk_frozen BK649.out 9; have hfz20_10 := blk_frozen BK649.out 10; have hfz20_11 := blk_frozen BK649.out 11; have hfz20_12 := blk_frozen BK649.out 12; have hfz20_13 := blk_frozen BK649.out 13) | ((with_reducible refine gate_callee (f := 102) rfl ?_); refine goesL_ (some 29) rfl rfl Tryd.func102 (by kernel_rfl) rfl #[.agg #[.int .i64 a0_7, .int .i64 a0_8, .int .i64 a0_9, .bool a0_10]] rfl au30 ?_; (with_reducible refine (laws_toDate.calls a0_7 a0_8 a0_9 a0_10 t658 t659 t660 t661 _ A4.out).mono ?_); rintro e w21 ⟨rfl, hb⟩; refine ⟨_, rfl, ?_⟩; have n0_ := Aside0.mk (Kd.S_below (by (with_reducible repeat (first | apply Kd.S_alloc | apply Kd.S_drewN | apply Kd.S_drew)); exact (Kd.S_mono (Kd.S_far (p := ⟨gb651, 6, none⟩) (Kd.S_far (p := ⟨gb651, 5, none⟩) (Kd.S_far (p := ⟨gb651, 4, none⟩) (Kd.S_far (p := ⟨gb651, 3, none⟩) (Kd.S_types HO654.out BK651.out (by decide)) (fun _ hk => hk.2) (.slice Ao18 t655.length co18)) (fun _ hk => hk.2) (.string a0_4)) (fun _ hk => hk.2) (.string a0_5)) (fun _ hk => hk.2) (.string a0_6)) (fun _ h_ => h_.1))) hb); have n1_ := Aside0.mk (Kd.S_below (by (with_reducible repeat (first | apply Kd.S_alloc | apply Kd.S_drewN | apply Kd.S_drew)); exact (Kd.S_mono (Kd.S_far (p := ⟨gb651, 6, none⟩) (Kd.S_far (p := ⟨gb651, 5, none⟩) (Kd.S_far (p := ⟨gb651, 4, none⟩) (Kd.S_far (p := ⟨gb651, 3, none⟩) (Kd.S_types HO657.out BK651.out (by decide)) (fun _ hk => hk.2) (.slice Ao18 t655.length co18)) (fun _ hk => hk.2) (.string a0_4)) (fun _ hk => hk.2) (.string a0_5)) (fun _ hk => hk.2) (.string a0_6)) (fun _ h_ => h_.1))) hb); have n2_ := Aside0.mk (blk_below (g := gb649) (o := .cells #[.string a0_0, .int .i64 a0_1, .slice A0_2 l0_2.length c0_2, .slice A0_3 l0_3.length c0_3, .string a0_4, .string a0_5, .string a0_6, .int .i64 a0_7, .int .i64 a0_8, .int .i64 a0_9, .bool a0_10, .int .i64 a0_11, .string a0_12, .string a0_13] 60 (0, 0)) (by (with_reducible repeat (first | refine blk_drewN ?_ _ | refine blk_drew ?_ | refine blk_alloc ?_ _)); refine blk_far ?_ NB649_651.out _; (with_reducible repeat (first | refine blk_drewN ?_ _ | refine blk_drew ?_ | refine blk_alloc ?_ _)); refine blk_far ?_ NB649_651.out _; (with_reducible repeat (first | refine blk_drewN ?_ _ | refine blk_drew ?_ | refine blk_alloc ?_ _)); refine blk_far ?_ NB649_651.out _; (with_reducible repeat (first | refine blk_drewN ?_ _ | refine blk_drew ?_ | refine blk_alloc ?_ _)); refine blk_far ?_ NB649_651.out _; (with_reducible repeat (first | refine blk_drewN ?_ _ | refine blk_drew ?_ | refine blk_alloc ?_ _)); exact BK649.out) hb); have n3_ := Aside0.mk (blk_below (g := gb650) (o := .cells #[.string (⟨#[]⟩ : ByteArray), .int .i64 0, .slice none 0 0, .slice none 0 0, .string (⟨#[]⟩ : ByteArray), .string (⟨#[]⟩ : ByteArray), .string (⟨#[]⟩ : ByteArray), .int .i64 0, .int .i64 0, .int .i64 0, .bool false, .int .i64 0, .string (⟨#[]⟩ : ByteArray), .string (⟨#[]⟩ : ByteArray)] 65 (0, 0)) (by (with_reducible repeat (first | refine blk_drewN ?_ _ | refine blk_drew ?_ | refine blk_alloc ?_ _)); refine blk_far ?_ NB650_651.out _; (with_reducible repeat (first | refine blk_drewN ?_ _ | refine blk_drew ?_ | refine blk_alloc ?_ _)); refine blk_far ?_ NB650_651.out _; (with_reducible repeat (first | refine blk_drewN ?_ _ | refine blk_drew ?_ | refine blk_alloc ?_ _)); refine blk_far ?_ NB650_651.out _; (with_reducible repeat (first | refine blk_drewN ?_ _ | refine blk_drew ?_ | refine blk_alloc ?_ _)); refine blk_far ?_ NB650_651.out _; (with_reducible repeat (first | refine blk_drewN ?_ _ | refine blk_drew ?_ | refine blk_alloc ?_ _)); exact BK650.out) hb); have n4_ := Aside0.mk (blk_below (g := gb651) (o := .cells #[.string a0_0, .int .i64 a0_1, .slice Ao14 t652.length co14, .slice Ao18 t655.length co18, .string a0_4, .string a0_5, .string a0_6, .int .i64 0, .int .i64 0, .int .i64 0, .bool false, .int .i64 0, .string (⟨#[]⟩ : ByteArray), .string (⟨#[]⟩ : ByteArray)] 65 (0, 0)) (by (with_reducible repeat (first | refine blk_drewN ?_ _ | refine blk_drew ?_ | refine blk_alloc ?_ _)); refine blk_put (cs := #[.string a0_0, .int .i64 a0_1, .slice Ao14 t652.length co14, .slice Ao18 t655.length co18, .string a0_4, .string a0_5, .string (⟨#[]⟩ : ByteArray), .int .i64 0, .int .i64 0, .int .i64 0, .bool false, .int .i64 0, .string (⟨#[]⟩ : ByteArray), .string (⟨#[]⟩ : ByteArray)]) ?_ 6 _ rfl; (with_reducible repeat (first | refine blk_drewN ?_ _ | refine blk_drew ?_ | refine blk_alloc ?_ _)); refine blk_put (cs := #[.string a0_0, .int .i64 a0_1, .slice Ao14 t652.length co14, .slice Ao18 t655.length co18, .string a0_4, .string (⟨#[]⟩ : ByteArray), .string (⟨#[]⟩ : ByteArray), .int .i64 0, .int .i64 0, .int .i64 0, .bool false, .int .i64 0, .string (⟨#[]⟩ : ByteArray), .string (⟨#[]⟩ : ByteArray)]) ?_ 5 _ rfl; (with_reducible repeat (first | refine blk_drewN ?_ _ | refine blk_drew ?_ | refine blk_alloc ?_ _)); refine blk_put (cs := #[.string a0_0, .int .i64 a0_1, .slice Ao14 t652.length co14, .slice Ao18 t655.length co18, .string (⟨#[]⟩ : ByteArray), .string (⟨#[]⟩ : ByteArray), .string (⟨#[]⟩ : ByteArray), .int .i64 0, .int .i64 0, .int .i64 0, .bool false, .int .i64 0, .string (⟨#[]⟩ : ByteArray), .string (⟨#[]⟩ : ByteArray)]) ?_ 4 _ rfl; (with_reducible repeat (first | refine blk_drewN ?_ _ | refine blk_drew ?_ | refine blk_alloc ?_ _)); refine blk_put (cs := #[.string a0_0, .int .i64 a0_1, .slice Ao14 t652.length co14, .slice none 0 0, .string (⟨#[]⟩ : ByteArray), .string (⟨#[]⟩ : ByteArray), .string (⟨#[]⟩ : ByteArray), .int .i64 0, .int .i64 0, .int .i64 0, .bool false, .int .i64 0, .string (⟨#[]⟩ : ByteArray), .string (⟨#[]⟩ : ByteArray)]) ?_ 3 _ rfl; (with_reducible repeat (first | refine blk_drewN ?_ _ | refine blk_drew ?_ | refine blk_alloc ?_ _)); exact BK651.out) hb); have n5_ := Aside0.mk (below_step au4 hb); clear HO654; clear HO657; clear BK649; clear BK650; clear BK651; clear HB; have HO654 := n0_; have HO657 := n1_; have BK649 := n2_; have BK650 := n3_; have BK651 := n4_; have HB := n5_; clear n0_ n1_ n2_ n3_ n4_ n5_; (try clear hb); (try clear hb2); (try clear hk); (try clear hi); have hcz22_0 : w21.cell? ⟨gb651, 0, none⟩ = some (.string a0_0) := (blk_cell BK651.out 0).trans rfl; have hcz22_1 : w21.cell? ⟨gb651, 1, none⟩ = some (.int .i64 a0_1) := (blk_cell BK651.out 1).trans rfl; have hcz22_2 : w21.cell? ⟨gb651, 2, none⟩ = some (.slice Ao14 t652.length co14) := (blk_cell BK651.out 2).trans rfl; have hcz22_3 : w21.cell? ⟨gb651, 3, none⟩ = some (.slice Ao18 t655.length co18) := (blk_cell BK651.out 3).trans rfl; have hcz22_4 : w21.cell? ⟨gb651, 4, none⟩ = some (.string a0_4) := (blk_cell BK651.out 4).trans rfl; have hcz22_5 : w21.cell? ⟨gb651, 5, none⟩ = some (.string a0_5) := (blk_cell BK651.out 5).trans rfl; have hcz22_6 : w21.cell? ⟨gb651, 6, none⟩ = some (.string a0_6) := (blk_cell BK651.out 6).trans rfl; have hcz22_7 : w21.cell? ⟨gb651, 7, none⟩ = some (.int .i64 0) := (blk_cell BK651.out 7).trans rfl; have hcz22_8 : w21.cell? ⟨gb651, 8, none⟩ = some (.int .i64 0) := (blk_cell BK651.out 8).trans rfl; have hcz22_9 : w21.cell? ⟨gb651, 9, none⟩ = some (.int .i64 0) := (blk_cell BK651.out 9).trans rfl; have hcz22_10 : w21.cell? ⟨gb651, 10, none⟩ = some (.bool false) := (blk_cell BK651.out 10).trans rfl; have hcz22_11 : w21.cell? ⟨gb651, 11, none⟩ = some (.int .i64 0) := (blk_cell BK651.out 11).trans rfl; have hcz22_12 : w21.cell? ⟨gb651, 12, none⟩ = some (.string (⟨#[]⟩ : ByteArray)) := (blk_cell BK651.out 12).trans rfl; have hcz22_13 : w21.cell? ⟨gb651, 13, none⟩ = some (.string (⟨#[]⟩ : ByteArray)) := (blk_cell BK651.out 13).trans rfl; have hfz22_0 := blk_frozen BK651.out 0; have hfz22_1 := blk_frozen BK651.out 1; have hfz22_2 := blk_frozen BK651.out 2; have hfz22_3 := blk_frozen BK651.out 3; have hfz22_4 := blk_frozen BK651.out 4; have hfz22_5 := blk_frozen BK651.out 5; have hfz22_6 := blk_frozen BK651.out 6; have hfz22_7 := blk_frozen BK651.out 7; have hfz22_8 := blk_frozen BK651.out 8; have hfz22_9 := blk_frozen BK651.out 9; have hfz22_10 := blk_frozen BK651.out 10; have hfz22_11 := blk_frozen BK651.out 11; have hfz22_12 := blk_frozen BK651.out 12; have hfz22_13 := blk_frozen BK651.out 13; have hcz23_0 : w21.cell? ⟨gb649, 0, none⟩ = some (.string a0_0) := (blk_cell BK649.out 0).trans rfl; have hcz23_1 : w21.cell? ⟨gb649, 1, none⟩ = some (.int .i64 a0_1) := (blk_cell BK649.out 1).trans rfl; have hcz23_2 : w21.cell? ⟨gb649, 2, none⟩ = some (.slice A0_2 l0_2.length c0_2) := (blk_cell BK649.out 2).trans rfl; have hcz23_3 : w21.cell? ⟨gb649, 3, none⟩ = some (.slice A0_3 l0_3.length c0_3) := (blk_cell BK649.out 3).trans rfl; have hcz23_4 : w21.cell? ⟨gb649, 4, none⟩ = some (.string a0_4) := (blk_cell BK649.out 4).trans rfl; have hcz23_5 : w21.cell? ⟨gb649, 5, none⟩ = some (.string a0_5) := (blk_cell BK649.out 5).trans rfl; have hcz23_6 : w21.cell? ⟨gb649, 6, none⟩ = some (.string a0_6) := (blk_cell BK649.out 6).trans rfl; have hcz23_7 : w21.cell? ⟨gb649, 7, none⟩ = some (.int .i64 a0_7) := (blk_cell BK649.out 7).trans rfl; have hcz23_8 : w21.cell? ⟨gb649, 8, none⟩ = some (.int .i64 a0_8) := (blk_cell BK649.out 8).trans rfl; have hcz23_9 : w21.cell? ⟨gb649, 9, none⟩ = some (.int .i64 a0_9) := (blk_cell BK649.out 9).trans rfl; have hcz23_10 : w21.cell? ⟨gb649, 10, none⟩ = some (.bool a0_10) := (blk_cell BK649.out 10).trans rfl; have hcz23_11 : w21.cell? ⟨gb649, 11, none⟩ = some (.int .i64 a0_11) := (blk_cell BK649.out 11).trans rfl; have hcz23_12 : w21.cell? ⟨gb649, 12, none⟩ = some (.string a0_12) := (blk_cell BK649.out 12).trans rfl; have hcz23_13 : w21.cell? ⟨gb649, 13, none⟩ = some (.string a0_13) := (blk_cell BK649.out 13).trans rfl; have hfz23_0 := blk_frozen BK649.out 0; have hfz23_1 := blk_frozen BK649.out 1; have hfz23_2 := blk_frozen BK649.out 2; have hfz23_3 := blk_frozen BK649.out 3; have hfz23_4 := blk_frozen BK649.out 4; have hfz23_5 := blk_frozen BK649.out 5; have hfz23_6 := blk_frozen BK649.out 6; have hfz23_7 := blk_frozen BK649.out 7; have hfz23_8 := blk_frozen BK649.out 8; have hfz23_9 := blk_frozen BK649.out 9; have hfz23_10 := blk_frozen BK649.out 10; have hfz23_11 := blk_frozen BK649.out 11; have hfz23_12 := blk_frozen BK649.out 12; have hfz23_13 := blk_frozen BK649.out 13; have hcz24_0 : w21.cell? ⟨gb650, 0, none⟩ = some (.string (⟨#[]⟩ : ByteArray)) := (blk_cell BK650.out 0).trans rfl; have hcz24_1 : w21.cell? ⟨gb650, 1, none⟩ = some (.int .i64 0) := (blk_cell BK650.out 1).trans rfl; have hcz24_2 : w21.cell? ⟨gb650, 2, none⟩ = some (.slice none 0 0) := (blk_cell BK650.out 2).trans rfl; have hcz24_3 : w21.cell? ⟨gb650, 3, none⟩ = some (.slice none 0 0) := (blk_cell BK650.out 3).trans rfl; have hcz24_4 : w21.cell? ⟨gb650, 4, none⟩ = some (.string (⟨#[]⟩ : ByteArray)) := (blk_cell BK650.out 4).trans rfl; have hcz24_5 : w21.cell? ⟨gb650, 5, none⟩ = some (.string (⟨#[]⟩ : ByteArray)) := (blk_cell BK650.out 5).trans rfl; have hcz24_6 : w21.cell? ⟨gb650, 6, none⟩ = some (.string (⟨#[]⟩ : ByteArray)) := (blk_cell BK650.out 6).trans rfl; have hcz24_7 : w21.cell? ⟨gb650, 7, none⟩ = some (.int .i64 0) := (blk_cell BK650.out 7).trans rfl; have hcz24_8 : w21.cell? ⟨gb650, 8, none⟩ = some (.int .i64 0) := (blk_cell BK650.out 8).trans rfl; have hcz24_9 : w21.cell? ⟨gb650, 9, none⟩ = some (.int .i64 0) := (blk_cell BK650.out 9).trans rfl; have hcz24_10 : w21.cell? ⟨gb650, 10, none⟩ = some (.bool false) := (blk_cell BK650.out 10).trans rfl; have hcz24_11 : w21.cell? ⟨gb650, 11, none⟩ = some (.int .i64 0) := (blk_cell BK650.out 11).trans rfl; have hcz24_12 : w21.cell? ⟨gb650, 12, none⟩ = some (.string (⟨#[]⟩ : ByteArray)) := (blk_cell BK650.out 12).trans rfl; have hcz24_13 : w21.cell? ⟨gb650, 13, none⟩ = some (.string (⟨#[]⟩ : ByteArray)) := (blk_cell BK650.out 13).trans rfl; have hfz24_0 := blk_frozen BK650.out 0; have hfz24_1 := blk_frozen BK650.out 1; have hfz24_2 := blk_frozen BK650.out 2; have hfz24_3 := blk_frozen BK650.out 3; have hfz24_4 := blk_frozen BK650.out 4; have hfz24_5 := blk_frozen BK650.out 5; have hfz24_6 := blk_frozen BK650.out 6; have hfz24_7 := blk_frozen BK650.out 7; have hfz24_8 := blk_frozen BK650.out 8; have hfz24_9 := blk_frozen BK650.out 9; have hfz24_10 := blk_frozen BK650.out 10; have hfz24_11 := blk_frozen BK650.out 11; have hfz24_12 := blk_frozen BK650.out 12; have hfz24_13 := blk_frozen BK650.out 13))
 refine bodyPost_ret (results_cell_row rfl _ _ gb650 65 #[.string a0_0, .int .i64 a0_1, .slice Ao14 t652.length co14, .slice Ao18 t655.length co18, .string a0_4, .string a0_5, .string a0_6, .int .i64 t658, .int .i64 t659, .int .i64 t660, .bool t661, .int .i64 a0_11, .string a0_12, .string a0_13] (0, 0) _ rfl (by (with_reducible repeat (first | refine blk_drewN ?_ _ | refine blk_drew ?_ | refine blk_alloc ?_ _)); refine blk_put (cs := #[.string a0_0, .int .i64 a0_1, .slice Ao14 t652.length co14, .slice Ao18 t655.length co18, .string a0_4, .string a0_5, .string a0_6, .int .i64 t658, .int .i64 t659, .int .i64 t660, .bool t661, .int .i64 a0_11, .string a0_12, .string (⟨#[]⟩ : ByteArray)]) ?_ 13 _ rfl; (with_reducible repeat (first | refine blk_drewN ?_ _ | refine blk_drew ?_ | refine blk_alloc ?_ _)); refine blk_put (cs := #[.string a0_0, .int .i64 a0_1, .slice Ao14 t652.length co14, .slice Ao18 t655.length co18, .string a0_4, .string a0_5, .string a0_6, .int .i64 t658, .int .i64 t659, .int .i64 t660, .bool t661, .int .i64 a0_11, .string (⟨#[]⟩ : ByteArray), .string (⟨#[]⟩ : ByteArray)]) ?_ 12 _ rfl; (with_reducible repeat (first | refine blk_drewN ?_ _ | refine blk_drew ?_ | refine blk_alloc ?_ _)); refine blk_put (cs := #[.string a0_0, .int .i64 a0_1, .slice Ao14 t652.length co14, .slice Ao18 t655.length co18, .string a0_4, .string a0_5, .string a0_6, .int .i64 t658, .int .i64 t659, .int .i64 t660, .bool t661, .int .i64 0, .string (⟨#[]⟩ : ByteArray), .string (⟨#[]⟩ : ByteArray)]) ?_ 11 _ rfl; (with_reducible repeat (first | refine blk_drewN ?_ _ | refine blk_drew ?_ | refine blk_alloc ?_ _)); refine blk_put (cs := #[.string a0_0, .int .i64 a0_1, .slice Ao14 t652.length co14, .slice Ao18 t655.length co18, .string a0_4, .string a0_5, .string a0_6, .int .i64 t658, .int .i64 t659, .int .i64 t660, .bool false, .int .i64 0, .string (⟨#[]⟩ : ByteArray), .string (⟨#[]⟩ : ByteArray)]) ?_ 10 _ rfl; (with_reducible repeat (first | refine blk_drewN ?_ _ | refine blk_drew ?_ | refine blk_alloc ?_ _)); refine blk_put (cs := #[.string a0_0, .int .i64 a0_1, .slice Ao14 t652.length co14, .slice Ao18 t655.length co18, .string a0_4, .string a0_5, .string a0_6, .int .i64 t658, .int .i64 t659, .int .i64 0, .bool false, .int .i64 0, .string (⟨#[]⟩ : ByteArray), .string (⟨#[]⟩ : ByteArray)]) ?_ 9 _ rfl; (with_reducible repeat (first | refine blk_drewN ?_ _ | refine blk_drew ?_ | refine blk_alloc ?_ _)); refine blk_put (cs := #[.string a0_0, .int .i64 a0_1, .slice Ao14 t652.length co14, .slice Ao18 t655.length co18, .string a0_4, .string a0_5, .string a0_6, .int .i64 t658, .int .i64 0, .int .i64 0, .bool false, .int .i64 0, .string (⟨#[]⟩ : ByteArray), .string (⟨#[]⟩ : ByteArray)]) ?_ 8 _ rfl; (with_reducible repeat (first | refine blk_drewN ?_ _ | refine blk_drew ?_ | refine blk_alloc ?_ _)); refine blk_put (cs := #[.string a0_0, .int .i64 a0_1, .slice Ao14 t652.length co14, .slice Ao18 t655.length co18, .string a0_4, .string a0_5, .string a0_6, .int .i64 0, .int .i64 0, .int .i64 0, .bool false, .int .i64 0, .string (⟨#[]⟩ : ByteArray), .string (⟨#[]⟩ : ByteArray)]) ?_ 7 _ rfl; (with_reducible repeat (first | refine blk_drewN ?_ _ | refine blk_drew ?_ | refine blk_alloc ?_ _)); refine blk_put (cs := #[.string a0_0, .int .i64 a0_1, .slice Ao14 t652.length co14, .slice Ao18 t655.length co18, .string a0_4, .string a0_5, .string (⟨#[]⟩ : ByteArray), .int .i64 0, .int .i64 0, .int .i64 0, .bool false, .int .i64 0, .string (⟨#[]⟩ : ByteArray), .string (⟨#[]⟩ : ByteArray)]) ?_ 6 _ rfl; (with_reducible repeat (first | refine blk_drewN ?_ _ | refine blk_drew ?_ | refine blk_alloc ?_ _)); refine blk_put (cs := #[.string a0_0, .int .i64 a0_1, .slice Ao14 t652.length co14, .slice Ao18 t655.length co18, .string a0_4, .string (⟨#[]⟩ : ByteArray), .string (⟨#[]⟩ : ByteArray), .int .i64 0, .int .i64 0, .int .i64 0, .bool false, .int .i64 0, .string (⟨#[]⟩ : ByteArray), .string (⟨#[]⟩ : ByteArray)]) ?_ 5 _ rfl; (with_reducible repeat (first | refine blk_drewN ?_ _ | refine blk_drew ?_ | refine blk_alloc ?_ _)); refine blk_put (cs := #[.string a0_0, .int .i64 a0_1, .slice Ao14 t652.length co14, .slice Ao18 t655.length co18, .string (⟨#[]⟩ : ByteArray), .string (⟨#[]⟩ : ByteArray), .string (⟨#[]⟩ : ByteArray), .int .i64 0, .int .i64 0, .int .i64 0, .bool false, .int .i64 0, .string (⟨#[]⟩ : ByteArray), .string (⟨#[]⟩ : ByteArray)]) ?_ 4 _ rfl; (with_reducible repeat (first | refine blk_drewN ?_ _ | refine blk_drew ?_ | refine blk_alloc ?_ _)); refine blk_put (cs := #[.string a0_0, .int .i64 a0_1, .slice Ao14 t652.length co14, .slice none 0 0, .string (⟨#[]⟩ : ByteArray), .string (⟨#[]⟩ : ByteArray), .string (⟨#[]⟩ : ByteArray), .int .i64 0, .int .i64 0, .int .i64 0, .bool false, .int .i64 0, .string (⟨#[]⟩ : ByteArray), .string (⟨#[]⟩ : ByteArray)]) ?_ 3 _ rfl; (with_reducible repeat (first | refine blk_drewN ?_ _ | refine blk_drew ?_ | refine blk_alloc ?_ _)); refine blk_put (cs := #[.string a0_0, .int .i64 a0_1, .slice none 0 0, .slice none 0 0, .string (⟨#[]⟩ : ByteArray), .string (⟨#[]⟩ : ByteArray), .string (⟨#[]⟩ : ByteArray), .int .i64 0, .int .i64 0, .int .i64 0, .bool false, .int .i64 0, .string (⟨#[]⟩ : ByteArray), .string (⟨#[]⟩ : ByteArray)]) ?_ 2 _ rfl; (with_reducible repeat (first | refine blk_drewN ?_ _ | refine blk_drew ?_ | refine blk_alloc ?_ _)); refine blk_put (cs := #[.string a0_0, .int .i64 0, .slice none 0 0, .slice none 0 0, .string (⟨#[]⟩ : ByteArray), .string (⟨#[]⟩ : ByteArray), .string (⟨#[]⟩ : ByteArray), .int .i64 0, .int .i64 0, .int .i64 0, .bool false, .int .i64 0, .string (⟨#[]⟩ : ByteArray), .string (⟨#[]⟩ : ByteArray)]) ?_ 1 _ rfl; (with_reducible repeat (first | refine blk_drewN ?_ _ | refine blk_drew ?_ | refine blk_alloc ?_ _)); refine blk_put (cs := #[.string (⟨#[]⟩ : ByteArray), .int .i64 0, .slice none 0 0, .slice none 0 0, .string (⟨#[]⟩ : ByteArray), .string (⟨#[]⟩ : ByteArray), .string (⟨#[]⟩ : ByteArray), .int .i64 0, .int .i64 0, .int .i64 0, .bool false, .int .i64 0, .string (⟨#[]⟩ : ByteArray), .string (⟨#[]⟩ : ByteArray)]) ?_ 0 _ rfl; (with_reducible repeat (first | refine blk_drewN ?_ _ | refine blk_drew ?_ | refine blk_alloc ?_ _)); refine blk_far ?_ NB650_651.out _; (with_reducible repeat (first | refine blk_drewN ?_ _ | refine blk_drew ?_ | refine blk_alloc ?_ _)); refine blk_far ?_ NB650_651.out _; (with_reducible repeat (first | refine blk_drewN ?_ _ | refine blk_drew ?_ | refine blk_alloc ?_ _)); refine blk_far ?_ NB650_651.out _; (with_reducible repeat (first | refine blk_drewN ?_ _ | refine blk_drew ?_ | refine blk_alloc ?_ _)); refine blk_far ?_ NB650_651.out _; (with_reducible repeat (first | refine blk_drewN ?_ _ | refine blk_drew ?_ | refine blk_alloc ?_ _)); refine blk_far ?_ NB650_651.out _; (with_reducible repeat (first | refine blk_drewN ?_ _ | refine blk_drew ?_ | refine blk_alloc ?_ _)); refine blk_far ?_ NB650_651.out _; (with_reducible repeat (first | refine blk_drewN ?_ _ | refine blk_drew ?_ | refine blk_alloc ?_ _)); refine blk_far ?_ NB650_651.out _; (with_reducible repeat (first | refine blk_drewN ?_ _ | refine blk_drew ?_ | refine blk_alloc ?_ _)); exact BK650.out) Tryd.underlying65 rfl (by kernel_rfl)) rfl ?_
 exact ⟨_, _, by first | rfl | (simp [errW_none, errW_some] <;> rfl) | (simp [*, errW_none, errW_some] <;> rfl), by (with_reducible repeat (first | apply Kd.S_alloc | apply Kd.S_drewN | apply Kd.S_drew)); exact Kd.S_mono (Kd.S_far (p := ⟨gb650, 13, none⟩) (Kd.S_far (p := ⟨gb650, 12, none⟩) (Kd.S_far (p := ⟨gb650, 11, none⟩) (Kd.S_far (p := ⟨gb650, 10, none⟩) (Kd.S_far (p := ⟨gb650, 9, none⟩) (Kd.S_far (p := ⟨gb650, 8, none⟩) (Kd.S_far (p := ⟨gb650, 7, none⟩) (Kd.S_far (p := ⟨gb650, 6, none⟩) (Kd.S_far (p := ⟨gb650, 5, none⟩) (Kd.S_far (p := ⟨gb650, 4, none⟩) (Kd.S_far (p := ⟨gb650, 3, none⟩) (Kd.S_far (p := ⟨gb650, 2, none⟩) (Kd.S_far (p := ⟨gb650, 1, none⟩) (Kd.S_far (p := ⟨gb650, 0, none⟩) (Kd.S_far (p := ⟨gb651, 13, none⟩) (Kd.S_far (p := ⟨gb651, 12, none⟩) (Kd.S_far (p := ⟨gb651, 11, none⟩) (Kd.S_far (p := ⟨gb651, 10, none⟩) (Kd.S_far (p := ⟨gb651, 9, none⟩) (Kd.S_far (p := ⟨gb651, 8, none⟩) (Kd.S_far (p := ⟨gb651, 7, none⟩) (Kd.S_types (Kd.S_types HO654.out BK651.out (by decide)) BK650.out (by decide)) (fun _ hk => hk.1.2) (.int .i64 t658)) (fun _ hk => hk.1.2) (.int .i64 t659)) (fun _ hk => hk.1.2) (.int .i64 t660)) (fun _ hk => hk.1.2) (.bool t661)) (fun _ hk => hk.1.2) (.int .i64 a0_11)) (fun _ hk => hk.1.2) (.string a0_12)) (fun _ hk => hk.1.2) (.string a0_13)) (fun _ hk => hk.2) (.string a0_0)) (fun _ hk => hk.2) (.int .i64 a0_1)) (fun _ hk => hk.2) (.slice Ao14 t652.length co14)) (fun _ hk => hk.2) (.slice Ao18 t655.length co18)) (fun _ hk => hk.2) (.string a0_4)) (fun _ hk => hk.2) (.string a0_5)) (fun _ hk => hk.2) (.string a0_6)) (fun _ hk => hk.2) (.int .i64 t658)) (fun _ hk => hk.2) (.int .i64 t659)) (fun _ hk => hk.2) (.int .i64 t660)) (fun _ hk => hk.2) (.bool t661)) (fun _ hk => hk.2) (.int .i64 a0_11)) (fun _ hk => hk.2) (.string a0_12)) (fun _ hk => hk.2) (.string a0_13)) (fun _ hk => hk.1.1.2), by (with_reducible repeat (first | apply Kd.S_alloc | apply Kd.S_drewN | apply Kd.S_drew)); exact Kd.S_mono (Kd.S_far (p := ⟨gb650, 13, none⟩) (Kd.S_far (p := ⟨gb650, 12, none⟩) (Kd.S_far (p := ⟨gb650, 11, none⟩) (Kd.S_far (p := ⟨gb650, 10, none⟩) (Kd.S_far (p := ⟨gb650, 9, none⟩) (Kd.S_far (p := ⟨gb650, 8, none⟩) (Kd.S_far (p := ⟨gb650, 7, none⟩) (Kd.S_far (p := ⟨gb650, 6, none⟩) (Kd.S_far (p := ⟨gb650, 5, none⟩) (Kd.S_far (p := ⟨gb650, 4, none⟩) (Kd.S_far (p := ⟨gb650, 3, none⟩) (Kd.S_far (p := ⟨gb650, 2, none⟩) (Kd.S_far (p := ⟨gb650, 1, none⟩) (Kd.S_far (p := ⟨gb650, 0, none⟩) (Kd.S_far (p := ⟨gb651, 13, none⟩) (Kd.S_far (p := ⟨gb651, 12, none⟩) (Kd.S_far (p := ⟨gb651, 11, none⟩) (Kd.S_far (p := ⟨gb651, 10, none⟩) (Kd.S_far (p := ⟨gb651, 9, none⟩) (Kd.S_far (p := ⟨gb651, 8, none⟩) (Kd.S_far (p := ⟨gb651, 7, none⟩) (Kd.S_types (Kd.S_types HO657.out BK651.out (by decide)) BK650.out (by decide)) (fun _ hk => hk.1.2) (.int .i64 t658)) (fun _ hk => hk.1.2) (.int .i64 t659)) (fun _ hk => hk.1.2) (.int .i64 t660)) (fun _ hk => hk.1.2) (.bool t661)) (fun _ hk => hk.1.2) (.int .i64 a0_11)) (fun _ hk => hk.1.2) (.string a0_12)) (fun _ hk => hk.1.2) (.string a0_13)) (fun _ hk => hk.2) (.string a0_0)) (fun _ hk => hk.2) (.int .i64 a0_1)) (fun _ hk => hk.2) (.slice Ao14 t652.length co14)) (fun _ hk => hk.2) (.slice Ao18 t655.length co18)) (fun _ hk => hk.2) (.string a0_4)) (fun _ hk => hk.2) (.string a0_5)) (fun _ hk => hk.2) (.string a0_6)) (fun _ hk => hk.2) (.int .i64 t658)) (fun _ hk => hk.2) (.int .i64 t659)) (fun _ hk => hk.2) (.int .i64 t660)) (fun _ hk => hk.2) (.bool t661)) (fun _ hk => hk.2) (.int .i64 a0_11)) (fun _ hk => hk.2) (.string a0_12)) (fun _ hk => hk.2) (.string a0_13)) (fun _ hk => hk.1.1.2), by repeat (first | (with_reducible first | exact HB.out | apply below_alloc | apply pw_below_drewN | apply below_drew1 | refine below_set ?_ GE649.out | refine below_set ?_ GE650.out | refine below_set ?_ GE651.out) | exact HB.out)⟩

end Go.Proofs.YtcckamdpncbkoabDoor.G
