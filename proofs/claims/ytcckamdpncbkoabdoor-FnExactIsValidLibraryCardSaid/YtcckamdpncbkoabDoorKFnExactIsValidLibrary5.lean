/- Texts of this session for the law FnExactIsValidLibrary, put together by a program (merge.py): each ends with its namespace; conditions stand with each theorem. -/
import Derived.Test.YtcckamdpncbkoabDoorKFnExactIsValidLibrary2
import Derived.Test.YtcckamdpncbkoabDoorKFnExactIsValidLibrary4
namespace Go.Proofs.YtcckamdpncbkoabDoor.G
open Go.RowKit Go.Proofs.YtcckamdpncbkoabDoorW.PrintWords Go.Proofs.YtcckamdpncbkoabDoorW.PrintLast Go.Proofs.YtcckamdpncbkoabDoorW.PrintMore
open Go.Proofs.YtcckamdpncbkoabDoor.Gl Go.Proofs.YtcckamdpncbkoabDoor.Ext
attribute [local go_sem] max2_int min2_int max_two min_two max_three min_three max_four min_four   -- for this text's walks alone
set_option linter.unusedVariables false
set_option linter.unusedSimpArgs false

/-! ### impl_IsValidEntry: function 44 -/
def impl_IsValidEntry.j0 : Nat → Bool → ByteArray → Int → List (S34) → List (S34) → ByteArray → ByteArray → ByteArray → Int → Int → Int → Bool → Int → ByteArray → ByteArray → Option (Bool)
 | 0, _, _, _, _, _, _, _, _, _, _, _, _, _, _, _ => none
 | k + 1, x36, x679000, x679001, x679002, x679003, x679004, x679005, x679006, x679007, x679008, x679009, x679010, x679011, x679012, x679013 => if x36 = true then (some false) else ((impl_isText.f k x679004).bind fun t685 => (if t685 = true then ((impl_isText.f k x679005).bind fun t686 => (if t686 = true then ((impl_isText.f k x679006).bind fun t687 => (if t687 = true then ((impl_isText.f k x679012).bind fun t688 => (if t688 = true then (if x679013.toList = ([] : List UInt8) then (some true) else ((impl_isKey.f k x679013).bind fun t689 => (if t689 = true then (some (x679013.toList != x679000.toList)) else (some false)))) else (some false))) else (some false))) else (some false))) else (some false)))
def impl_IsValidEntry.f (k : Nat) (a0_0 : ByteArray) (a0_1 : Int) (l0_2 : List (S34)) (l0_3 : List (S34)) (a0_4 : ByteArray) (a0_5 : ByteArray) (a0_6 : ByteArray) (a0_7 : Int) (a0_8 : Int) (a0_9 : Int) (a0_10 : Bool) (a0_11 : Int) (a0_12 : ByteArray) (a0_13 : ByteArray) : Option (Bool) := (impl_isKey.f k a0_0).bind fun t679 => (if t679 = true then ((impl_isKind.f a0_1).bind fun t680 => (if t680 = true then ((impl_areNames.f k l0_2).bind fun t681 => (if t681 = true then ((impl_areNames.f k l0_3).bind fun t682 => (if t682 = true then ((impl_IsValidDate.f k a0_7 a0_8 a0_9 a0_10).bind fun t683 => (if t683 = true then ((impl_inside.f a0_11 0 9999).bind fun t684 => (impl_IsValidEntry.j0 k (!t684) a0_0 a0_1 l0_2 l0_3 a0_4 a0_5 a0_6 a0_7 a0_8 a0_9 a0_10 a0_11 a0_12 a0_13)) else (impl_IsValidEntry.j0 k true a0_0 a0_1 l0_2 l0_3 a0_4 a0_5 a0_6 a0_7 a0_8 a0_9 a0_10 a0_11 a0_12 a0_13))) else (impl_IsValidEntry.j0 k true a0_0 a0_1 l0_2 l0_3 a0_4 a0_5 a0_6 a0_7 a0_8 a0_9 a0_10 a0_11 a0_12 a0_13))) else (impl_IsValidEntry.j0 k true a0_0 a0_1 l0_2 l0_3 a0_4 a0_5 a0_6 a0_7 a0_8 a0_9 a0_10 a0_11 a0_12 a0_13))) else (impl_IsValidEntry.j0 k true a0_0 a0_1 l0_2 l0_3 a0_4 a0_5 a0_6 a0_7 a0_8 a0_9 a0_10 a0_11 a0_12 a0_13))) else (impl_IsValidEntry.j0 k true a0_0 a0_1 l0_2 l0_3 a0_4 a0_5 a0_6 a0_7 a0_8 a0_9 a0_10 a0_11 a0_12 a0_13))
theorem impl_IsValidEntry.mono_l : ∀ k, (∀ y0 y1 y2 y3 y4 y5 y6 y7 y8 y9 y10 y11 y12 y13 y14, LeO (impl_IsValidEntry.j0 k y0 y1 y2 y3 y4 y5 y6 y7 y8 y9 y10 y11 y12 y13 y14) (impl_IsValidEntry.j0 (k + 1) y0 y1 y2 y3 y4 y5 y6 y7 y8 y9 y10 y11 y12 y13 y14))
 | 0 => fun _ _ _ _ _ _ _ _ _ _ _ _ _ _ _ r h => by simp [impl_IsValidEntry.j0] at h
 | k + 1 => by
  have ih0 := impl_IsValidEntry.mono_l k
  ·
   intro y0 y1 y2 y3 y4 y5 y6 y7 y8 y9 y10 y11 y12 y13 y14
   unfold impl_IsValidEntry.j0
   repeat' first
   | (with_reducible exact ih0 _ _ _ _ _ _ _ _ _ _ _ _ _ _ _)
   | (with_reducible exact impl_IsValidDate.mono _ _ _ _ _)
   | (with_reducible exact impl_areNames.mono _ _)
   | (with_reducible exact impl_isKey.mono _ _)
   | (with_reducible exact impl_isText.mono _ _)
   | (with_reducible exact LeO.refl _)
   | (with_reducible exact LeO.none _)
   | (with_reducible refine LeO.ite ?_ ?_)
   | (with_reducible refine LeO.bind ?_ (fun _ => ?_))
   | exact ih0 _ _ _ _ _ _ _ _ _ _ _ _ _ _ _
   | exact impl_IsValidDate.mono _ _ _ _ _
   | exact impl_areNames.mono _ _
   | exact impl_isKey.mono _ _
   | exact impl_isText.mono _ _
   | exact LeO.none _
   | refine LeO.ite ?_ ?_
   | refine LeO.bind ?_ (fun _ => ?_)
theorem impl_IsValidEntry.mono : ∀ a0 a1 a2 a3 a4 a5 a6 a7 a8 a9 a10 a11 a12 a13 k, LeO (impl_IsValidEntry.f k a0 a1 a2 a3 a4 a5 a6 a7 a8 a9 a10 a11 a12 a13) (impl_IsValidEntry.f (k + 1) a0 a1 a2 a3 a4 a5 a6 a7 a8 a9 a10 a11 a12 a13) := by
 intro a0 a1 a2 a3 a4 a5 a6 a7 a8 a9 a10 a11 a12 a13 k
 have ih0 := impl_IsValidEntry.mono_l k
 unfold impl_IsValidEntry.f
 repeat' first
   | (with_reducible exact ih0 _ _ _ _ _ _ _ _ _ _ _ _ _ _ _)
   | (with_reducible exact impl_IsValidDate.mono _ _ _ _ _)
   | (with_reducible exact impl_areNames.mono _ _)
   | (with_reducible exact impl_isKey.mono _ _)
   | (with_reducible exact impl_isText.mono _ _)
   | (with_reducible exact LeO.refl _)
   | (with_reducible exact LeO.none _)
   | (with_reducible refine LeO.ite ?_ ?_)
   | (with_reducible refine LeO.bind ?_ (fun _ => ?_))
   | exact ih0 _ _ _ _ _ _ _ _ _ _ _ _ _ _ _
   | exact impl_IsValidDate.mono _ _ _ _ _
   | exact impl_areNames.mono _ _
   | exact impl_isKey.mono _ _
   | exact impl_isText.mono _ _
   | exact LeO.none _
   | refine LeO.ite ?_ ?_
   | refine LeO.bind ?_ (fun _ => ?_)
set_option maxRecDepth 100000 in
theorem impl_IsValidEntry.L0 {P : Prop} (h : P := by
  have hcz57_0 : wc.cell? ⟨gb678, 0, none⟩ = some (.string a0_0) := (blk_cell BK678.out 0).trans rfl
  have hcz57_1 : wc.cell? ⟨gb678, 1, none⟩ = some (.int .i64 a0_1) := (blk_cell BK678.out 1).trans rfl
  have hcz57_2 : wc.cell? ⟨gb678, 2, none⟩ = some (.slice A0_2 l0_2.length c0_2) := (blk_cell BK678.out 2).trans rfl
  have hcz57_3 : wc.cell? ⟨gb678, 3, none⟩ = some (.slice A0_3 l0_3.length c0_3) := (blk_cell BK678.out 3).trans rfl
  have hcz57_4 : wc.cell? ⟨gb678, 4, none⟩ = some (.string a0_4) := (blk_cell BK678.out 4).trans rfl
  have hcz57_5 : wc.cell? ⟨gb678, 5, none⟩ = some (.string a0_5) := (blk_cell BK678.out 5).trans rfl
  have hcz57_6 : wc.cell? ⟨gb678, 6, none⟩ = some (.string a0_6) := (blk_cell BK678.out 6).trans rfl
  have hcz57_7 : wc.cell? ⟨gb678, 7, none⟩ = some (.int .i64 a0_7) := (blk_cell BK678.out 7).trans rfl
  have hcz57_8 : wc.cell? ⟨gb678, 8, none⟩ = some (.int .i64 a0_8) := (blk_cell BK678.out 8).trans rfl
  have hcz57_9 : wc.cell? ⟨gb678, 9, none⟩ = some (.int .i64 a0_9) := (blk_cell BK678.out 9).trans rfl
  have hcz57_10 : wc.cell? ⟨gb678, 10, none⟩ = some (.bool a0_10) := (blk_cell BK678.out 10).trans rfl
  have hcz57_11 : wc.cell? ⟨gb678, 11, none⟩ = some (.int .i64 a0_11) := (blk_cell BK678.out 11).trans rfl
  have hcz57_12 : wc.cell? ⟨gb678, 12, none⟩ = some (.string a0_12) := (blk_cell BK678.out 12).trans rfl
  have hcz57_13 : wc.cell? ⟨gb678, 13, none⟩ = some (.string a0_13) := (blk_cell BK678.out 13).trans rfl
  have hfz57_0 := blk_frozen BK678.out 0
  have hfz57_1 := blk_frozen BK678.out 1
  have hfz57_2 := blk_frozen BK678.out 2
  have hfz57_3 := blk_frozen BK678.out 3
  have hfz57_4 := blk_frozen BK678.out 4
  have hfz57_5 := blk_frozen BK678.out 5
  have hfz57_6 := blk_frozen BK678.out 6
  have hfz57_7 := blk_frozen BK678.out 7
  have hfz57_8 := blk_frozen BK678.out 8
  have hfz57_9 := blk_frozen BK678.out 9
  have hfz57_10 := blk_frozen BK678.out 10
  have hfz57_11 := blk_frozen BK678.out 11
  have hfz57_12 := blk_frozen BK678.out 12
  have hfz57_13 := blk_frozen BK678.out 13
  go_wp2_with (first | ((with_reducible refine gate_callee (f := 107) rfl ?_); refine goesL_ (some 39) rfl rfl Tryd.func107 (by kernel_rfl) rfl #[.string a0_4] rfl au30 ?_; (with_reducible refine (impl_isText.calls kj1 a0_4 _ _ A37.out).mono ?_); rintro e w58 ⟨rfl, hb⟩; refine ⟨_, rfl, ?_⟩; have n0_ := Aside0.mk (blk_below (g := gb678) (o := .cells #[.string a0_0, .int .i64 a0_1, .slice A0_2 l0_2.length c0_2, .slice A0_3 l0_3.length c0_3, .string a0_4, .string a0_5, .string a0_6, .int .i64 a0_7, .int .i64 a0_8, .int .i64 a0_9, .bool a0_10, .int .i64 a0_11, .string a0_12, .string a0_13] 65 (0, 0)) au46 hb); have n1_ := Aside0.mk (below_step au23 hb); clear BK678; clear HB; have BK678 := n0_; have HB := n1_; clear n0_ n1_; (try clear hb); (try clear hb2); (try clear hk); (try clear hi); have hcz59_0 : w58.cell? ⟨gb678, 0, none⟩ = some (.string a0_0) := (blk_cell BK678.out 0).trans rfl; have hcz59_1 : w58.cell? ⟨gb678, 1, none⟩ = some (.int .i64 a0_1) := (blk_cell BK678.out 1).trans rfl; have hcz59_2 : w58.cell? ⟨gb678, 2, none⟩ = some (.slice A0_2 l0_2.length c0_2) := (blk_cell BK678.out 2).trans rfl; have hcz59_3 : w58.cell? ⟨gb678, 3, none⟩ = some (.slice A0_3 l0_3.length c0_3) := (blk_cell BK678.out 3).trans rfl; have hcz59_4 : w58.cell? ⟨gb678, 4, none⟩ = some (.string a0_4) := (blk_cell BK678.out 4).trans rfl; have hcz59_5 : w58.cell? ⟨gb678, 5, none⟩ = some (.string a0_5) := (blk_cell BK678.out 5).trans rfl; have hcz59_6 : w58.cell? ⟨gb678, 6, none⟩ = some (.string a0_6) := (blk_cell BK678.out 6).trans rfl; have hcz59_7 : w58.cell? ⟨gb678, 7, none⟩ = some (.int .i64 a0_7) := (blk_cell BK678.out 7).trans rfl; have hcz59_8 : w58.cell? ⟨gb678, 8, none⟩ = some (.int .i64 a0_8) := (blk_cell BK678.out 8).trans rfl; have hcz59_9 : w58.cell? ⟨gb678, 9, none⟩ = some (.int .i64 a0_9) := (blk_cell BK678.out 9).trans rfl; have hcz59_10 : w58.cell? ⟨gb678, 10, none⟩ = some (.bool a0_10) := (blk_cell BK678.out 10).trans rfl; have hcz59_11 : w58.cell? ⟨gb678, 11, none⟩ = some (.int .i64 a0_11) := (blk_cell BK678.out 11).trans rfl; have hcz59_12 : w58.cell? ⟨gb678, 12, none⟩ = some (.string a0_12) := (blk_cell BK678.out 12).trans rfl; have hcz59_13 : w58.cell? ⟨gb678, 13, none⟩ = some (.string a0_13) := (blk_cell BK678.out 13).trans rfl; have hfz59_0 := blk_frozen BK678.out 0; have hfz59_1 := blk_frozen BK678.out 1; have hfz59_2 := blk_frozen BK678.out 2; have hfz59_3 := blk_frozen BK678.out 3; have hfz59_4 := blk_frozen BK678.out 4; have hfz59_5 := blk_frozen BK678.out 5; have hfz59_6 := blk_frozen BK678.out 6; have hfz59_7 := blk_frozen BK678.out 7; have hfz59_8 := blk_frozen BK678.out 8; have hfz59_9 := blk_frozen BK678.out 9; have hfz59_10 := blk_frozen BK678.out 10; have hfz59_11 := blk_frozen BK678.out 11; have hfz59_12 := blk_frozen BK678.out 12; have hfz59_13 := blk_frozen BK678.out 13) | (go_at_call 107; (with_reducible refine (impl_isText.calls kj1 a0_5 _ _ A39.out).mono ?_); rintro e w60 ⟨rfl, hb⟩; have n0_ := Aside0.mk (blk_below (g := gb678) (o := .cells #[.string a0_0, .int .i64 a0_1, .slice A0_2 l0_2.length c0_2, .slice A0_3 l0_3.length c0_3, .string a0_4, .string a0_5, .string a0_6, .int .i64 a0_7, .int .i64 a0_8, .int .i64 a0_9, .bool a0_10, .int .i64 a0_11, .string a0_12, .string a0_13] 65 (0, 0)) au46 hb); have n1_ := Aside0.mk (below_step au23 hb); clear BK678; clear HB; have BK678 := n0_; have HB := n1_; clear n0_ n1_; (try clear hb); (try clear hb2); (try clear hk); (try clear hi); have hcz61_0 : w60.cell? ⟨gb678, 0, none⟩ = some (.string a0_0) := (blk_cell BK678.out 0).trans rfl; have hcz61_1 : w60.cell? ⟨gb678, 1, none⟩ = some (.int .i64 a0_1) := (blk_cell BK678.out 1).trans rfl; have hcz61_2 : w60.cell? ⟨gb678, 2, none⟩ = some (.slice A0_2 l0_2.length c0_2) := (blk_cell BK678.out 2).trans rfl; have hcz61_3 : w60.cell? ⟨gb678, 3, none⟩ = some (.slice A0_3 l0_3.length c0_3) := (blk_cell BK678.out 3).trans rfl; have hcz61_4 : w60.cell? ⟨gb678, 4, none⟩ = some (.string a0_4) := (blk_cell BK678.out 4).trans rfl; have hcz61_5 : w60.cell? ⟨gb678, 5, none⟩ = some (.string a0_5) := (blk_cell BK678.out 5).trans rfl; have hcz61_6 : w60.cell? ⟨gb678, 6, none⟩ = some (.string a0_6) := (blk_cell BK678.out 6).trans rfl; have hcz61_7 : w60.cell? ⟨gb678, 7, none⟩ = some (.int .i64 a0_7) := (blk_cell BK678.out 7).trans rfl; have hcz61_8 : w60.cell? ⟨gb678, 8, none⟩ = some (.int .i64 a0_8) := (blk_cell BK678.out 8).trans rfl; have hcz61_9 : w60.cell? ⟨gb678, 9, none⟩ = some (.int .i64 a0_9) := (blk_cell BK678.out 9).trans rfl; have hcz61_10 : w60.cell? ⟨gb678, 10, none⟩ = some (.bool a0_10) := (blk_cell BK678.out 10).trans rfl; have hcz61_11 : w60.cell? ⟨gb678, 11, none⟩ = some (.int .i64 a0_11) := (blk_cell BK678.out 11).trans rfl; have hcz61_12 : w60.cell? ⟨gb678, 12, none⟩ = some (.string a0_12) := (blk_cell BK678.out 12).trans rfl; have hcz61_13 : w60.cell? ⟨gb678, 13, none⟩ = some (.string a0_13) := (blk_cell BK678.out 13).trans rfl; have hfz61_0 := blk_frozen BK678.out 0; have hfz61_1 := blk_frozen BK678.out 1; have hfz61_2 := blk_frozen BK678.out 2; have hfz61_3 := blk_frozen BK678.out 3; have hfz61_4 := blk_frozen BK678.out 4; have hfz61_5 := blk_frozen BK678.out 5; have hfz61_6 := blk_frozen BK678.out 6; have hfz61_7 := blk_frozen BK678.out 7; have hfz61_8 := blk_frozen BK678.out 8; have hfz61_9 := blk_frozen BK678.out 9; have hfz61_10 := blk_frozen BK678.out 10; have hfz61_11 := blk_frozen BK678.out 11; have hfz61_12 := blk_frozen BK678.out 12; have hfz61_13 := blk_frozen BK678.out 13) | (go_at_call 107; (with_reducible refine (impl_isText.calls kj1 a0_6 _ _ A41.out).mono ?_); rintro e w62 ⟨rfl, hb⟩; have n0_ := Aside0.mk (blk_below (g := gb678) (o := .cells #[.string a0_0, .int .i64 a0_1, .slice A0_2 l0_2.length c0_2, .slice A0_3 l0_3.length c0_3, .string a0_4, .string a0_5, .string a0_6, .int .i64 a0_7, .int .i64 a0_8, .int .i64 a0_9, .bool a0_10, .int .i64 a0_11, .string a0_12, .string a0_13] 65 (0, 0)) au46 hb); have n1_ := Aside0.mk (below_step au23 hb); clear BK678; clear HB; have BK678 := n0_; have HB := n1_; clear n0_ n1_; (try clear hb); (try clear hb2); (try clear hk); (try clear hi); have hcz63_0 : w62.cell? ⟨gb678, 0, none⟩ = some (.string a0_0) := (blk_cell BK678.out 0).trans rfl; have hcz63_1 : w62.cell? ⟨gb678, 1, none⟩ = some (.int .i64 a0_1) := (blk_cell BK678.out 1).trans rfl; have hcz63_2 : w62.cell? ⟨gb678, 2, none⟩ = some (.slice A0_2 l0_2.length c0_2) := (blk_cell BK678.out 2).trans rfl; have hcz63_3 : w62.cell? ⟨gb678, 3, none⟩ = some (.slice A0_3 l0_3.length c0_3) := (blk_cell BK678.out 3).trans rfl; have hcz63_4 : w62.cell? ⟨gb678, 4, none⟩ = some (.string a0_4) := (blk_cell BK678.out 4).trans rfl; have hcz63_5 : w62.cell? ⟨gb678, 5, none⟩ = some (.string a0_5) := (blk_cell BK678.out 5).trans rfl; have hcz63_6 : w62.cell? ⟨gb678, 6, none⟩ = some (.string a0_6) := (blk_cell BK678.out 6).trans rfl; have hcz63_7 : w62.cell? ⟨gb678, 7, none⟩ = some (.int .i64 a0_7) := (blk_cell BK678.out 7).trans rfl; have hcz63_8 : w62.cell? ⟨gb678, 8, none⟩ = some (.int .i64 a0_8) := (blk_cell BK678.out 8).trans rfl; have hcz63_9 : w62.cell? ⟨gb678, 9, none⟩ = some (.int .i64 a0_9) := (blk_cell BK678.out 9).trans rfl; have hcz63_10 : w62.cell? ⟨gb678, 10, none⟩ = some (.bool a0_10) := (blk_cell BK678.out 10).trans rfl; have hcz63_11 : w62.cell? ⟨gb678, 11, none⟩ = some (.int .i64 a0_11) := (blk_cell BK678.out 11).trans rfl; have hcz63_12 : w62.cell? ⟨gb678, 12, none⟩ = some (.string a0_12) := (blk_cell BK678.out 12).trans rfl; have hcz63_13 : w62.cell? ⟨gb678, 13, none⟩ = some (.string a0_13) := (blk_cell BK678.out 13).trans rfl; have hfz63_0 := blk_frozen BK678.out 0; have hfz63_1 := blk_frozen BK678.out 1; have hfz63_2 := blk_frozen BK678.out 2; have hfz63_3 := blk_frozen BK678.out 3; have hfz63_4 := blk_frozen BK678.out 4; have hfz63_5 := blk_frozen BK678.out 5; have hfz63_6 := blk_frozen BK678.out 6; have hfz63_7 := blk_frozen BK678.out 7; have hfz63_8 := blk_frozen BK678.out 8; have hfz63_9 := blk_frozen BK678.out 9; have hfz63_10 := blk_frozen BK678.out 10; have hfz63_11 := blk_frozen BK678.out 11; have hfz63_12 := blk_frozen BK678.out 12; have hfz63_13 := blk_frozen BK678.out 13) | (go_at_call 107; (with_reducible refine (impl_isText.calls kj1 a0_12 _ _ A43.out).mono ?_); rintro e w64 ⟨rfl, hb⟩; have n0_ := Aside0.mk (blk_below (g := gb678) (o := .cells #[.string a0_0, .int .i64 a0_1, .slice A0_2 l0_2.length c0_2, .slice A0_3 l0_3.length c0_3, .string a0_4, .string a0_5, .string a0_6, .int .i64 a0_7, .int .i64 a0_8, .int .i64 a0_9, .bool a0_10, .int .i64 a0_11, .string a0_12, .string a0_13] 65 (0, 0)) au46 hb); have n1_ := Aside0.mk (below_step au23 hb); clear BK678; clear HB; have BK678 := n0_; have HB := n1_; clear n0_ n1_; (try clear hb); (try clear hb2); (try clear hk); (try clear hi); have hcz65_0 : w64.cell? ⟨gb678, 0, none⟩ = some (.string a0_0) := (blk_cell BK678.out 0).trans rfl; have hcz65_1 : w64.cell? ⟨gb678, 1, none⟩ = some (.int .i64 a0_1) := (blk_cell BK678.out 1).trans rfl; have hcz65_2 : w64.cell? ⟨gb678, 2, none⟩ = some (.slice A0_2 l0_2.length c0_2) := (blk_cell BK678.out 2).trans rfl; have hcz65_3 : w64.cell? ⟨gb678, 3, none⟩ = some (.slice A0_3 l0_3.length c0_3) := (blk_cell BK678.out 3).trans rfl; have hcz65_4 : w64.cell? ⟨gb678, 4, none⟩ = some (.string a0_4) := (blk_cell BK678.out 4).trans rfl; have hcz65_5 : w64.cell? ⟨gb678, 5, none⟩ = some (.string a0_5) := (blk_cell BK678.out 5).trans rfl; have hcz65_6 : w64.cell? ⟨gb678, 6, none⟩ = some (.string a0_6) := (blk_cell BK678.out 6).trans rfl; have hcz65_7 : w64.cell? ⟨gb678, 7, none⟩ = some (.int .i64 a0_7) := (blk_cell BK678.out 7).trans rfl; have hcz65_8 : w64.cell? ⟨gb678, 8, none⟩ = some (.int .i64 a0_8) := (blk_cell BK678.out 8).trans rfl; have hcz65_9 : w64.cell? ⟨gb678, 9, none⟩ = some (.int .i64 a0_9) := (blk_cell BK678.out 9).trans rfl; have hcz65_10 : w64.cell? ⟨gb678, 10, none⟩ = some (.bool a0_10) := (blk_cell BK678.out 10).trans rfl; have hcz65_11 : w64.cell? ⟨gb678, 11, none⟩ = some (.int .i64 a0_11) := (blk_cell BK678.out 11).trans rfl; have hcz65_12 : w64.cell? ⟨gb678, 12, none⟩ = some (.string a0_12) := (blk_cell BK678.out 12).trans rfl; have hcz65_13 : w64.cell? ⟨gb678, 13, none⟩ = some (.string a0_13) := (blk_cell BK678.out 13).trans rfl; have hfz65_0 := blk_frozen BK678.out 0; have hfz65_1 := blk_frozen BK678.out 1; have hfz65_2 := blk_frozen BK678.out 2; have hfz65_3 := blk_frozen BK678.out 3; have hfz65_4 := blk_frozen BK678.out 4; have hfz65_5 := blk_frozen BK678.out 5; have hfz65_6 := blk_frozen BK678.out 6; have hfz65_7 := blk_frozen BK678.out 7; have hfz65_8 := blk_frozen BK678.out 8; have hfz65_9 := blk_frozen BK678.out 9; have hfz65_10 := blk_frozen BK678.out 10; have hfz65_11 := blk_frozen BK678.out 11; have hfz65_12 := blk_frozen BK678.out 12; have hfz65_13 := blk_frozen BK678.out 13) | (go_at_call 103; (with_reducible refine (impl_isKey.calls kj1 a0_13 _ _ A55.out).mono ?_); rintro e w' ⟨rfl, ⟨nd, rfl⟩⟩))
  go_ret
  exact ax11) : P := h
set_option maxRecDepth 100000 in
theorem impl_IsValidEntry.L1 {P : Prop} (h : P := by
  have hcz34_0 : w3.cell? ⟨gb678, 0, none⟩ = some (.string a0_0) := (blk_cell BK678.out 0).trans rfl
  have hcz34_1 : w3.cell? ⟨gb678, 1, none⟩ = some (.int .i64 a0_1) := (blk_cell BK678.out 1).trans rfl
  have hcz34_2 : w3.cell? ⟨gb678, 2, none⟩ = some (.slice A0_2 l0_2.length c0_2) := (blk_cell BK678.out 2).trans rfl
  have hcz34_3 : w3.cell? ⟨gb678, 3, none⟩ = some (.slice A0_3 l0_3.length c0_3) := (blk_cell BK678.out 3).trans rfl
  have hcz34_4 : w3.cell? ⟨gb678, 4, none⟩ = some (.string a0_4) := (blk_cell BK678.out 4).trans rfl
  have hcz34_5 : w3.cell? ⟨gb678, 5, none⟩ = some (.string a0_5) := (blk_cell BK678.out 5).trans rfl
  have hcz34_6 : w3.cell? ⟨gb678, 6, none⟩ = some (.string a0_6) := (blk_cell BK678.out 6).trans rfl
  have hcz34_7 : w3.cell? ⟨gb678, 7, none⟩ = some (.int .i64 a0_7) := (blk_cell BK678.out 7).trans rfl
  have hcz34_8 : w3.cell? ⟨gb678, 8, none⟩ = some (.int .i64 a0_8) := (blk_cell BK678.out 8).trans rfl
  have hcz34_9 : w3.cell? ⟨gb678, 9, none⟩ = some (.int .i64 a0_9) := (blk_cell BK678.out 9).trans rfl
  have hcz34_10 : w3.cell? ⟨gb678, 10, none⟩ = some (.bool a0_10) := (blk_cell BK678.out 10).trans rfl
  have hcz34_11 : w3.cell? ⟨gb678, 11, none⟩ = some (.int .i64 a0_11) := (blk_cell BK678.out 11).trans rfl
  have hcz34_12 : w3.cell? ⟨gb678, 12, none⟩ = some (.string a0_12) := (blk_cell BK678.out 12).trans rfl
  have hcz34_13 : w3.cell? ⟨gb678, 13, none⟩ = some (.string a0_13) := (blk_cell BK678.out 13).trans rfl
  have hfz34_0 := blk_frozen BK678.out 0
  have hfz34_1 := blk_frozen BK678.out 1
  have hfz34_2 := blk_frozen BK678.out 2
  have hfz34_3 := blk_frozen BK678.out 3
  have hfz34_4 := blk_frozen BK678.out 4
  have hfz34_5 := blk_frozen BK678.out 5
  have hfz34_6 := blk_frozen BK678.out 6
  have hfz34_7 := blk_frozen BK678.out 7
  have hfz34_8 := blk_frozen BK678.out 8
  have hfz34_9 := blk_frozen BK678.out 9
  have hfz34_10 := blk_frozen BK678.out 10
  have hfz34_11 := blk_frozen BK678.out 11
  have hfz34_12 := blk_frozen BK678.out 12
  have hfz34_13 := blk_frozen BK678.out 13
  go_wp2_with (first | ((with_reducible refine gate_callee (f := 103) rfl ?_); refine goesL_ (some 5) rfl rfl Tryd.func103 (by kernel_rfl) rfl #[.string a0_0] rfl au30 ?_; (with_reducible refine (impl_isKey.calls k a0_0 _ _ A4.out).mono ?_); rintro e w' ⟨rfl, ⟨nd, rfl⟩⟩; refine ⟨_, rfl, ?_⟩) | (go_at_call 104; (with_reducible refine (impl_isKind.calls a0_1 _ _ A6.out).mono ?_); rintro e w' ⟨rfl, ⟨nd, rfl⟩⟩))
  go_meet
  case rel => exact ⟨_, (true), au61, H', ⟨by first | omega | exact Nat.le_refl _⟩, ⟨by (with_reducible repeat (first | refine blk_drewN ?_ _ | refine blk_drew ?_ | refine blk_alloc ?_ _)); exact BK678.out⟩, ⟨by repeat (first | (with_reducible first | exact HB.out | apply below_alloc | apply pw_below_drewN | apply below_drew1 | refine below_set ?_ GE678.out) | exact HB.out)⟩⟩) : P := h
set_option maxHeartbeats 8000000 in
set_option maxRecDepth 100000 in
theorem impl_IsValidEntry.calls (k : Nat) (a0_0 : ByteArray) (a0_1 : Int) (A0_2 : Option Addr) (c0_2 : Nat) (l0_2 : List (S34)) (A0_3 : Option Addr) (c0_3 : Nat) (l0_3 : List (S34)) (a0_4 : ByteArray) (a0_5 : ByteArray) (a0_6 : ByteArray) (a0_7 : Int) (a0_8 : Int) (a0_9 : Int) (a0_10 : Bool) (a0_11 : Int) (a0_12 : ByteArray) (a0_13 : ByteArray) (r : Bool) (w : World) {gF1 gF2 gF3 : Bool} (hG : GL gF1 gF2 gF3 w) (hr0_2 : Kd.C k34 w A0_2 l0_2.length l0_2) (hc0_2 : l0_2.length ≤ c0_2) (hr0_3 : Kd.C k34 w A0_3 l0_3.length l0_3) (hc0_3 : l0_3.length ≤ c0_3) (h : impl_IsValidEntry.f k a0_0 a0_1 l0_2 l0_3 a0_4 a0_5 a0_6 a0_7 a0_8 a0_9 a0_10 a0_11 a0_12 a0_13 = some r) :
  Calls Tryd.prog 44 #[.agg #[.string a0_0, .int .i64 a0_1, .slice A0_2 l0_2.length c0_2, .slice A0_3 l0_3.length c0_3, .string a0_4, .string a0_5, .string a0_6, .int .i64 a0_7, .int .i64 a0_8, .int .i64 a0_9, .bool a0_10, .int .i64 a0_11, .string a0_12, .string a0_13]] w fun e w' => e = .returned (.bool r) ∧ Below w.heap.size w w' := by
 have HG := Aside0.mk hG
 clear hG
 have hu65 := Tryd.underlying65
 have hu63 := Tryd.underlying63
 have HR0_2 := Aside0.mk hr0_2
 have HC0_2 := Aside0.mk hc0_2
 clear hr0_2 hc0_2
 have HR0_3 := Aside0.mk hr0_3
 have HC0_3 := Aside0.mk hc0_3
 clear hr0_3 hc0_3
 have HB := Aside0.mk (Below.refl w.heap.size w)
 have H : ((impl_isKey.f k a0_0).bind fun t679 => (if t679 = true then ((impl_isKind.f a0_1).bind fun t680 => (if t680 = true then ((impl_areNames.f k l0_2).bind fun t681 => (if t681 = true then ((impl_areNames.f k l0_3).bind fun t682 => (if t682 = true then ((impl_IsValidDate.f k a0_7 a0_8 a0_9 a0_10).bind fun t683 => (if t683 = true then ((impl_inside.f a0_11 0 9999).bind fun t684 => (impl_IsValidEntry.j0 k (!t684) a0_0 a0_1 l0_2 l0_3 a0_4 a0_5 a0_6 a0_7 a0_8 a0_9 a0_10 a0_11 a0_12 a0_13)) else (impl_IsValidEntry.j0 k true a0_0 a0_1 l0_2 l0_3 a0_4 a0_5 a0_6 a0_7 a0_8 a0_9 a0_10 a0_11 a0_12 a0_13))) else (impl_IsValidEntry.j0 k true a0_0 a0_1 l0_2 l0_3 a0_4 a0_5 a0_6 a0_7 a0_8 a0_9 a0_10 a0_11 a0_12 a0_13))) else (impl_IsValidEntry.j0 k true a0_0 a0_1 l0_2 l0_3 a0_4 a0_5 a0_6 a0_7 a0_8 a0_9 a0_10 a0_11 a0_12 a0_13))) else (impl_IsValidEntry.j0 k true a0_0 a0_1 l0_2 l0_3 a0_4 a0_5 a0_6 a0_7 a0_8 a0_9 a0_10 a0_11 a0_12 a0_13))) else (impl_IsValidEntry.j0 k true a0_0 a0_1 l0_2 l0_3 a0_4 a0_5 a0_6 a0_7 a0_8 a0_9 a0_10 a0_11 a0_12 a0_13))) = some r := h
 clear h
 have HC2 := Aside0.mk H
 clear H
 go_enter Tryd.func44, Tryd.ntmps44
 go_upto_region 1 with (first | ((with_reducible refine gate_dst (N := 1) rfl ?_); refine box_event ?hg (N := 1) ?hd (cs := #[.string a0_0, .int .i64 a0_1, .slice A0_2 l0_2.length c0_2, .slice A0_3 l0_3.length c0_3, .string a0_4, .string a0_5, .string a0_6, .int .i64 a0_7, .int .i64 a0_8, .int .i64 a0_9, .bool a0_10, .int .i64 a0_11, .string a0_12, .string a0_13]) (t := 65) ?hr ?_; (case hd => rfl); (case hg => rfl); (case hr => first | (go_simp; done) | (go_simp; rfl)); intro gb678 hg w3 hbox hb; have n0_ := Aside0.mk (below_step au31 hb); have n1_ := Aside0.mk (hbox); have n2_ := Aside0.mk ((by rw [hg]; exact (below_size au31) : w.heap.size ≤ gb678)); have n3_ := Aside0.mk ((by rw [hg]; exact (below_size au31) : w.heap.size ≤ gb678)); clear HB; have HB := n0_; have BK678 := n1_; have GW678 := n2_; have GE678 := n3_; clear n0_ n1_ n2_ n3_; clear hb hbox hg))
 (try simp only [Act.put, List.setIfInBounds_toArray, List.set_cons_zero, List.set_cons_succ])
 go_cut [36] (fun v36 wc => ∃ (kq : Nat) (x36_1 : Bool), v36 = .bool x36_1 ∧ Aside0 (impl_IsValidEntry.j0 kq x36_1 a0_0 a0_1 l0_2 l0_3 a0_4 a0_5 a0_6 a0_7 a0_8 a0_9 a0_10 a0_11 a0_12 a0_13 = some r) ∧ Aside0 (kq ≤ k) ∧ Aside0 (wc.heap[gb678]? = some (.cells #[.string a0_0, .int .i64 a0_1, (.slice A0_2 l0_2.length c0_2), (.slice A0_3 l0_3.length c0_3), .string a0_4, .string a0_5, .string a0_6, .int .i64 a0_7, .int .i64 a0_8, .int .i64 a0_9, .bool a0_10, .int .i64 a0_11, .string a0_12, .string a0_13] 65 (0, 0))) ∧ Aside0 (Below w.heap.size w wc))
 case first =>
  have H := HC2.out
  clear HC2
  replace H := Option.bind_eq_some_iff.mp H
  obtain ⟨t679, A40, H⟩ := H
  try dsimp only at H
  have A4 := Aside0.mk A40
  clear A40
  by_cases c5 : t679 = true
  ·
   subst c5
   replace H := (if_pos rfl).symm.trans H
   replace H := Option.bind_eq_some_iff.mp H
   obtain ⟨t680, A60, H⟩ := H
   try dsimp only at H
   have A6 := Aside0.mk A60
   clear A60
   by_cases c7 : t680 = true
   ·
    subst c7
    replace H := (if_pos rfl).symm.trans H
    replace H := Option.bind_eq_some_iff.mp H
    obtain ⟨t681, A80, H⟩ := H
    try dsimp only at H
    have A8 := Aside0.mk A80
    clear A80
    by_cases c9 : t681 = true
    ·
     subst c9
     replace H := (if_pos rfl).symm.trans H
     replace H := Option.bind_eq_some_iff.mp H
     obtain ⟨t682, A100, H⟩ := H
     try dsimp only at H
     have A10 := Aside0.mk A100
     clear A100
     by_cases c11 : t682 = true
     ·
      subst c11
      replace H := (if_pos rfl).symm.trans H
      replace H := Option.bind_eq_some_iff.mp H
      obtain ⟨t683, A120, H⟩ := H
      try dsimp only at H
      have A12 := Aside0.mk A120
      clear A120
      by_cases c13 : t683 = true
      ·
       subst c13
       replace H := (if_pos rfl).symm.trans H
       replace H := Option.bind_eq_some_iff.mp H
       obtain ⟨t684, A140, H⟩ := H
       try dsimp only at H
       have A14 := Aside0.mk A140
       clear A140
       have H' := Aside0.mk H
       clear H
       have hcz15_0 : w3.cell? ⟨gb678, 0, none⟩ = some (.string a0_0) := (blk_cell BK678.out 0).trans rfl
       have hcz15_1 : w3.cell? ⟨gb678, 1, none⟩ = some (.int .i64 a0_1) := (blk_cell BK678.out 1).trans rfl
       have hcz15_2 : w3.cell? ⟨gb678, 2, none⟩ = some (.slice A0_2 l0_2.length c0_2) := (blk_cell BK678.out 2).trans rfl
       have hcz15_3 : w3.cell? ⟨gb678, 3, none⟩ = some (.slice A0_3 l0_3.length c0_3) := (blk_cell BK678.out 3).trans rfl
       have hcz15_4 : w3.cell? ⟨gb678, 4, none⟩ = some (.string a0_4) := (blk_cell BK678.out 4).trans rfl
       have hcz15_5 : w3.cell? ⟨gb678, 5, none⟩ = some (.string a0_5) := (blk_cell BK678.out 5).trans rfl
       have hcz15_6 : w3.cell? ⟨gb678, 6, none⟩ = some (.string a0_6) := (blk_cell BK678.out 6).trans rfl
       have hcz15_7 : w3.cell? ⟨gb678, 7, none⟩ = some (.int .i64 a0_7) := (blk_cell BK678.out 7).trans rfl
       have hcz15_8 : w3.cell? ⟨gb678, 8, none⟩ = some (.int .i64 a0_8) := (blk_cell BK678.out 8).trans rfl
       have hcz15_9 : w3.cell? ⟨gb678, 9, none⟩ = some (.int .i64 a0_9) := (blk_cell BK678.out 9).trans rfl
       have hcz15_10 : w3.cell? ⟨gb678, 10, none⟩ = some (.bool a0_10) := (blk_cell BK678.out 10).trans rfl
       have hcz15_11 : w3.cell? ⟨gb678, 11, none⟩ = some (.int .i64 a0_11) := (blk_cell BK678.out 11).trans rfl
       have hcz15_12 : w3.cell? ⟨gb678, 12, none⟩ = some (.string a0_12) := (blk_cell BK678.out 12).trans rfl
       have hcz15_13 : w3.cell? ⟨gb678, 13, none⟩ = some (.string a0_13) := (blk_cell BK678.out 13).trans rfl
       have hfz15_0 := blk_frozen BK678.out 0
       have hfz15_1 := blk_frozen BK678.out 1
       have hfz15_2 := blk_frozen BK678.out 2
       have hfz15_3 := blk_frozen BK678.out 3
       have hfz15_4 := blk_frozen BK678.out 4
       have hfz15_5 := blk_frozen BK678.out 5
       have hfz15_6 := blk_frozen BK678.out 6
       have hfz15_7 := blk_frozen BK678.out 7
       have hfz15_8 := blk_frozen BK678.out 8
       have hfz15_9 := blk_frozen BK678.out 9
       have hfz15_10 := blk_frozen BK678.out 10
       have hfz15_11 := blk_frozen BK678.out 11
       have hfz15_12 := blk_frozen BK678.out 12
       have hfz15_13 := blk_frozen BK678.out 13
       go_wp2_with (first | ((with_reducible refine gate_callee (f := 103) rfl ?_); refine goesL_ (some 5) rfl rfl Tryd.func103 (by kernel_rfl) rfl #[.string a0_0] rfl au30 ?_; (with_reducible refine (impl_isKey.calls k a0_0 _ _ A4.out).mono ?_); rintro e w' ⟨rfl, ⟨nd, rfl⟩⟩; refine ⟨_, rfl, ?_⟩) | (go_at_call 104; (with_reducible refine (impl_isKind.calls a0_1 _ _ A6.out).mono ?_); rintro e w' ⟨rfl, ⟨nd, rfl⟩⟩) | (go_at_call 64; (with_reducible refine (impl_areNames.calls (hG := au0) k _ _ l0_2 _ _ ?side1 ?side2 A8.out).mono ?_); (case side1 => repeat (first | exact (Kd.C_below HR0_2.out au23) | (with_reducible refine Kd.C_alloc ?_ _) | (with_reducible refine Kd.C_drewN ?_ _) | (with_reducible refine Kd.C_drew ?_))); (case side2 => exact HC0_2.out); rintro e w16 ⟨rfl, hb⟩; have n0_ := Aside0.mk (blk_below (g := gb678) (o := .cells #[.string a0_0, .int .i64 a0_1, .slice A0_2 l0_2.length c0_2, .slice A0_3 l0_3.length c0_3, .string a0_4, .string a0_5, .string a0_6, .int .i64 a0_7, .int .i64 a0_8, .int .i64 a0_9, .bool a0_10, .int .i64 a0_11, .string a0_12, .string a0_13] 65 (0, 0)) au46 hb); have n1_ := Aside0.mk (below_step au23 hb); clear BK678; clear HB; have BK678 := n0_; have HB := n1_; clear n0_ n1_; (try clear hb); (try clear hb2); (try clear hk); (try clear hi); have hcz17_0 : w16.cell? ⟨gb678, 0, none⟩ = some (.string a0_0) := (blk_cell BK678.out 0).trans rfl; have hcz17_1 : w16.cell? ⟨gb678, 1, none⟩ = some (.int .i64 a0_1) := (blk_cell BK678.out 1).trans rfl; have hcz17_2 : w16.cell? ⟨gb678, 2, none⟩ = some (.slice A0_2 l0_2.length c0_2) := (blk_cell BK678.out 2).trans rfl; have hcz17_3 : w16.cell? ⟨gb678, 3, none⟩ = some (.slice A0_3 l0_3.length c0_3) := (blk_cell BK678.out 3).trans rfl; have hcz17_4 : w16.cell? ⟨gb678, 4, none⟩ = some (.string a0_4) := (blk_cell BK678.out 4).trans rfl; have hcz17_5 : w16.cell? ⟨gb678, 5, none⟩ = some (.string a0_5) := (blk_cell BK678.out 5).trans rfl; have hcz17_6 : w16.cell? ⟨gb678, 6, none⟩ = some (.string a0_6) := (blk_cell BK678.out 6).trans rfl; have hcz17_7 : w16.cell? ⟨gb678, 7, none⟩ = some (.int .i64 a0_7) := (blk_cell BK678.out 7).trans rfl; have hcz17_8 : w16.cell? ⟨gb678, 8, none⟩ = some (.int .i64 a0_8) := (blk_cell BK678.out 8).trans rfl; have hcz17_9 : w16.cell? ⟨gb678, 9, none⟩ = some (.int .i64 a0_9) := (blk_cell BK678.out 9).trans rfl; have hcz17_10 : w16.cell? ⟨gb678, 10, none⟩ = some (.bool a0_10) := (blk_cell BK678.out 10).trans rfl; have hcz17_11 : w16.cell? ⟨gb678, 11, none⟩ = some (.int .i64 a0_11) := (blk_cell BK678.out 11).trans rfl; have hcz17_12 : w16.cell? ⟨gb678, 12, none⟩ = some (.string a0_12) := (blk_cell BK678.out 12).trans rfl; have hcz17_13 : w16.cell? ⟨gb678, 13, none⟩ = some (.string a0_13) := (blk_cell BK678.out 13).trans rfl; have hfz17_0 := blk_frozen BK678.out 0; have hfz17_1 := blk_frozen BK678.out 1; have hfz17_2 := blk_frozen BK678.out 2; have hfz17_3 := blk_frozen BK678.out 3; have hfz17_4 := blk_frozen BK678.out 4; have hfz17_5 := blk_frozen BK678.out 5; have hfz17_6 := blk_frozen BK678.out 6; have hfz17_7 := blk_frozen BK678.out 7; have hfz17_8 := blk_frozen BK678.out 8; have hfz17_9 := blk_frozen BK678.out 9; have hfz17_10 := blk_frozen BK678.out 10; have hfz17_11 := blk_frozen BK678.out 11; have hfz17_12 := blk_frozen BK678.out 12; have hfz17_13 := blk_frozen BK678.out 13) | (go_at_call 64; (with_reducible refine (impl_areNames.calls (hG := au0) k _ _ l0_3 _ _ ?side1 ?side2 A10.out).mono ?_); (case side1 => repeat (first | exact (Kd.C_below HR0_3.out HB.out) | (with_reducible refine Kd.C_alloc ?_ _) | (with_reducible refine Kd.C_drewN ?_ _) | (with_reducible refine Kd.C_drew ?_))); (case side2 => exact HC0_3.out); rintro e w18 ⟨rfl, hb⟩; have n0_ := Aside0.mk (blk_below (g := gb678) (o := .cells #[.string a0_0, .int .i64 a0_1, .slice A0_2 l0_2.length c0_2, .slice A0_3 l0_3.length c0_3, .string a0_4, .string a0_5, .string a0_6, .int .i64 a0_7, .int .i64 a0_8, .int .i64 a0_9, .bool a0_10, .int .i64 a0_11, .string a0_12, .string a0_13] 65 (0, 0)) au46 hb); have n1_ := Aside0.mk (below_step au23 hb); clear BK678; clear HB; have BK678 := n0_; have HB := n1_; clear n0_ n1_; (try clear hb); (try clear hb2); (try clear hk); (try clear hi); have hcz19_0 : w18.cell? ⟨gb678, 0, none⟩ = some (.string a0_0) := (blk_cell BK678.out 0).trans rfl; have hcz19_1 : w18.cell? ⟨gb678, 1, none⟩ = some (.int .i64 a0_1) := (blk_cell BK678.out 1).trans rfl; have hcz19_2 : w18.cell? ⟨gb678, 2, none⟩ = some (.slice A0_2 l0_2.length c0_2) := (blk_cell BK678.out 2).trans rfl; have hcz19_3 : w18.cell? ⟨gb678, 3, none⟩ = some (.slice A0_3 l0_3.length c0_3) := (blk_cell BK678.out 3).trans rfl; have hcz19_4 : w18.cell? ⟨gb678, 4, none⟩ = some (.string a0_4) := (blk_cell BK678.out 4).trans rfl; have hcz19_5 : w18.cell? ⟨gb678, 5, none⟩ = some (.string a0_5) := (blk_cell BK678.out 5).trans rfl; have hcz19_6 : w18.cell? ⟨gb678, 6, none⟩ = some (.string a0_6) := (blk_cell BK678.out 6).trans rfl; have hcz19_7 : w18.cell? ⟨gb678, 7, none⟩ = some (.int .i64 a0_7) := (blk_cell BK678.out 7).trans rfl; have hcz19_8 : w18.cell? ⟨gb678, 8, none⟩ = some (.int .i64 a0_8) := (blk_cell BK678.out 8).trans rfl; have hcz19_9 : w18.cell? ⟨gb678, 9, none⟩ = some (.int .i64 a0_9) := (blk_cell BK678.out 9).trans rfl; have hcz19_10 : w18.cell? ⟨gb678, 10, none⟩ = some (.bool a0_10) := (blk_cell BK678.out 10).trans rfl; have hcz19_11 : w18.cell? ⟨gb678, 11, none⟩ = some (.int .i64 a0_11) := (blk_cell BK678.out 11).trans rfl; have hcz19_12 : w18.cell? ⟨gb678, 12, none⟩ = some (.string a0_12) := (blk_cell BK678.out 12).trans rfl; have hcz19_13 : w18.cell? ⟨gb678, 13, none⟩ = some (.string a0_13) := (blk_cell BK678.out 13).trans rfl; have hfz19_0 := blk_frozen BK678.out 0; have hfz19_1 := blk_frozen BK678.out 1; have hfz19_2 := blk_frozen BK678.out 2; have hfz19_3 := blk_frozen BK678.out 3; have hfz19_4 := blk_frozen BK678.out 4; have hfz19_5 := blk_frozen BK678.out 5; have hfz19_6 := blk_frozen BK678.out 6; have hfz19_7 := blk_frozen BK678.out 7; have hfz19_8 := blk_frozen BK678.out 8; have hfz19_9 := blk_frozen BK678.out 9; have hfz19_10 := blk_frozen BK678.out 10; have hfz19_11 := blk_frozen BK678.out 11; have hfz19_12 := blk_frozen BK678.out 12; have hfz19_13 := blk_frozen BK678.out 13) | (go_at_call 105; (with_reducible refine (impl_IsValidDate.calls k a0_7 a0_8 a0_9 a0_10 _ _ A12.out).mono ?_); rintro e w20 ⟨rfl, hb⟩; have n0_ := Aside0.mk (blk_below (g := gb678) (o := .cells #[.string a0_0, .int .i64 a0_1, .slice A0_2 l0_2.length c0_2, .slice A0_3 l0_3.length c0_3, .string a0_4, .string a0_5, .string a0_6, .int .i64 a0_7, .int .i64 a0_8, .int .i64 a0_9, .bool a0_10, .int .i64 a0_11, .string a0_12, .string a0_13] 65 (0, 0)) au46 hb); have n1_ := Aside0.mk (below_step au23 hb); clear BK678; clear HB; have BK678 := n0_; have HB := n1_; clear n0_ n1_; (try clear hb); (try clear hb2); (try clear hk); (try clear hi); have hcz21_0 : w20.cell? ⟨gb678, 0, none⟩ = some (.string a0_0) := (blk_cell BK678.out 0).trans rfl; have hcz21_1 : w20.cell? ⟨gb678, 1, none⟩ = some (.int .i64 a0_1) := (blk_cell BK678.out 1).trans rfl; have hcz21_2 : w20.cell? ⟨gb678, 2, none⟩ = some (.slice A0_2 l0_2.length c0_2) := (blk_cell BK678.out 2).trans rfl; have hcz21_3 : w20.cell? ⟨gb678, 3, none⟩ = some (.slice A0_3 l0_3.length c0_3) := (blk_cell BK678.out 3).trans rfl; have hcz21_4 : w20.cell? ⟨gb678, 4, none⟩ = some (.string a0_4) := (blk_cell BK678.out 4).trans rfl; have hcz21_5 : w20.cell? ⟨gb678, 5, none⟩ = some (.string a0_5) := (blk_cell BK678.out 5).trans rfl; have hcz21_6 : w20.cell? ⟨gb678, 6, none⟩ = some (.string a0_6) := (blk_cell BK678.out 6).trans rfl; have hcz21_7 : w20.cell? ⟨gb678, 7, none⟩ = some (.int .i64 a0_7) := (blk_cell BK678.out 7).trans rfl; have hcz21_8 : w20.cell? ⟨gb678, 8, none⟩ = some (.int .i64 a0_8) := (blk_cell BK678.out 8).trans rfl; have hcz21_9 : w20.cell? ⟨gb678, 9, none⟩ = some (.int .i64 a0_9) := (blk_cell BK678.out 9).trans rfl; have hcz21_10 : w20.cell? ⟨gb678, 10, none⟩ = some (.bool a0_10) := (blk_cell BK678.out 10).trans rfl; have hcz21_11 : w20.cell? ⟨gb678, 11, none⟩ = some (.int .i64 a0_11) := (blk_cell BK678.out 11).trans rfl; have hcz21_12 : w20.cell? ⟨gb678, 12, none⟩ = some (.string a0_12) := (blk_cell BK678.out 12).trans rfl; have hcz21_13 : w20.cell? ⟨gb678, 13, none⟩ = some (.string a0_13) := (blk_cell BK678.out 13).trans rfl; have hfz21_0 := blk_frozen BK678.out 0; have hfz21_1 := blk_frozen BK678.out 1; have hfz21_2 := blk_frozen BK678.out 2; have hfz21_3 := blk_frozen BK678.out 3; have hfz21_4 := blk_frozen BK678.out 4; have hfz21_5 := blk_frozen BK678.out 5; have hfz21_6 := blk_frozen BK678.out 6; have hfz21_7 := blk_frozen BK678.out 7; have hfz21_8 := blk_frozen BK678.out 8; have hfz21_9 := blk_frozen BK678.out 9; have hfz21_10 := blk_frozen BK678.out 10; have hfz21_11 := blk_frozen BK678.out 11; have hfz21_12 := blk_frozen BK678.out 12; have hfz21_13 := blk_frozen BK678.out 13) | (go_at_call 106; (with_reducible refine (impl_inside.calls a0_11 0 9999 t684 _ A14.out).mono ?_); rintro e w' ⟨rfl, ⟨nd, rfl⟩⟩))
       go_meet
       case rel => exact ⟨_, (!t684), au61, H', ⟨by first | omega | exact Nat.le_refl _⟩, ⟨by (with_reducible repeat (first | refine blk_drewN ?_ _ | refine blk_drew ?_ | refine blk_alloc ?_ _)); exact BK678.out⟩, ⟨by repeat (first | (with_reducible first | exact HB.out | apply below_alloc | apply pw_below_drewN | apply below_drew1 | refine below_set ?_ GE678.out) | exact HB.out)⟩⟩
      ·
       replace c13 := Bool.eq_false_iff.mpr c13
       subst c13
       replace H := (if_neg (show ¬ (false = true) by decide)).symm.trans H
       have H' := Aside0.mk H
       clear H
       have hcz22_0 : w3.cell? ⟨gb678, 0, none⟩ = some (.string a0_0) := (blk_cell BK678.out 0).trans rfl
       have hcz22_1 : w3.cell? ⟨gb678, 1, none⟩ = some (.int .i64 a0_1) := (blk_cell BK678.out 1).trans rfl
       have hcz22_2 : w3.cell? ⟨gb678, 2, none⟩ = some (.slice A0_2 l0_2.length c0_2) := (blk_cell BK678.out 2).trans rfl
       have hcz22_3 : w3.cell? ⟨gb678, 3, none⟩ = some (.slice A0_3 l0_3.length c0_3) := (blk_cell BK678.out 3).trans rfl
       have hcz22_4 : w3.cell? ⟨gb678, 4, none⟩ = some (.string a0_4) := (blk_cell BK678.out 4).trans rfl
       have hcz22_5 : w3.cell? ⟨gb678, 5, none⟩ = some (.string a0_5) := (blk_cell BK678.out 5).trans rfl
       have hcz22_6 : w3.cell? ⟨gb678, 6, none⟩ = some (.string a0_6) := (blk_cell BK678.out 6).trans rfl
       have hcz22_7 : w3.cell? ⟨gb678, 7, none⟩ = some (.int .i64 a0_7) := (blk_cell BK678.out 7).trans rfl
       have hcz22_8 : w3.cell? ⟨gb678, 8, none⟩ = some (.int .i64 a0_8) := (blk_cell BK678.out 8).trans rfl
       have hcz22_9 : w3.cell? ⟨gb678, 9, none⟩ = some (.int .i64 a0_9) := (blk_cell BK678.out 9).trans rfl
       have hcz22_10 : w3.cell? ⟨gb678, 10, none⟩ = some (.bool a0_10) := (blk_cell BK678.out 10).trans rfl
       have hcz22_11 : w3.cell? ⟨gb678, 11, none⟩ = some (.int .i64 a0_11) := (blk_cell BK678.out 11).trans rfl
       have hcz22_12 : w3.cell? ⟨gb678, 12, none⟩ = some (.string a0_12) := (blk_cell BK678.out 12).trans rfl
       have hcz22_13 : w3.cell? ⟨gb678, 13, none⟩ = some (.string a0_13) := (blk_cell BK678.out 13).trans rfl
       have hfz22_0 := blk_frozen BK678.out 0
       have hfz22_1 := blk_frozen BK678.out 1
       have hfz22_2 := blk_frozen BK678.out 2
       have hfz22_3 := blk_frozen BK678.out 3
       have hfz22_4 := blk_frozen BK678.out 4
       have hfz22_5 := blk_frozen BK678.out 5
       have hfz22_6 := blk_frozen BK678.out 6
       have hfz22_7 := blk_frozen BK678.out 7
       have hfz22_8 := blk_frozen BK678.out 8
       have hfz22_9 := blk_frozen BK678.out 9
       have hfz22_10 := blk_frozen BK678.out 10
       have hfz22_11 := blk_frozen BK678.out 11
       have hfz22_12 := blk_frozen BK678.out 12
       have hfz22_13 := blk_frozen BK678.out 13
       go_wp2_with (first | ((with_reducible refine gate_callee (f := 103) rfl ?_); refine goesL_ (some 5) rfl rfl Tryd.func103 (by kernel_rfl) rfl #[.string a0_0] rfl au30 ?_; (with_reducible refine (impl_isKey.calls k a0_0 _ _ A4.out).mono ?_); rintro e w' ⟨rfl, ⟨nd, rfl⟩⟩; refine ⟨_, rfl, ?_⟩) | (go_at_call 104; (with_reducible refine (impl_isKind.calls a0_1 _ _ A6.out).mono ?_); rintro e w' ⟨rfl, ⟨nd, rfl⟩⟩) | (go_at_call 64; (with_reducible refine (impl_areNames.calls (hG := au0) k _ _ l0_2 _ _ ?side1 ?side2 A8.out).mono ?_); (case side1 => repeat (first | exact (Kd.C_below HR0_2.out au23) | (with_reducible refine Kd.C_alloc ?_ _) | (with_reducible refine Kd.C_drewN ?_ _) | (with_reducible refine Kd.C_drew ?_))); (case side2 => exact HC0_2.out); rintro e w23 ⟨rfl, hb⟩; have n0_ := Aside0.mk (blk_below (g := gb678) (o := .cells #[.string a0_0, .int .i64 a0_1, .slice A0_2 l0_2.length c0_2, .slice A0_3 l0_3.length c0_3, .string a0_4, .string a0_5, .string a0_6, .int .i64 a0_7, .int .i64 a0_8, .int .i64 a0_9, .bool a0_10, .int .i64 a0_11, .string a0_12, .string a0_13] 65 (0, 0)) au46 hb); have n1_ := Aside0.mk (below_step au23 hb); clear BK678; clear HB; have BK678 := n0_; have HB := n1_; clear n0_ n1_; (try clear hb); (try clear hb2); (try clear hk); (try clear hi); have hcz24_0 : w23.cell? ⟨gb678, 0, none⟩ = some (.string a0_0) := (blk_cell BK678.out 0).trans rfl; have hcz24_1 : w23.cell? ⟨gb678, 1, none⟩ = some (.int .i64 a0_1) := (blk_cell BK678.out 1).trans rfl; have hcz24_2 : w23.cell? ⟨gb678, 2, none⟩ = some (.slice A0_2 l0_2.length c0_2) := (blk_cell BK678.out 2).trans rfl; have hcz24_3 : w23.cell? ⟨gb678, 3, none⟩ = some (.slice A0_3 l0_3.length c0_3) := (blk_cell BK678.out 3).trans rfl; have hcz24_4 : w23.cell? ⟨gb678, 4, none⟩ = some (.string a0_4) := (blk_cell BK678.out 4).trans rfl; have hcz24_5 : w23.cell? ⟨gb678, 5, none⟩ = some (.string a0_5) := (blk_cell BK678.out 5).trans rfl; have hcz24_6 : w23.cell? ⟨gb678, 6, none⟩ = some (.string a0_6) := (blk_cell BK678.out 6).trans rfl; have hcz24_7 : w23.cell? ⟨gb678, 7, none⟩ = some (.int .i64 a0_7) := (blk_cell BK678.out 7).trans rfl; have hcz24_8 : w23.cell? ⟨gb678, 8, none⟩ = some (.int .i64 a0_8) := (blk_cell BK678.out 8).trans rfl; have hcz24_9 : w23.cell? ⟨gb678, 9, none⟩ = some (.int .i64 a0_9) := (blk_cell BK678.out 9).trans rfl; have hcz24_10 : w23.cell? ⟨gb678, 10, none⟩ = some (.bool a0_10) := (blk_cell BK678.out 10).trans rfl; have hcz24_11 : w23.cell? ⟨gb678, 11, none⟩ = some (.int .i64 a0_11) := (blk_cell BK678.out 11).trans rfl; have hcz24_12 : w23.cell? ⟨gb678, 12, none⟩ = some (.string a0_12) := (blk_cell BK678.out 12).trans rfl; have hcz24_13 : w23.cell? ⟨gb678, 13, none⟩ = some (.string a0_13) := (blk_cell BK678.out 13).trans rfl; have hfz24_0 := blk_frozen BK678.out 0; have hfz24_1 := blk_frozen BK678.out 1; have hfz24_2 := blk_frozen BK678.out 2; have hfz24_3 := blk_frozen BK678.out 3; have hfz24_4 := blk_frozen BK678.out 4; have hfz24_5 := blk_frozen BK678.out 5; have hfz24_6 := blk_frozen BK678.out 6; have hfz24_7 := blk_frozen BK678.out 7; have hfz24_8 := blk_frozen BK678.out 8; have hfz24_9 := blk_frozen BK678.out 9; have hfz24_10 := blk_frozen BK678.out 10; have hfz24_11 := blk_frozen BK678.out 11; have hfz24_12 := blk_frozen BK678.out 12; have hfz24_13 := blk_frozen BK678.out 13) | (go_at_call 64; (with_reducible refine (impl_areNames.calls (hG := au0) k _ _ l0_3 _ _ ?side1 ?side2 A10.out).mono ?_); (case side1 => repeat (first | exact (Kd.C_below HR0_3.out HB.out) | (with_reducible refine Kd.C_alloc ?_ _) | (with_reducible refine Kd.C_drewN ?_ _) | (with_reducible refine Kd.C_drew ?_))); (case side2 => exact HC0_3.out); rintro e w25 ⟨rfl, hb⟩; have n0_ := Aside0.mk (blk_below (g := gb678) (o := .cells #[.string a0_0, .int .i64 a0_1, .slice A0_2 l0_2.length c0_2, .slice A0_3 l0_3.length c0_3, .string a0_4, .string a0_5, .string a0_6, .int .i64 a0_7, .int .i64 a0_8, .int .i64 a0_9, .bool a0_10, .int .i64 a0_11, .string a0_12, .string a0_13] 65 (0, 0)) au46 hb); have n1_ := Aside0.mk (below_step au23 hb); clear BK678; clear HB; have BK678 := n0_; have HB := n1_; clear n0_ n1_; (try clear hb); (try clear hb2); (try clear hk); (try clear hi); have hcz26_0 : w25.cell? ⟨gb678, 0, none⟩ = some (.string a0_0) := (blk_cell BK678.out 0).trans rfl; have hcz26_1 : w25.cell? ⟨gb678, 1, none⟩ = some (.int .i64 a0_1) := (blk_cell BK678.out 1).trans rfl; have hcz26_2 : w25.cell? ⟨gb678, 2, none⟩ = some (.slice A0_2 l0_2.length c0_2) := (blk_cell BK678.out 2).trans rfl; have hcz26_3 : w25.cell? ⟨gb678, 3, none⟩ = some (.slice A0_3 l0_3.length c0_3) := (blk_cell BK678.out 3).trans rfl; have hcz26_4 : w25.cell? ⟨gb678, 4, none⟩ = some (.string a0_4) := (blk_cell BK678.out 4).trans rfl; have hcz26_5 : w25.cell? ⟨gb678, 5, none⟩ = some (.string a0_5) := (blk_cell BK678.out 5).trans rfl; have hcz26_6 : w25.cell? ⟨gb678, 6, none⟩ = some (.string a0_6) := (blk_cell BK678.out 6).trans rfl; have hcz26_7 : w25.cell? ⟨gb678, 7, none⟩ = some (.int .i64 a0_7) := (blk_cell BK678.out 7).trans rfl; have hcz26_8 : w25.cell? ⟨gb678, 8, none⟩ = some (.int .i64 a0_8) := (blk_cell BK678.out 8).trans rfl; have hcz26_9 : w25.cell? ⟨gb678, 9, none⟩ = some (.int .i64 a0_9) := (blk_cell BK678.out 9).trans rfl; have hcz26_10 : w25.cell? ⟨gb678, 10, none⟩ = some (.bool a0_10) := (blk_cell BK678.out 10).trans rfl; have hcz26_11 : w25.cell? ⟨gb678, 11, none⟩ = some (.int .i64 a0_11) := (blk_cell BK678.out 11).trans rfl; have hcz26_12 : w25.cell? ⟨gb678, 12, none⟩ = some (.string a0_12) := (blk_cell BK678.out 12).trans rfl; have hcz26_13 : w25.cell? ⟨gb678, 13, none⟩ = some (.string a0_13) := (blk_cell BK678.out 13).trans rfl; have hfz26_0 := blk_frozen BK678.out 0; have hfz26_1 := blk_frozen BK678.out 1; have hfz26_2 := blk_frozen BK678.out 2; have hfz26_3 := blk_frozen BK678.out 3; have hfz26_4 := blk_frozen BK678.out 4; have hfz26_5 := blk_frozen BK678.out 5; have hfz26_6 := blk_frozen BK678.out 6; have hfz26_7 := blk_frozen BK678.out 7; have hfz26_8 := blk_frozen BK678.out 8; have hfz26_9 := blk_frozen BK678.out 9; have hfz26_10 := blk_frozen BK678.out 10; have hfz26_11 := blk_frozen BK678.out 11; have hfz26_12 := blk_frozen BK678.out 12; have hfz26_13 := blk_frozen BK678.out 13) | (go_at_call 105; (with_reducible refine (impl_IsValidDate.calls k a0_7 a0_8 a0_9 a0_10 _ _ A12.out).mono ?_); rintro e w27 ⟨rfl, hb⟩; have n0_ := Aside0.mk (blk_below (g := gb678) (o := .cells #[.string a0_0, .int .i64 a0_1, .slice A0_2 l0_2.length c0_2, .slice A0_3 l0_3.length c0_3, .string a0_4, .string a0_5, .string a0_6, .int .i64 a0_7, .int .i64 a0_8, .int .i64 a0_9, .bool a0_10, .int .i64 a0_11, .string a0_12, .string a0_13] 65 (0, 0)) au46 hb); have n1_ := Aside0.mk (below_step au23 hb); clear BK678; clear HB; have BK678 := n0_; have HB := n1_; clear n0_ n1_; (try clear hb); (try clear hb2); (try clear hk); (try clear hi)))
       go_meet
       case rel => exact ⟨_, (true), au61, H', ⟨by first | omega | exact Nat.le_refl _⟩, ⟨by (with_reducible repeat (first | refine blk_drewN ?_ _ | refine blk_drew ?_ | refine blk_alloc ?_ _)); exact BK678.out⟩, ⟨by repeat (first | (with_reducible first | exact HB.out | apply below_alloc | apply pw_below_drewN | apply below_drew1 | refine below_set ?_ GE678.out) | exact HB.out)⟩⟩
     ·
      replace c11 := Bool.eq_false_iff.mpr c11
      subst c11
      replace H := (if_neg (show ¬ (false = true) by decide)).symm.trans H
      have H' := Aside0.mk H
      clear H
      have hcz28_0 : w3.cell? ⟨gb678, 0, none⟩ = some (.string a0_0) := (blk_cell BK678.out 0).trans rfl
      have hcz28_1 : w3.cell? ⟨gb678, 1, none⟩ = some (.int .i64 a0_1) := (blk_cell BK678.out 1).trans rfl
      have hcz28_2 : w3.cell? ⟨gb678, 2, none⟩ = some (.slice A0_2 l0_2.length c0_2) := (blk_cell BK678.out 2).trans rfl
      have hcz28_3 : w3.cell? ⟨gb678, 3, none⟩ = some (.slice A0_3 l0_3.length c0_3) := (blk_cell BK678.out 3).trans rfl
      have hcz28_4 : w3.cell? ⟨gb678, 4, none⟩ = some (.string a0_4) := (blk_cell BK678.out 4).trans rfl
      have hcz28_5 : w3.cell? ⟨gb678, 5, none⟩ = some (.string a0_5) := (blk_cell BK678.out 5).trans rfl
      have hcz28_6 : w3.cell? ⟨gb678, 6, none⟩ = some (.string a0_6) := (blk_cell BK678.out 6).trans rfl
      have hcz28_7 : w3.cell? ⟨gb678, 7, none⟩ = some (.int .i64 a0_7) := (blk_cell BK678.out 7).trans rfl
      have hcz28_8 : w3.cell? ⟨gb678, 8, none⟩ = some (.int .i64 a0_8) := (blk_cell BK678.out 8).trans rfl
      have hcz28_9 : w3.cell? ⟨gb678, 9, none⟩ = some (.int .i64 a0_9) := (blk_cell BK678.out 9).trans rfl
      have hcz28_10 : w3.cell? ⟨gb678, 10, none⟩ = some (.bool a0_10) := (blk_cell BK678.out 10).trans rfl
      have hcz28_11 : w3.cell? ⟨gb678, 11, none⟩ = some (.int .i64 a0_11) := (blk_cell BK678.out 11).trans rfl
      have hcz28_12 : w3.cell? ⟨gb678, 12, none⟩ = some (.string a0_12) := (blk_cell BK678.out 12).trans rfl
      have hcz28_13 : w3.cell? ⟨gb678, 13, none⟩ = some (.string a0_13) := (blk_cell BK678.out 13).trans rfl
      have hfz28_0 := blk_frozen BK678.out 0
      have hfz28_1 := blk_frozen BK678.out 1
      have hfz28_2 := blk_frozen BK678.out 2
      have hfz28_3 := blk_frozen BK678.out 3
      have hfz28_4 := blk_frozen BK678.out 4
      have hfz28_5 := blk_frozen BK678.out 5
      have hfz28_6 := blk_frozen BK678.out 6
      have hfz28_7 := blk_frozen BK678.out 7
      have hfz28_8 := blk_frozen BK678.out 8
      have hfz28_9 := blk_frozen BK678.out 9
      have hfz28_10 := blk_frozen BK678.out 10
      have hfz28_11 := blk_frozen BK678.out 11
      have hfz28_12 := blk_frozen BK678.out 12
      have hfz28_13 := blk_frozen BK678.out 13
      go_wp2_with (first | ((with_reducible refine gate_callee (f := 103) rfl ?_); refine goesL_ (some 5) rfl rfl Tryd.func103 (by kernel_rfl) rfl #[.string a0_0] rfl au30 ?_; (with_reducible refine (impl_isKey.calls k a0_0 _ _ A4.out).mono ?_); rintro e w' ⟨rfl, ⟨nd, rfl⟩⟩; refine ⟨_, rfl, ?_⟩) | (go_at_call 104; (with_reducible refine (impl_isKind.calls a0_1 _ _ A6.out).mono ?_); rintro e w' ⟨rfl, ⟨nd, rfl⟩⟩) | (go_at_call 64; (with_reducible refine (impl_areNames.calls (hG := au0) k _ _ l0_2 _ _ ?side1 ?side2 A8.out).mono ?_); (case side1 => repeat (first | exact (Kd.C_below HR0_2.out au23) | (with_reducible refine Kd.C_alloc ?_ _) | (with_reducible refine Kd.C_drewN ?_ _) | (with_reducible refine Kd.C_drew ?_))); (case side2 => exact HC0_2.out); rintro e w29 ⟨rfl, hb⟩; have n0_ := Aside0.mk (blk_below (g := gb678) (o := .cells #[.string a0_0, .int .i64 a0_1, .slice A0_2 l0_2.length c0_2, .slice A0_3 l0_3.length c0_3, .string a0_4, .string a0_5, .string a0_6, .int .i64 a0_7, .int .i64 a0_8, .int .i64 a0_9, .bool a0_10, .int .i64 a0_11, .string a0_12, .string a0_13] 65 (0, 0)) au46 hb); have n1_ := Aside0.mk (below_step au23 hb); clear BK678; clear HB; have BK678 := n0_; have HB := n1_; clear n0_ n1_; (try clear hb); (try clear hb2); (try clear hk); (try clear hi); have hcz30_0 : w29.cell? ⟨gb678, 0, none⟩ = some (.string a0_0) := (blk_cell BK678.out 0).trans rfl; have hcz30_1 : w29.cell? ⟨gb678, 1, none⟩ = some (.int .i64 a0_1) := (blk_cell BK678.out 1).trans rfl; have hcz30_2 : w29.cell? ⟨gb678, 2, none⟩ = some (.slice A0_2 l0_2.length c0_2) := (blk_cell BK678.out 2).trans rfl; have hcz30_3 : w29.cell? ⟨gb678, 3, none⟩ = some (.slice A0_3 l0_3.length c0_3) := (blk_cell BK678.out 3).trans rfl; have hcz30_4 : w29.cell? ⟨gb678, 4, none⟩ = some (.string a0_4) := (blk_cell BK678.out 4).trans rfl; have hcz30_5 : w29.cell? ⟨gb678, 5, none⟩ = some (.string a0_5) := (blk_cell BK678.out 5).trans rfl; have hcz30_6 : w29.cell? ⟨gb678, 6, none⟩ = some (.string a0_6) := (blk_cell BK678.out 6).trans rfl; have hcz30_7 : w29.cell? ⟨gb678, 7, none⟩ = some (.int .i64 a0_7) := (blk_cell BK678.out 7).trans rfl; have hcz30_8 : w29.cell? ⟨gb678, 8, none⟩ = some (.int .i64 a0_8) := (blk_cell BK678.out 8).trans rfl; have hcz30_9 : w29.cell? ⟨gb678, 9, none⟩ = some (.int .i64 a0_9) := (blk_cell BK678.out 9).trans rfl; have hcz30_10 : w29.cell? ⟨gb678, 10, none⟩ = some (.bool a0_10) := (blk_cell BK678.out 10).trans rfl; have hcz30_11 : w29.cell? ⟨gb678, 11, none⟩ = some (.int .i64 a0_11) := (blk_cell BK678.out 11).trans rfl; have hcz30_12 : w29.cell? ⟨gb678, 12, none⟩ = some (.string a0_12) := (blk_cell BK678.out 12).trans rfl; have hcz30_13 : w29.cell? ⟨gb678, 13, none⟩ = some (.string a0_13) := (blk_cell BK678.out 13).trans rfl; have hfz30_0 := blk_frozen BK678.out 0; have hfz30_1 := blk_frozen BK678.out 1; have hfz30_2 := blk_frozen BK678.out 2; have hfz30_3 := blk_frozen BK678.out 3; have hfz30_4 := blk_frozen BK678.out 4; have hfz30_5 := blk_frozen BK678.out 5; have hfz30_6 := blk_frozen BK678.out 6; have hfz30_7 := blk_frozen BK678.out 7; have hfz30_8 := blk_frozen BK678.out 8; have hfz30_9 := blk_frozen BK678.out 9; have hfz30_10 := blk_frozen BK678.out 10; have hfz30_11 := blk_frozen BK678.out 11; have hfz30_12 := blk_frozen BK678.out 12; have hfz30_13 := blk_frozen BK678.out 13) | (go_at_call 64; (with_reducible refine (impl_areNames.calls (hG := au0) k _ _ l0_3 _ _ ?side1 ?side2 A10.out).mono ?_); (case side1 => repeat (first | exact (Kd.C_below HR0_3.out HB.out) | (with_reducible refine Kd.C_alloc ?_ _) | (with_reducible refine Kd.C_drewN ?_ _) | (with_reducible refine Kd.C_drew ?_))); (case side2 => exact HC0_3.out); rintro e w31 ⟨rfl, hb⟩; have n0_ := Aside0.mk (blk_below (g := gb678) (o := .cells #[.string a0_0, .int .i64 a0_1, .slice A0_2 l0_2.length c0_2, .slice A0_3 l0_3.length c0_3, .string a0_4, .string a0_5, .string a0_6, .int .i64 a0_7, .int .i64 a0_8, .int .i64 a0_9, .bool a0_10, .int .i64 a0_11, .string a0_12, .string a0_13] 65 (0, 0)) au46 hb); have n1_ := Aside0.mk (below_step au23 hb); clear BK678; clear HB; have BK678 := n0_; have HB := n1_; clear n0_ n1_; (try clear hb); (try clear hb2); (try clear hk); (try clear hi)))
      go_meet
      case rel => exact ⟨_, (true), au61, H', ⟨by first | omega | exact Nat.le_refl _⟩, ⟨by (with_reducible repeat (first | refine blk_drewN ?_ _ | refine blk_drew ?_ | refine blk_alloc ?_ _)); exact BK678.out⟩, ⟨by repeat (first | (with_reducible first | exact HB.out | apply below_alloc | apply pw_below_drewN | apply below_drew1 | refine below_set ?_ GE678.out) | exact HB.out)⟩⟩
    ·
     replace c9 := Bool.eq_false_iff.mpr c9
     subst c9
     replace H := (if_neg (show ¬ (false = true) by decide)).symm.trans H
     have H' := Aside0.mk H
     clear H
     have hcz32_0 : w3.cell? ⟨gb678, 0, none⟩ = some (.string a0_0) := (blk_cell BK678.out 0).trans rfl
     have hcz32_1 : w3.cell? ⟨gb678, 1, none⟩ = some (.int .i64 a0_1) := (blk_cell BK678.out 1).trans rfl
     have hcz32_2 : w3.cell? ⟨gb678, 2, none⟩ = some (.slice A0_2 l0_2.length c0_2) := (blk_cell BK678.out 2).trans rfl
     have hcz32_3 : w3.cell? ⟨gb678, 3, none⟩ = some (.slice A0_3 l0_3.length c0_3) := (blk_cell BK678.out 3).trans rfl
     have hcz32_4 : w3.cell? ⟨gb678, 4, none⟩ = some (.string a0_4) := (blk_cell BK678.out 4).trans rfl
     have hcz32_5 : w3.cell? ⟨gb678, 5, none⟩ = some (.string a0_5) := (blk_cell BK678.out 5).trans rfl
     have hcz32_6 : w3.cell? ⟨gb678, 6, none⟩ = some (.string a0_6) := (blk_cell BK678.out 6).trans rfl
     have hcz32_7 : w3.cell? ⟨gb678, 7, none⟩ = some (.int .i64 a0_7) := (blk_cell BK678.out 7).trans rfl
     have hcz32_8 : w3.cell? ⟨gb678, 8, none⟩ = some (.int .i64 a0_8) := (blk_cell BK678.out 8).trans rfl
     have hcz32_9 : w3.cell? ⟨gb678, 9, none⟩ = some (.int .i64 a0_9) := (blk_cell BK678.out 9).trans rfl
     have hcz32_10 : w3.cell? ⟨gb678, 10, none⟩ = some (.bool a0_10) := (blk_cell BK678.out 10).trans rfl
     have hcz32_11 : w3.cell? ⟨gb678, 11, none⟩ = some (.int .i64 a0_11) := (blk_cell BK678.out 11).trans rfl
     have hcz32_12 : w3.cell? ⟨gb678, 12, none⟩ = some (.string a0_12) := (blk_cell BK678.out 12).trans rfl
     have hcz32_13 : w3.cell? ⟨gb678, 13, none⟩ = some (.string a0_13) := (blk_cell BK678.out 13).trans rfl
     have hfz32_0 := blk_frozen BK678.out 0
     have hfz32_1 := blk_frozen BK678.out 1
     have hfz32_2 := blk_frozen BK678.out 2
     have hfz32_3 := blk_frozen BK678.out 3
     have hfz32_4 := blk_frozen BK678.out 4
     have hfz32_5 := blk_frozen BK678.out 5
     have hfz32_6 := blk_frozen BK678.out 6
     have hfz32_7 := blk_frozen BK678.out 7
     have hfz32_8 := blk_frozen BK678.out 8
     have hfz32_9 := blk_frozen BK678.out 9
     have hfz32_10 := blk_frozen BK678.out 10
     have hfz32_11 := blk_frozen BK678.out 11
     have hfz32_12 := blk_frozen BK678.out 12
     have hfz32_13 := blk_frozen BK678.out 13
     go_wp2_with (first | ((with_reducible refine gate_callee (f := 103) rfl ?_); refine goesL_ (some 5) rfl rfl Tryd.func103 (by kernel_rfl) rfl #[.string a0_0] rfl au30 ?_; (with_reducible refine (impl_isKey.calls k a0_0 _ _ A4.out).mono ?_); rintro e w' ⟨rfl, ⟨nd, rfl⟩⟩; refine ⟨_, rfl, ?_⟩) | (go_at_call 104; (with_reducible refine (impl_isKind.calls a0_1 _ _ A6.out).mono ?_); rintro e w' ⟨rfl, ⟨nd, rfl⟩⟩) | (go_at_call 64; (with_reducible refine (impl_areNames.calls (hG := au0) k _ _ l0_2 _ _ ?side1 ?side2 A8.out).mono ?_); (case side1 => repeat (first | exact (Kd.C_below HR0_2.out au23) | (with_reducible refine Kd.C_alloc ?_ _) | (with_reducible refine Kd.C_drewN ?_ _) | (with_reducible refine Kd.C_drew ?_))); (case side2 => exact HC0_2.out); rintro e w33 ⟨rfl, hb⟩; have n0_ := Aside0.mk (blk_below (g := gb678) (o := .cells #[.string a0_0, .int .i64 a0_1, .slice A0_2 l0_2.length c0_2, .slice A0_3 l0_3.length c0_3, .string a0_4, .string a0_5, .string a0_6, .int .i64 a0_7, .int .i64 a0_8, .int .i64 a0_9, .bool a0_10, .int .i64 a0_11, .string a0_12, .string a0_13] 65 (0, 0)) au46 hb); have n1_ := Aside0.mk (below_step au23 hb); clear BK678; clear HB; have BK678 := n0_; have HB := n1_; clear n0_ n1_; (try clear hb); (try clear hb2); (try clear hk); (try clear hi)))
     go_meet
     case rel => exact ⟨_, (true), au61, H', ⟨by first | omega | exact Nat.le_refl _⟩, ⟨by (with_reducible repeat (first | refine blk_drewN ?_ _ | refine blk_drew ?_ | refine blk_alloc ?_ _)); exact BK678.out⟩, ⟨by repeat (first | (with_reducible first | exact HB.out | apply below_alloc | apply pw_below_drewN | apply below_drew1 | refine below_set ?_ GE678.out) | exact HB.out)⟩⟩
   ·
    replace c7 := Bool.eq_false_iff.mpr c7
    subst c7
    replace H := (if_neg (show ¬ (false = true) by decide)).symm.trans H
    have H' := Aside0.mk H
    clear H
    exact impl_IsValidEntry.L1
  ·
   replace c5 := Bool.eq_false_iff.mpr c5
   subst c5
   replace H := (if_neg (show ¬ (false = true) by decide)).symm.trans H
   have H' := Aside0.mk H
   clear H
   exact impl_IsValidEntry.L1
 case rest =>
  clear HC2
  try clear c1
  try clear p2
  try clear c4
  try clear c5
  try clear c7
  try clear c9
  try clear c10
  try clear c11
  try clear c13
  try clear hcz15_0
  try clear hcz15_1
  try clear hcz15_10
  try clear hcz15_11
  try clear hcz15_12
  try clear hcz15_13
  try clear hcz15_2
  try clear hcz15_3
  try clear hcz15_4
  try clear hcz15_5
  try clear hcz15_6
  try clear hcz15_7
  try clear hcz15_8
  try clear hcz15_9
  try clear hcz17_0
  try clear hcz17_1
  try clear hcz17_10
  try clear hcz17_11
  try clear hcz17_12
  try clear hcz17_13
  try clear hcz17_2
  try clear hcz17_3
  try clear hcz17_4
  try clear hcz17_5
  try clear hcz17_6
  try clear hcz17_7
  try clear hcz17_8
  try clear hcz17_9
  try clear hcz19_0
  try clear hcz19_1
  try clear hcz19_10
  try clear hcz19_11
  try clear hcz19_12
  try clear hcz19_13
  try clear hcz19_2
  try clear hcz19_3
  try clear hcz19_4
  try clear hcz19_5
  try clear hcz19_6
  try clear hcz19_7
  try clear hcz19_8
  try clear hcz19_9
  try clear hcz21_0
  try clear hcz21_1
  try clear hcz21_10
  try clear hcz21_11
  try clear hcz21_12
  try clear hcz21_13
  try clear hcz21_2
  try clear hcz21_3
  try clear hcz21_4
  try clear hcz21_5
  try clear hcz21_6
  try clear hcz21_7
  try clear hcz21_8
  try clear hcz21_9
  try clear hcz22_0
  try clear hcz22_1
  try clear hcz22_10
  try clear hcz22_11
  try clear hcz22_12
  try clear hcz22_13
  try clear hcz22_2
  try clear hcz22_3
  try clear hcz22_4
  try clear hcz22_5
  try clear hcz22_6
  try clear hcz22_7
  try clear hcz22_8
  try clear hcz22_9
  try clear hcz24_0
  try clear hcz24_1
  try clear hcz24_10
  try clear hcz24_11
  try clear hcz24_12
  try clear hcz24_13
  try clear hcz24_2
  try clear hcz24_3
  try clear hcz24_4
  try clear hcz24_5
  try clear hcz24_6
  try clear hcz24_7
  try clear hcz24_8
  try clear hcz24_9
  try clear hcz26_0
  try clear hcz26_1
  try clear hcz26_10
  try clear hcz26_11
  try clear hcz26_12
  try clear hcz26_13
  try clear hcz26_2
  try clear hcz26_3
  try clear hcz26_4
  try clear hcz26_5
  try clear hcz26_6
  try clear hcz26_7
  try clear hcz26_8
  try clear hcz26_9
  try clear hcz28_0
  try clear hcz28_1
  try clear hcz28_10
  try clear hcz28_11
  try clear hcz28_12
  try clear hcz28_13
  try clear hcz28_2
  try clear hcz28_3
  try clear hcz28_4
  try clear hcz28_5
  try clear hcz28_6
  try clear hcz28_7
  try clear hcz28_8
  try clear hcz28_9
  try clear hcz30_0
  try clear hcz30_1
  try clear hcz30_10
  try clear hcz30_11
  try clear hcz30_12
  try clear hcz30_13
  try clear hcz30_2
  try clear hcz30_3
  try clear hcz30_4
  try clear hcz30_5
  try clear hcz30_6
  try clear hcz30_7
  try clear hcz30_8
  try clear hcz30_9
  try clear hcz32_0
  try clear hcz32_1
  try clear hcz32_10
  try clear hcz32_11
  try clear hcz32_12
  try clear hcz32_13
  try clear hcz32_2
  try clear hcz32_3
  try clear hcz32_4
  try clear hcz32_5
  try clear hcz32_6
  try clear hcz32_7
  try clear hcz32_8
  try clear hcz32_9
  try clear hcz34_0
  try clear hcz34_1
  try clear hcz34_10
  try clear hcz34_11
  try clear hcz34_12
  try clear hcz34_13
  try clear hcz34_2
  try clear hcz34_3
  try clear hcz34_4
  try clear hcz34_5
  try clear hcz34_6
  try clear hcz34_7
  try clear hcz34_8
  try clear hcz34_9
  try clear hcz35_0
  try clear hcz35_1
  try clear hcz35_10
  try clear hcz35_11
  try clear hcz35_12
  try clear hcz35_13
  try clear hcz35_2
  try clear hcz35_3
  try clear hcz35_4
  try clear hcz35_5
  try clear hcz35_6
  try clear hcz35_7
  try clear hcz35_8
  try clear hcz35_9
  try clear hfz15_0
  try clear hfz15_1
  try clear hfz15_10
  try clear hfz15_11
  try clear hfz15_12
  try clear hfz15_13
  try clear hfz15_2
  try clear hfz15_3
  try clear hfz15_4
  try clear hfz15_5
  try clear hfz15_6
  try clear hfz15_7
  try clear hfz15_8
  try clear hfz15_9
  try clear hfz17_0
  try clear hfz17_1
  try clear hfz17_10
  try clear hfz17_11
  try clear hfz17_12
  try clear hfz17_13
  try clear hfz17_2
  try clear hfz17_3
  try clear hfz17_4
  try clear hfz17_5
  try clear hfz17_6
  try clear hfz17_7
  try clear hfz17_8
  try clear hfz17_9
  try clear hfz19_0
  try clear hfz19_1
  try clear hfz19_10
  try clear hfz19_11
  try clear hfz19_12
  try clear hfz19_13
  try clear hfz19_2
  try clear hfz19_3
  try clear hfz19_4
  try clear hfz19_5
  try clear hfz19_6
  try clear hfz19_7
  try clear hfz19_8
  try clear hfz19_9
  try clear hfz21_0
  try clear hfz21_1
  try clear hfz21_10
  try clear hfz21_11
  try clear hfz21_12
  try clear hfz21_13
  try clear hfz21_2
  try clear hfz21_3
  try clear hfz21_4
  try clear hfz21_5
  try clear hfz21_6
  try clear hfz21_7
  try clear hfz21_8
  try clear hfz21_9
  try clear hfz22_0
  try clear hfz22_1
  try clear hfz22_10
  try clear hfz22_11
  try clear hfz22_12
  try clear hfz22_13
  try clear hfz22_2
  try clear hfz22_3
  try clear hfz22_4
  try clear hfz22_5
  try clear hfz22_6
  try clear hfz22_7
  try clear hfz22_8
  try clear hfz22_9
  try clear hfz24_0
  try clear hfz24_1
  try clear hfz24_10
  try clear hfz24_11
  try clear hfz24_12
  try clear hfz24_13
  try clear hfz24_2
  try clear hfz24_3
  try clear hfz24_4
  try clear hfz24_5
  try clear hfz24_6
  try clear hfz24_7
  try clear hfz24_8
  try clear hfz24_9
  try clear hfz26_0
  try clear hfz26_1
  try clear hfz26_10
  try clear hfz26_11
  try clear hfz26_12
  try clear hfz26_13
  try clear hfz26_2
  try clear hfz26_3
  try clear hfz26_4
  try clear hfz26_5
  try clear hfz26_6
  try clear hfz26_7
  try clear hfz26_8
  try clear hfz26_9
  try clear hfz28_0
  try clear hfz28_1
  try clear hfz28_10
  try clear hfz28_11
  try clear hfz28_12
  try clear hfz28_13
  try clear hfz28_2
  try clear hfz28_3
  try clear hfz28_4
  try clear hfz28_5
  try clear hfz28_6
  try clear hfz28_7
  try clear hfz28_8
  try clear hfz28_9
  try clear hfz30_0
  try clear hfz30_1
  try clear hfz30_10
  try clear hfz30_11
  try clear hfz30_12
  try clear hfz30_13
  try clear hfz30_2
  try clear hfz30_3
  try clear hfz30_4
  try clear hfz30_5
  try clear hfz30_6
  try clear hfz30_7
  try clear hfz30_8
  try clear hfz30_9
  try clear hfz32_0
  try clear hfz32_1
  try clear hfz32_10
  try clear hfz32_11
  try clear hfz32_12
  try clear hfz32_13
  try clear hfz32_2
  try clear hfz32_3
  try clear hfz32_4
  try clear hfz32_5
  try clear hfz32_6
  try clear hfz32_7
  try clear hfz32_8
  try clear hfz32_9
  try clear hfz34_0
  try clear hfz34_1
  try clear hfz34_10
  try clear hfz34_11
  try clear hfz34_12
  try clear hfz34_13
  try clear hfz34_2
  try clear hfz34_3
  try clear hfz34_4
  try clear hfz34_5
  try clear hfz34_6
  try clear hfz34_7
  try clear hfz34_8
  try clear hfz34_9
  try clear hfz35_0
  try clear hfz35_1
  try clear hfz35_10
  try clear hfz35_11
  try clear hfz35_12
  try clear hfz35_13
  try clear hfz35_2
  try clear hfz35_3
  try clear hfz35_4
  try clear hfz35_5
  try clear hfz35_6
  try clear hfz35_7
  try clear hfz35_8
  try clear hfz35_9
  obtain ⟨kq, x36_1, rfl, HA, HJ1, BK678, HB⟩ := hcut
  cases kq with
  | zero => exact absurd HA.out (by simp [impl_IsValidEntry.j0])
  | succ kj1 =>
   have H := HA.out
   clear HA
   simp only [impl_IsValidEntry.j0] at H
   by_cases c36 : x36_1 = true
   ·
    subst c36
    replace H := (if_pos rfl).symm.trans H
    obtain rfl := Option.some.inj H
    go_wp2
    go_ret
    exact ax11
   ·
    replace c36 := Bool.eq_false_iff.mpr c36
    subst c36
    replace H := (if_neg (show ¬ (false = true) by decide)).symm.trans H
    replace H := Option.bind_eq_some_iff.mp H
    obtain ⟨t685, A370, H⟩ := H
    try dsimp only at H
    have A37 := Aside0.mk A370
    clear A370
    by_cases c38 : t685 = true
    ·
     subst c38
     replace H := (if_pos rfl).symm.trans H
     replace H := Option.bind_eq_some_iff.mp H
     obtain ⟨t686, A390, H⟩ := H
     try dsimp only at H
     have A39 := Aside0.mk A390
     clear A390
     by_cases c40 : t686 = true
     ·
      subst c40
      replace H := (if_pos rfl).symm.trans H
      replace H := Option.bind_eq_some_iff.mp H
      obtain ⟨t687, A410, H⟩ := H
      try dsimp only at H
      have A41 := Aside0.mk A410
      clear A410
      by_cases c42 : t687 = true
      ·
       subst c42
       replace H := (if_pos rfl).symm.trans H
       replace H := Option.bind_eq_some_iff.mp H
       obtain ⟨t688, A430, H⟩ := H
       try dsimp only at H
       have A43 := Aside0.mk A430
       clear A430
       by_cases c44 : t688 = true
       ·
        subst c44
        replace H := (if_pos rfl).symm.trans H
        by_cases c45 : a0_13.toList = ([] : List UInt8)
        ·
         rw [if_pos c45] at H
         have c45b0 : (a0_13.toList == ([] : List UInt8)) = true := beq_iff_eq.mpr c45
         have c45b1 : (a0_13.toList != ([] : List UInt8)) = false := bne_eq_false_iff_eq.mpr c45
         clear c45
         obtain rfl := Option.some.inj H
         exact impl_IsValidEntry.L0
        ·
         rw [if_neg c45] at H
         have c45b0 : (a0_13.toList == ([] : List UInt8)) = false := beq_eq_false_iff_ne.mpr c45
         have c45b1 : (a0_13.toList != ([] : List UInt8)) = true := bne_iff_ne.mpr c45
         replace H := Option.bind_eq_some_iff.mp H
         obtain ⟨t689, A550, H⟩ := H
         try dsimp only at H
         have A55 := Aside0.mk A550
         clear A550
         by_cases c56 : t689 = true
         ·
          subst c56
          replace H := (if_pos rfl).symm.trans H
          obtain rfl := Option.some.inj H
          exact impl_IsValidEntry.L0
         ·
          replace c56 := Bool.eq_false_iff.mpr c56
          subst c56
          replace H := (if_neg (show ¬ (false = true) by decide)).symm.trans H
          obtain rfl := Option.some.inj H
          exact impl_IsValidEntry.L0
       ·
        replace c44 := Bool.eq_false_iff.mpr c44
        subst c44
        replace H := (if_neg (show ¬ (false = true) by decide)).symm.trans H
        obtain rfl := Option.some.inj H
        have hcz75_0 : wc.cell? ⟨gb678, 0, none⟩ = some (.string a0_0) := (blk_cell BK678.out 0).trans rfl
        have hcz75_1 : wc.cell? ⟨gb678, 1, none⟩ = some (.int .i64 a0_1) := (blk_cell BK678.out 1).trans rfl
        have hcz75_2 : wc.cell? ⟨gb678, 2, none⟩ = some (.slice A0_2 l0_2.length c0_2) := (blk_cell BK678.out 2).trans rfl
        have hcz75_3 : wc.cell? ⟨gb678, 3, none⟩ = some (.slice A0_3 l0_3.length c0_3) := (blk_cell BK678.out 3).trans rfl
        have hcz75_4 : wc.cell? ⟨gb678, 4, none⟩ = some (.string a0_4) := (blk_cell BK678.out 4).trans rfl
        have hcz75_5 : wc.cell? ⟨gb678, 5, none⟩ = some (.string a0_5) := (blk_cell BK678.out 5).trans rfl
        have hcz75_6 : wc.cell? ⟨gb678, 6, none⟩ = some (.string a0_6) := (blk_cell BK678.out 6).trans rfl
        have hcz75_7 : wc.cell? ⟨gb678, 7, none⟩ = some (.int .i64 a0_7) := (blk_cell BK678.out 7).trans rfl
        have hcz75_8 : wc.cell? ⟨gb678, 8, none⟩ = some (.int .i64 a0_8) := (blk_cell BK678.out 8).trans rfl
        have hcz75_9 : wc.cell? ⟨gb678, 9, none⟩ = some (.int .i64 a0_9) := (blk_cell BK678.out 9).trans rfl
        have hcz75_10 : wc.cell? ⟨gb678, 10, none⟩ = some (.bool a0_10) := (blk_cell BK678.out 10).trans rfl
        have hcz75_11 : wc.cell? ⟨gb678, 11, none⟩ = some (.int .i64 a0_11) := (blk_cell BK678.out 11).trans rfl
        have hcz75_12 : wc.cell? ⟨gb678, 12, none⟩ = some (.string a0_12) := (blk_cell BK678.out 12).trans rfl
        have hcz75_13 : wc.cell? ⟨gb678, 13, none⟩ = some (.string a0_13) := (blk_cell BK678.out 13).trans rfl
        have hfz75_0 := blk_frozen BK678.out 0
        have hfz75_1 := blk_frozen BK678.out 1
        have hfz75_2 := blk_frozen BK678.out 2
        have hfz75_3 := blk_frozen BK678.out 3
        have hfz75_4 := blk_frozen BK678.out 4
        have hfz75_5 := blk_frozen BK678.out 5
        have hfz75_6 := blk_frozen BK678.out 6
        have hfz75_7 := blk_frozen BK678.out 7
        have hfz75_8 := blk_frozen BK678.out 8
        have hfz75_9 := blk_frozen BK678.out 9
        have hfz75_10 := blk_frozen BK678.out 10
        have hfz75_11 := blk_frozen BK678.out 11
        have hfz75_12 := blk_frozen BK678.out 12
        have hfz75_13 := blk_frozen BK678.out 13
        go_wp2_with (first | ((with_reducible refine gate_callee (f := 107) rfl ?_); refine goesL_ (some 39) rfl rfl Tryd.func107 (by kernel_rfl) rfl #[.string a0_4] rfl au30 ?_; (with_reducible refine (impl_isText.calls kj1 a0_4 _ _ A37.out).mono ?_); rintro e w76 ⟨rfl, hb⟩; refine ⟨_, rfl, ?_⟩; have n0_ := Aside0.mk (blk_below (g := gb678) (o := .cells #[.string a0_0, .int .i64 a0_1, .slice A0_2 l0_2.length c0_2, .slice A0_3 l0_3.length c0_3, .string a0_4, .string a0_5, .string a0_6, .int .i64 a0_7, .int .i64 a0_8, .int .i64 a0_9, .bool a0_10, .int .i64 a0_11, .string a0_12, .string a0_13] 65 (0, 0)) au46 hb); have n1_ := Aside0.mk (below_step au23 hb); clear BK678; clear HB; have BK678 := n0_; have HB := n1_; clear n0_ n1_; (try clear hb); (try clear hb2); (try clear hk); (try clear hi); have hcz77_0 : w76.cell? ⟨gb678, 0, none⟩ = some (.string a0_0) := (blk_cell BK678.out 0).trans rfl; have hcz77_1 : w76.cell? ⟨gb678, 1, none⟩ = some (.int .i64 a0_1) := (blk_cell BK678.out 1).trans rfl; have hcz77_2 : w76.cell? ⟨gb678, 2, none⟩ = some (.slice A0_2 l0_2.length c0_2) := (blk_cell BK678.out 2).trans rfl; have hcz77_3 : w76.cell? ⟨gb678, 3, none⟩ = some (.slice A0_3 l0_3.length c0_3) := (blk_cell BK678.out 3).trans rfl; have hcz77_4 : w76.cell? ⟨gb678, 4, none⟩ = some (.string a0_4) := (blk_cell BK678.out 4).trans rfl; have hcz77_5 : w76.cell? ⟨gb678, 5, none⟩ = some (.string a0_5) := (blk_cell BK678.out 5).trans rfl; have hcz77_6 : w76.cell? ⟨gb678, 6, none⟩ = some (.string a0_6) := (blk_cell BK678.out 6).trans rfl; have hcz77_7 : w76.cell? ⟨gb678, 7, none⟩ = some (.int .i64 a0_7) := (blk_cell BK678.out 7).trans rfl; have hcz77_8 : w76.cell? ⟨gb678, 8, none⟩ = some (.int .i64 a0_8) := (blk_cell BK678.out 8).trans rfl; have hcz77_9 : w76.cell? ⟨gb678, 9, none⟩ = some (.int .i64 a0_9) := (blk_cell BK678.out 9).trans rfl; have hcz77_10 : w76.cell? ⟨gb678, 10, none⟩ = some (.bool a0_10) := (blk_cell BK678.out 10).trans rfl; have hcz77_11 : w76.cell? ⟨gb678, 11, none⟩ = some (.int .i64 a0_11) := (blk_cell BK678.out 11).trans rfl; have hcz77_12 : w76.cell? ⟨gb678, 12, none⟩ = some (.string a0_12) := (blk_cell BK678.out 12).trans rfl; have hcz77_13 : w76.cell? ⟨gb678, 13, none⟩ = some (.string a0_13) := (blk_cell BK678.out 13).trans rfl; have hfz77_0 := blk_frozen BK678.out 0; have hfz77_1 := blk_frozen BK678.out 1; have hfz77_2 := blk_frozen BK678.out 2; have hfz77_3 := blk_frozen BK678.out 3; have hfz77_4 := blk_frozen BK678.out 4; have hfz77_5 := blk_frozen BK678.out 5; have hfz77_6 := blk_frozen BK678.out 6; have hfz77_7 := blk_frozen BK678.out 7; have hfz77_8 := blk_frozen BK678.out 8; have hfz77_9 := blk_frozen BK678.out 9; have hfz77_10 := blk_frozen BK678.out 10; have hfz77_11 := blk_frozen BK678.out 11; have hfz77_12 := blk_frozen BK678.out 12; have hfz77_13 := blk_frozen BK678.out 13) | (go_at_call 107; (with_reducible refine (impl_isText.calls kj1 a0_5 _ _ A39.out).mono ?_); rintro e w78 ⟨rfl, hb⟩; have n0_ := Aside0.mk (blk_below (g := gb678) (o := .cells #[.string a0_0, .int .i64 a0_1, .slice A0_2 l0_2.length c0_2, .slice A0_3 l0_3.length c0_3, .string a0_4, .string a0_5, .string a0_6, .int .i64 a0_7, .int .i64 a0_8, .int .i64 a0_9, .bool a0_10, .int .i64 a0_11, .string a0_12, .string a0_13] 65 (0, 0)) au46 hb); have n1_ := Aside0.mk (below_step au23 hb); clear BK678; clear HB; have BK678 := n0_; have HB := n1_; clear n0_ n1_; (try clear hb); (try clear hb2); (try clear hk); (try clear hi); have hcz79_0 : w78.cell? ⟨gb678, 0, none⟩ = some (.string a0_0) := (blk_cell BK678.out 0).trans rfl; have hcz79_1 : w78.cell? ⟨gb678, 1, none⟩ = some (.int .i64 a0_1) := (blk_cell BK678.out 1).trans rfl; have hcz79_2 : w78.cell? ⟨gb678, 2, none⟩ = some (.slice A0_2 l0_2.length c0_2) := (blk_cell BK678.out 2).trans rfl; have hcz79_3 : w78.cell? ⟨gb678, 3, none⟩ = some (.slice A0_3 l0_3.length c0_3) := (blk_cell BK678.out 3).trans rfl; have hcz79_4 : w78.cell? ⟨gb678, 4, none⟩ = some (.string a0_4) := (blk_cell BK678.out 4).trans rfl; have hcz79_5 : w78.cell? ⟨gb678, 5, none⟩ = some (.string a0_5) := (blk_cell BK678.out 5).trans rfl; have hcz79_6 : w78.cell? ⟨gb678, 6, none⟩ = some (.string a0_6) := (blk_cell BK678.out 6).trans rfl; have hcz79_7 : w78.cell? ⟨gb678, 7, none⟩ = some (.int .i64 a0_7) := (blk_cell BK678.out 7).trans rfl; have hcz79_8 : w78.cell? ⟨gb678, 8, none⟩ = some (.int .i64 a0_8) := (blk_cell BK678.out 8).trans rfl; have hcz79_9 : w78.cell? ⟨gb678, 9, none⟩ = some (.int .i64 a0_9) := (blk_cell BK678.out 9).trans rfl; have hcz79_10 : w78.cell? ⟨gb678, 10, none⟩ = some (.bool a0_10) := (blk_cell BK678.out 10).trans rfl; have hcz79_11 : w78.cell? ⟨gb678, 11, none⟩ = some (.int .i64 a0_11) := (blk_cell BK678.out 11).trans rfl; have hcz79_12 : w78.cell? ⟨gb678, 12, none⟩ = some (.string a0_12) := (blk_cell BK678.out 12).trans rfl; have hcz79_13 : w78.cell? ⟨gb678, 13, none⟩ = some (.string a0_13) := (blk_cell BK678.out 13).trans rfl; have hfz79_0 := blk_frozen BK678.out 0; have hfz79_1 := blk_frozen BK678.out 1; have hfz79_2 := blk_frozen BK678.out 2; have hfz79_3 := blk_frozen BK678.out 3; have hfz79_4 := blk_frozen BK678.out 4; have hfz79_5 := blk_frozen BK678.out 5; have hfz79_6 := blk_frozen BK678.out 6; have hfz79_7 := blk_frozen BK678.out 7; have hfz79_8 := blk_frozen BK678.out 8; have hfz79_9 := blk_frozen BK678.out 9; have hfz79_10 := blk_frozen BK678.out 10; have hfz79_11 := blk_frozen BK678.out 11; have hfz79_12 := blk_frozen BK678.out 12; have hfz79_13 := blk_frozen BK678.out 13) | (go_at_call 107; (with_reducible refine (impl_isText.calls kj1 a0_6 _ _ A41.out).mono ?_); rintro e w80 ⟨rfl, hb⟩; have n0_ := Aside0.mk (blk_below (g := gb678) (o := .cells #[.string a0_0, .int .i64 a0_1, .slice A0_2 l0_2.length c0_2, .slice A0_3 l0_3.length c0_3, .string a0_4, .string a0_5, .string a0_6, .int .i64 a0_7, .int .i64 a0_8, .int .i64 a0_9, .bool a0_10, .int .i64 a0_11, .string a0_12, .string a0_13] 65 (0, 0)) au46 hb); have n1_ := Aside0.mk (below_step au23 hb); clear BK678; clear HB; have BK678 := n0_; have HB := n1_; clear n0_ n1_; (try clear hb); (try clear hb2); (try clear hk); (try clear hi); have hcz81_0 : w80.cell? ⟨gb678, 0, none⟩ = some (.string a0_0) := (blk_cell BK678.out 0).trans rfl; have hcz81_1 : w80.cell? ⟨gb678, 1, none⟩ = some (.int .i64 a0_1) := (blk_cell BK678.out 1).trans rfl; have hcz81_2 : w80.cell? ⟨gb678, 2, none⟩ = some (.slice A0_2 l0_2.length c0_2) := (blk_cell BK678.out 2).trans rfl; have hcz81_3 : w80.cell? ⟨gb678, 3, none⟩ = some (.slice A0_3 l0_3.length c0_3) := (blk_cell BK678.out 3).trans rfl; have hcz81_4 : w80.cell? ⟨gb678, 4, none⟩ = some (.string a0_4) := (blk_cell BK678.out 4).trans rfl; have hcz81_5 : w80.cell? ⟨gb678, 5, none⟩ = some (.string a0_5) := (blk_cell BK678.out 5).trans rfl; have hcz81_6 : w80.cell? ⟨gb678, 6, none⟩ = some (.string a0_6) := (blk_cell BK678.out 6).trans rfl; have hcz81_7 : w80.cell? ⟨gb678, 7, none⟩ = some (.int .i64 a0_7) := (blk_cell BK678.out 7).trans rfl; have hcz81_8 : w80.cell? ⟨gb678, 8, none⟩ = some (.int .i64 a0_8) := (blk_cell BK678.out 8).trans rfl; have hcz81_9 : w80.cell? ⟨gb678, 9, none⟩ = some (.int .i64 a0_9) := (blk_cell BK678.out 9).trans rfl; have hcz81_10 : w80.cell? ⟨gb678, 10, none⟩ = some (.bool a0_10) := (blk_cell BK678.out 10).trans rfl; have hcz81_11 : w80.cell? ⟨gb678, 11, none⟩ = some (.int .i64 a0_11) := (blk_cell BK678.out 11).trans rfl; have hcz81_12 : w80.cell? ⟨gb678, 12, none⟩ = some (.string a0_12) := (blk_cell BK678.out 12).trans rfl; have hcz81_13 : w80.cell? ⟨gb678, 13, none⟩ = some (.string a0_13) := (blk_cell BK678.out 13).trans rfl; have hfz81_0 := blk_frozen BK678.out 0; have hfz81_1 := blk_frozen BK678.out 1; have hfz81_2 := blk_frozen BK678.out 2; have hfz81_3 := blk_frozen BK678.out 3; have hfz81_4 := blk_frozen BK678.out 4; have hfz81_5 := blk_frozen BK678.out 5; have hfz81_6 := blk_frozen BK678.out 6; have hfz81_7 := blk_frozen BK678.out 7; have hfz81_8 := blk_frozen BK678.out 8; have hfz81_9 := blk_frozen BK678.out 9; have hfz81_10 := blk_frozen BK678.out 10; have hfz81_11 := blk_frozen BK678.out 11; have hfz81_12 := blk_frozen BK678.out 12; have hfz81_13 := blk_frozen BK678.out 13) | (go_at_call 107; (with_reducible refine (impl_isText.calls kj1 a0_12 _ _ A43.out).mono ?_); rintro e w82 ⟨rfl, hb⟩; have n0_ := Aside0.mk (blk_below (g := gb678) (o := .cells #[.string a0_0, .int .i64 a0_1, .slice A0_2 l0_2.length c0_2, .slice A0_3 l0_3.length c0_3, .string a0_4, .string a0_5, .string a0_6, .int .i64 a0_7, .int .i64 a0_8, .int .i64 a0_9, .bool a0_10, .int .i64 a0_11, .string a0_12, .string a0_13] 65 (0, 0)) au46 hb); have n1_ := Aside0.mk (below_step au23 hb); clear BK678; clear HB; have BK678 := n0_; have HB := n1_; clear n0_ n1_; (try clear hb); (try clear hb2); (try clear hk); (try clear hi)))
        go_ret
        exact ax11
      ·
       replace c42 := Bool.eq_false_iff.mpr c42
       subst c42
       replace H := (if_neg (show ¬ (false = true) by decide)).symm.trans H
       obtain rfl := Option.some.inj H
       have hcz83_0 : wc.cell? ⟨gb678, 0, none⟩ = some (.string a0_0) := (blk_cell BK678.out 0).trans rfl
       have hcz83_1 : wc.cell? ⟨gb678, 1, none⟩ = some (.int .i64 a0_1) := (blk_cell BK678.out 1).trans rfl
       have hcz83_2 : wc.cell? ⟨gb678, 2, none⟩ = some (.slice A0_2 l0_2.length c0_2) := (blk_cell BK678.out 2).trans rfl
       have hcz83_3 : wc.cell? ⟨gb678, 3, none⟩ = some (.slice A0_3 l0_3.length c0_3) := (blk_cell BK678.out 3).trans rfl
       have hcz83_4 : wc.cell? ⟨gb678, 4, none⟩ = some (.string a0_4) := (blk_cell BK678.out 4).trans rfl
       have hcz83_5 : wc.cell? ⟨gb678, 5, none⟩ = some (.string a0_5) := (blk_cell BK678.out 5).trans rfl
       have hcz83_6 : wc.cell? ⟨gb678, 6, none⟩ = some (.string a0_6) := (blk_cell BK678.out 6).trans rfl
       have hcz83_7 : wc.cell? ⟨gb678, 7, none⟩ = some (.int .i64 a0_7) := (blk_cell BK678.out 7).trans rfl
       have hcz83_8 : wc.cell? ⟨gb678, 8, none⟩ = some (.int .i64 a0_8) := (blk_cell BK678.out 8).trans rfl
       have hcz83_9 : wc.cell? ⟨gb678, 9, none⟩ = some (.int .i64 a0_9) := (blk_cell BK678.out 9).trans rfl
       have hcz83_10 : wc.cell? ⟨gb678, 10, none⟩ = some (.bool a0_10) := (blk_cell BK678.out 10).trans rfl
       have hcz83_11 : wc.cell? ⟨gb678, 11, none⟩ = some (.int .i64 a0_11) := (blk_cell BK678.out 11).trans rfl
       have hcz83_12 : wc.cell? ⟨gb678, 12, none⟩ = some (.string a0_12) := (blk_cell BK678.out 12).trans rfl
       have hcz83_13 : wc.cell? ⟨gb678, 13, none⟩ = some (.string a0_13) := (blk_cell BK678.out 13).trans rfl
       have hfz83_0 := blk_frozen BK678.out 0
       have hfz83_1 := blk_frozen BK678.out 1
       have hfz83_2 := blk_frozen BK678.out 2
       have hfz83_3 := blk_frozen BK678.out 3
       have hfz83_4 := blk_frozen BK678.out 4
       have hfz83_5 := blk_frozen BK678.out 5
       have hfz83_6 := blk_frozen BK678.out 6
       have hfz83_7 := blk_frozen BK678.out 7
       have hfz83_8 := blk_frozen BK678.out 8
       have hfz83_9 := blk_frozen BK678.out 9
       have hfz83_10 := blk_frozen BK678.out 10
       have hfz83_11 := blk_frozen BK678.out 11
       have hfz83_12 := blk_frozen BK678.out 12
       have hfz83_13 := blk_frozen BK678.out 13
       go_wp2_with (first | ((with_reducible refine gate_callee (f := 107) rfl ?_); refine goesL_ (some 39) rfl rfl Tryd.func107 (by kernel_rfl) rfl #[.string a0_4] rfl au30 ?_; (with_reducible refine (impl_isText.calls kj1 a0_4 _ _ A37.out).mono ?_); rintro e w84 ⟨rfl, hb⟩; refine ⟨_, rfl, ?_⟩; have n0_ := Aside0.mk (blk_below (g := gb678) (o := .cells #[.string a0_0, .int .i64 a0_1, .slice A0_2 l0_2.length c0_2, .slice A0_3 l0_3.length c0_3, .string a0_4, .string a0_5, .string a0_6, .int .i64 a0_7, .int .i64 a0_8, .int .i64 a0_9, .bool a0_10, .int .i64 a0_11, .string a0_12, .string a0_13] 65 (0, 0)) au46 hb); have n1_ := Aside0.mk (below_step au23 hb); clear BK678; clear HB; have BK678 := n0_; have HB := n1_; clear n0_ n1_; (try clear hb); (try clear hb2); (try clear hk); (try clear hi); have hcz85_0 : w84.cell? ⟨gb678, 0, none⟩ = some (.string a0_0) := (blk_cell BK678.out 0).trans rfl; have hcz85_1 : w84.cell? ⟨gb678, 1, none⟩ = some (.int .i64 a0_1) := (blk_cell BK678.out 1).trans rfl; have hcz85_2 : w84.cell? ⟨gb678, 2, none⟩ = some (.slice A0_2 l0_2.length c0_2) := (blk_cell BK678.out 2).trans rfl; have hcz85_3 : w84.cell? ⟨gb678, 3, none⟩ = some (.slice A0_3 l0_3.length c0_3) := (blk_cell BK678.out 3).trans rfl; have hcz85_4 : w84.cell? ⟨gb678, 4, none⟩ = some (.string a0_4) := (blk_cell BK678.out 4).trans rfl; have hcz85_5 : w84.cell? ⟨gb678, 5, none⟩ = some (.string a0_5) := (blk_cell BK678.out 5).trans rfl; have hcz85_6 : w84.cell? ⟨gb678, 6, none⟩ = some (.string a0_6) := (blk_cell BK678.out 6).trans rfl; have hcz85_7 : w84.cell? ⟨gb678, 7, none⟩ = some (.int .i64 a0_7) := (blk_cell BK678.out 7).trans rfl; have hcz85_8 : w84.cell? ⟨gb678, 8, none⟩ = some (.int .i64 a0_8) := (blk_cell BK678.out 8).trans rfl; have hcz85_9 : w84.cell? ⟨gb678, 9, none⟩ = some (.int .i64 a0_9) := (blk_cell BK678.out 9).trans rfl; have hcz85_10 : w84.cell? ⟨gb678, 10, none⟩ = some (.bool a0_10) := (blk_cell BK678.out 10).trans rfl; have hcz85_11 : w84.cell? ⟨gb678, 11, none⟩ = some (.int .i64 a0_11) := (blk_cell BK678.out 11).trans rfl; have hcz85_12 : w84.cell? ⟨gb678, 12, none⟩ = some (.string a0_12) := (blk_cell BK678.out 12).trans rfl; have hcz85_13 : w84.cell? ⟨gb678, 13, none⟩ = some (.string a0_13) := (blk_cell BK678.out 13).trans rfl; have hfz85_0 := blk_frozen BK678.out 0; have hfz85_1 := blk_frozen BK678.out 1; have hfz85_2 := blk_frozen BK678.out 2; have hfz85_3 := blk_frozen BK678.out 3; have hfz85_4 := blk_frozen BK678.out 4; have hfz85_5 := blk_frozen BK678.out 5; have hfz85_6 := blk_frozen BK678.out 6; have hfz85_7 := blk_frozen BK678.out 7; have hfz85_8 := blk_frozen BK678.out 8; have hfz85_9 := blk_frozen BK678.out 9; have hfz85_10 := blk_frozen BK678.out 10; have hfz85_11 := blk_frozen BK678.out 11; have hfz85_12 := blk_frozen BK678.out 12; have hfz85_13 := blk_frozen BK678.out 13) | (go_at_call 107; (with_reducible refine (impl_isText.calls kj1 a0_5 _ _ A39.out).mono ?_); rintro e w86 ⟨rfl, hb⟩; have n0_ := Aside0.mk (blk_below (g := gb678) (o := .cells #[.string a0_0, .int .i64 a0_1, .slice A0_2 l0_2.length c0_2, .slice A0_3 l0_3.length c0_3, .string a0_4, .string a0_5, .string a0_6, .int .i64 a0_7, .int .i64 a0_8, .int .i64 a0_9, .bool a0_10, .int .i64 a0_11, .string a0_12, .string a0_13] 65 (0, 0)) au46 hb); have n1_ := Aside0.mk (below_step au23 hb); clear BK678; clear HB; have BK678 := n0_; have HB := n1_; clear n0_ n1_; (try clear hb); (try clear hb2); (try clear hk); (try clear hi); have hcz87_0 : w86.cell? ⟨gb678, 0, none⟩ = some (.string a0_0) := (blk_cell BK678.out 0).trans rfl; have hcz87_1 : w86.cell? ⟨gb678, 1, none⟩ = some (.int .i64 a0_1) := (blk_cell BK678.out 1).trans rfl; have hcz87_2 : w86.cell? ⟨gb678, 2, none⟩ = some (.slice A0_2 l0_2.length c0_2) := (blk_cell BK678.out 2).trans rfl; have hcz87_3 : w86.cell? ⟨gb678, 3, none⟩ = some (.slice A0_3 l0_3.length c0_3) := (blk_cell BK678.out 3).trans rfl; have hcz87_4 : w86.cell? ⟨gb678, 4, none⟩ = some (.string a0_4) := (blk_cell BK678.out 4).trans rfl; have hcz87_5 : w86.cell? ⟨gb678, 5, none⟩ = some (.string a0_5) := (blk_cell BK678.out 5).trans rfl; have hcz87_6 : w86.cell? ⟨gb678, 6, none⟩ = some (.string a0_6) := (blk_cell BK678.out 6).trans rfl; have hcz87_7 : w86.cell? ⟨gb678, 7, none⟩ = some (.int .i64 a0_7) := (blk_cell BK678.out 7).trans rfl; have hcz87_8 : w86.cell? ⟨gb678, 8, none⟩ = some (.int .i64 a0_8) := (blk_cell BK678.out 8).trans rfl; have hcz87_9 : w86.cell? ⟨gb678, 9, none⟩ = some (.int .i64 a0_9) := (blk_cell BK678.out 9).trans rfl; have hcz87_10 : w86.cell? ⟨gb678, 10, none⟩ = some (.bool a0_10) := (blk_cell BK678.out 10).trans rfl; have hcz87_11 : w86.cell? ⟨gb678, 11, none⟩ = some (.int .i64 a0_11) := (blk_cell BK678.out 11).trans rfl; have hcz87_12 : w86.cell? ⟨gb678, 12, none⟩ = some (.string a0_12) := (blk_cell BK678.out 12).trans rfl; have hcz87_13 : w86.cell? ⟨gb678, 13, none⟩ = some (.string a0_13) := (blk_cell BK678.out 13).trans rfl; have hfz87_0 := blk_frozen BK678.out 0; have hfz87_1 := blk_frozen BK678.out 1; have hfz87_2 := blk_frozen BK678.out 2; have hfz87_3 := blk_frozen BK678.out 3; have hfz87_4 := blk_frozen BK678.out 4; have hfz87_5 := blk_frozen BK678.out 5; have hfz87_6 := blk_frozen BK678.out 6; have hfz87_7 := blk_frozen BK678.out 7; have hfz87_8 := blk_frozen BK678.out 8; have hfz87_9 := blk_frozen BK678.out 9; have hfz87_10 := blk_frozen BK678.out 10; have hfz87_11 := blk_frozen BK678.out 11; have hfz87_12 := blk_frozen BK678.out 12; have hfz87_13 := blk_frozen BK678.out 13) | (go_at_call 107; (with_reducible refine (impl_isText.calls kj1 a0_6 _ _ A41.out).mono ?_); rintro e w88 ⟨rfl, hb⟩; have n0_ := Aside0.mk (blk_below (g := gb678) (o := .cells #[.string a0_0, .int .i64 a0_1, .slice A0_2 l0_2.length c0_2, .slice A0_3 l0_3.length c0_3, .string a0_4, .string a0_5, .string a0_6, .int .i64 a0_7, .int .i64 a0_8, .int .i64 a0_9, .bool a0_10, .int .i64 a0_11, .string a0_12, .string a0_13] 65 (0, 0)) au46 hb); have n1_ := Aside0.mk (below_step au23 hb); clear BK678; clear HB; have BK678 := n0_; have HB := n1_; clear n0_ n1_; (try clear hb); (try clear hb2); (try clear hk); (try clear hi)))
       go_ret
       exact ax11
     ·
      replace c40 := Bool.eq_false_iff.mpr c40
      subst c40
      replace H := (if_neg (show ¬ (false = true) by decide)).symm.trans H
      obtain rfl := Option.some.inj H
      have hcz89_0 : wc.cell? ⟨gb678, 0, none⟩ = some (.string a0_0) := (blk_cell BK678.out 0).trans rfl
      have hcz89_1 : wc.cell? ⟨gb678, 1, none⟩ = some (.int .i64 a0_1) := (blk_cell BK678.out 1).trans rfl
      have hcz89_2 : wc.cell? ⟨gb678, 2, none⟩ = some (.slice A0_2 l0_2.length c0_2) := (blk_cell BK678.out 2).trans rfl
      have hcz89_3 : wc.cell? ⟨gb678, 3, none⟩ = some (.slice A0_3 l0_3.length c0_3) := (blk_cell BK678.out 3).trans rfl
      have hcz89_4 : wc.cell? ⟨gb678, 4, none⟩ = some (.string a0_4) := (blk_cell BK678.out 4).trans rfl
      have hcz89_5 : wc.cell? ⟨gb678, 5, none⟩ = some (.string a0_5) := (blk_cell BK678.out 5).trans rfl
      have hcz89_6 : wc.cell? ⟨gb678, 6, none⟩ = some (.string a0_6) := (blk_cell BK678.out 6).trans rfl
      have hcz89_7 : wc.cell? ⟨gb678, 7, none⟩ = some (.int .i64 a0_7) := (blk_cell BK678.out 7).trans rfl
      have hcz89_8 : wc.cell? ⟨gb678, 8, none⟩ = some (.int .i64 a0_8) := (blk_cell BK678.out 8).trans rfl
      have hcz89_9 : wc.cell? ⟨gb678, 9, none⟩ = some (.int .i64 a0_9) := (blk_cell BK678.out 9).trans rfl
      have hcz89_10 : wc.cell? ⟨gb678, 10, none⟩ = some (.bool a0_10) := (blk_cell BK678.out 10).trans rfl
      have hcz89_11 : wc.cell? ⟨gb678, 11, none⟩ = some (.int .i64 a0_11) := (blk_cell BK678.out 11).trans rfl
      have hcz89_12 : wc.cell? ⟨gb678, 12, none⟩ = some (.string a0_12) := (blk_cell BK678.out 12).trans rfl
      have hcz89_13 : wc.cell? ⟨gb678, 13, none⟩ = some (.string a0_13) := (blk_cell BK678.out 13).trans rfl
      have hfz89_0 := blk_frozen BK678.out 0
      have hfz89_1 := blk_frozen BK678.out 1
      have hfz89_2 := blk_frozen BK678.out 2
      have hfz89_3 := blk_frozen BK678.out 3
      have hfz89_4 := blk_frozen BK678.out 4
      have hfz89_5 := blk_frozen BK678.out 5
      have hfz89_6 := blk_frozen BK678.out 6
      have hfz89_7 := blk_frozen BK678.out 7
      have hfz89_8 := blk_frozen BK678.out 8
      have hfz89_9 := blk_frozen BK678.out 9
      have hfz89_10 := blk_frozen BK678.out 10
      have hfz89_11 := blk_frozen BK678.out 11
      have hfz89_12 := blk_frozen BK678.out 12
      have hfz89_13 := blk_frozen BK678.out 13
      go_wp2_with (first | ((with_reducible refine gate_callee (f := 107) rfl ?_); refine goesL_ (some 39) rfl rfl Tryd.func107 (by kernel_rfl) rfl #[.string a0_4] rfl au30 ?_; (with_reducible refine (impl_isText.calls kj1 a0_4 _ _ A37.out).mono ?_); rintro e w90 ⟨rfl, hb⟩; refine ⟨_, rfl, ?_⟩; have n0_ := Aside0.mk (blk_below (g := gb678) (o := .cells #[.string a0_0, .int .i64 a0_1, .slice A0_2 l0_2.length c0_2, .slice A0_3 l0_3.length c0_3, .string a0_4, .string a0_5, .string a0_6, .int .i64 a0_7, .int .i64 a0_8, .int .i64 a0_9, .bool a0_10, .int .i64 a0_11, .string a0_12, .string a0_13] 65 (0, 0)) au46 hb); have n1_ := Aside0.mk (below_step au23 hb); clear BK678; clear HB; have BK678 := n0_; have HB := n1_; clear n0_ n1_; (try clear hb); (try clear hb2); (try clear hk); (try clear hi); have hcz91_0 : w90.cell? ⟨gb678, 0, none⟩ = some (.string a0_0) := (blk_cell BK678.out 0).trans rfl; have hcz91_1 : w90.cell? ⟨gb678, 1, none⟩ = some (.int .i64 a0_1) := (blk_cell BK678.out 1).trans rfl; have hcz91_2 : w90.cell? ⟨gb678, 2, none⟩ = some (.slice A0_2 l0_2.length c0_2) := (blk_cell BK678.out 2).trans rfl; have hcz91_3 : w90.cell? ⟨gb678, 3, none⟩ = some (.slice A0_3 l0_3.length c0_3) := (blk_cell BK678.out 3).trans rfl; have hcz91_4 : w90.cell? ⟨gb678, 4, none⟩ = some (.string a0_4) := (blk_cell BK678.out 4).trans rfl; have hcz91_5 : w90.cell? ⟨gb678, 5, none⟩ = some (.string a0_5) := (blk_cell BK678.out 5).trans rfl; have hcz91_6 : w90.cell? ⟨gb678, 6, none⟩ = some (.string a0_6) := (blk_cell BK678.out 6).trans rfl; have hcz91_7 : w90.cell? ⟨gb678, 7, none⟩ = some (.int .i64 a0_7) := (blk_cell BK678.out 7).trans rfl; have hcz91_8 : w90.cell? ⟨gb678, 8, none⟩ = some (.int .i64 a0_8) := (blk_cell BK678.out 8).trans rfl; have hcz91_9 : w90.cell? ⟨gb678, 9, none⟩ = some (.int .i64 a0_9) := (blk_cell BK678.out 9).trans rfl; have hcz91_10 : w90.cell? ⟨gb678, 10, none⟩ = some (.bool a0_10) := (blk_cell BK678.out 10).trans rfl; have hcz91_11 : w90.cell? ⟨gb678, 11, none⟩ = some (.int .i64 a0_11) := (blk_cell BK678.out 11).trans rfl; have hcz91_12 : w90.cell? ⟨gb678, 12, none⟩ = some (.string a0_12) := (blk_cell BK678.out 12).trans rfl; have hcz91_13 : w90.cell? ⟨gb678, 13, none⟩ = some (.string a0_13) := (blk_cell BK678.out 13).trans rfl; have hfz91_0 := blk_frozen BK678.out 0; have hfz91_1 := blk_frozen BK678.out 1; have hfz91_2 := blk_frozen BK678.out 2; have hfz91_3 := blk_frozen BK678.out 3; have hfz91_4 := blk_frozen BK678.out 4; have hfz91_5 := blk_frozen BK678.out 5; have hfz91_6 := blk_frozen BK678.out 6; have hfz91_7 := blk_frozen BK678.out 7; have hfz91_8 := blk_frozen BK678.out 8; have hfz91_9 := blk_frozen BK678.out 9; have hfz91_10 := blk_frozen BK678.out 10; have hfz91_11 := blk_frozen BK678.out 11; have hfz91_12 := blk_frozen BK678.out 12; have hfz91_13 := blk_frozen BK678.out 13) | (go_at_call 107; (with_reducible refine (impl_isText.calls kj1 a0_5 _ _ A39.out).mono ?_); rintro e w92 ⟨rfl, hb⟩; have n0_ := Aside0.mk (blk_below (g := gb678) (o := .cells #[.string a0_0, .int .i64 a0_1, .slice A0_2 l0_2.length c0_2, .slice A0_3 l0_3.length c0_3, .string a0_4, .string a0_5, .string a0_6, .int .i64 a0_7, .int .i64 a0_8, .int .i64 a0_9, .bool a0_10, .int .i64 a0_11, .string a0_12, .string a0_13] 65 (0, 0)) au46 hb); have n1_ := Aside0.mk (below_step au23 hb); clear BK678; clear HB; have BK678 := n0_; have HB := n1_; clear n0_ n1_; (try clear hb); (try clear hb2); (try clear hk); (try clear hi)))
      go_ret
      exact ax11
    ·
     replace c38 := Bool.eq_false_iff.mpr c38
     subst c38
     replace H := (if_neg (show ¬ (false = true) by decide)).symm.trans H
     obtain rfl := Option.some.inj H
     have hcz93_0 : wc.cell? ⟨gb678, 0, none⟩ = some (.string a0_0) := (blk_cell BK678.out 0).trans rfl
     have hcz93_1 : wc.cell? ⟨gb678, 1, none⟩ = some (.int .i64 a0_1) := (blk_cell BK678.out 1).trans rfl
     have hcz93_2 : wc.cell? ⟨gb678, 2, none⟩ = some (.slice A0_2 l0_2.length c0_2) := (blk_cell BK678.out 2).trans rfl
     have hcz93_3 : wc.cell? ⟨gb678, 3, none⟩ = some (.slice A0_3 l0_3.length c0_3) := (blk_cell BK678.out 3).trans rfl
     have hcz93_4 : wc.cell? ⟨gb678, 4, none⟩ = some (.string a0_4) := (blk_cell BK678.out 4).trans rfl
     have hcz93_5 : wc.cell? ⟨gb678, 5, none⟩ = some (.string a0_5) := (blk_cell BK678.out 5).trans rfl
     have hcz93_6 : wc.cell? ⟨gb678, 6, none⟩ = some (.string a0_6) := (blk_cell BK678.out 6).trans rfl
     have hcz93_7 : wc.cell? ⟨gb678, 7, none⟩ = some (.int .i64 a0_7) := (blk_cell BK678.out 7).trans rfl
     have hcz93_8 : wc.cell? ⟨gb678, 8, none⟩ = some (.int .i64 a0_8) := (blk_cell BK678.out 8).trans rfl
     have hcz93_9 : wc.cell? ⟨gb678, 9, none⟩ = some (.int .i64 a0_9) := (blk_cell BK678.out 9).trans rfl
     have hcz93_10 : wc.cell? ⟨gb678, 10, none⟩ = some (.bool a0_10) := (blk_cell BK678.out 10).trans rfl
     have hcz93_11 : wc.cell? ⟨gb678, 11, none⟩ = some (.int .i64 a0_11) := (blk_cell BK678.out 11).trans rfl
     have hcz93_12 : wc.cell? ⟨gb678, 12, none⟩ = some (.string a0_12) := (blk_cell BK678.out 12).trans rfl
     have hcz93_13 : wc.cell? ⟨gb678, 13, none⟩ = some (.string a0_13) := (blk_cell BK678.out 13).trans rfl
     have hfz93_0 := blk_frozen BK678.out 0
     have hfz93_1 := blk_frozen BK678.out 1
     have hfz93_2 := blk_frozen BK678.out 2
     have hfz93_3 := blk_frozen BK678.out 3
     have hfz93_4 := blk_frozen BK678.out 4
     have hfz93_5 := blk_frozen BK678.out 5
     have hfz93_6 := blk_frozen BK678.out 6
     have hfz93_7 := blk_frozen BK678.out 7
     have hfz93_8 := blk_frozen BK678.out 8
     have hfz93_9 := blk_frozen BK678.out 9
     have hfz93_10 := blk_frozen BK678.out 10
     have hfz93_11 := blk_frozen BK678.out 11
     have hfz93_12 := blk_frozen BK678.out 12
     have hfz93_13 := blk_frozen BK678.out 13
     go_wp2_with (first | ((with_reducible refine gate_callee (f := 107) rfl ?_); refine goesL_ (some 39) rfl rfl Tryd.func107 (by kernel_rfl) rfl #[.string a0_4] rfl au30 ?_; (with_reducible refine (impl_isText.calls kj1 a0_4 _ _ A37.out).mono ?_); rintro e w94 ⟨rfl, hb⟩; refine ⟨_, rfl, ?_⟩; have n0_ := Aside0.mk (blk_below (g := gb678) (o := .cells #[.string a0_0, .int .i64 a0_1, .slice A0_2 l0_2.length c0_2, .slice A0_3 l0_3.length c0_3, .string a0_4, .string a0_5, .string a0_6, .int .i64 a0_7, .int .i64 a0_8, .int .i64 a0_9, .bool a0_10, .int .i64 a0_11, .string a0_12, .string a0_13] 65 (0, 0)) au46 hb); have n1_ := Aside0.mk (below_step au23 hb); clear BK678; clear HB; have BK678 := n0_; have HB := n1_; clear n0_ n1_; (try clear hb); (try clear hb2); (try clear hk); (try clear hi)))
     go_ret
     exact ax11


attribute [local go_sem high] gtr_s geq_s leq_s
/-! ### impl_IsValidLibrary: function 49 -/
def impl_IsValidLibrary.l0 : Nat → List (S65) → Int → Int → List (S65) → Option (Bool)
 | 0, _, _, _, _ => none
 | k + 1, x6, x7, x8, x798000 => if x8 < x7 then (if 0 ≤ x8 then (if x8 < (x6.length : Int) then ((impl_IsValidEntry.f k ((rd_T65 x6 x8).f0) ((rd_T65 x6 x8).f1) ((rd_T65 x6 x8).f2) ((rd_T65 x6 x8).f3) ((rd_T65 x6 x8).f4) ((rd_T65 x6 x8).f5) ((rd_T65 x6 x8).f6) ((rd_T65 x6 x8).f7.f0) ((rd_T65 x6 x8).f7.f1) ((rd_T65 x6 x8).f7.f2) ((rd_T65 x6 x8).f7.f3) ((rd_T65 x6 x8).f8) ((rd_T65 x6 x8).f9) ((rd_T65 x6 x8).f10)).bind fun t800 => (if t800 = true then (if x8 > 0 then (if 0 ≤ (wrap64 (x8 - 1)) then (if (wrap64 (x8 - 1)) < (x798000.length : Int) then (if ((Op.bytesLess (((rd_T65 x798000 (wrap64 (x8 - 1))).f0).toList) (((rd_T65 x6 x8).f0).toList)) = true) then (impl_IsValidLibrary.l0 k x6 x7 (wrap64 (x8 + 1)) x798000) else (some false)) else (none)) else (none)) else (impl_IsValidLibrary.l0 k x6 x7 (wrap64 (x8 + 1)) x798000)) else (some false))) else (none)) else (none)) else (some (decide ((x798000.length : Int) ≤ 8)))
def impl_IsValidLibrary.f (k : Nat) (l0_0 : List (S65)) : Option (Bool) := impl_IsValidLibrary.l0 k l0_0 (l0_0.length : Int) 0 l0_0
theorem impl_IsValidLibrary.mono_l : ∀ k, (∀ y0 y1 y2 y3, LeO (impl_IsValidLibrary.l0 k y0 y1 y2 y3) (impl_IsValidLibrary.l0 (k + 1) y0 y1 y2 y3))
 | 0 => fun _ _ _ _ r h => by simp [impl_IsValidLibrary.l0] at h
 | k + 1 => by
  have ih0 := impl_IsValidLibrary.mono_l k
  ·
   intro y0 y1 y2 y3
   unfold impl_IsValidLibrary.l0
   repeat' first
   | (with_reducible exact ih0 _ _ _ _)
   | (with_reducible exact impl_IsValidEntry.mono _ _ _ _ _ _ _ _ _ _ _ _ _ _ _)
   | (with_reducible exact LeO.refl _)
   | (with_reducible exact LeO.none _)
   | (with_reducible refine LeO.ite ?_ ?_)
   | (with_reducible refine LeO.bind ?_ (fun _ => ?_))
   | exact ih0 _ _ _ _
   | exact impl_IsValidEntry.mono _ _ _ _ _ _ _ _ _ _ _ _ _ _ _
   | exact LeO.none _
   | refine LeO.ite ?_ ?_
   | refine LeO.bind ?_ (fun _ => ?_)
theorem impl_IsValidLibrary.mono : ∀ a0 k, LeO (impl_IsValidLibrary.f k a0) (impl_IsValidLibrary.f (k + 1) a0) := by
 intro a0 k
 have ih0 := impl_IsValidLibrary.mono_l k
 unfold impl_IsValidLibrary.f
 repeat' first
   | (with_reducible exact ih0 _ _ _ _)
   | (with_reducible exact impl_IsValidEntry.mono _ _ _ _ _ _ _ _ _ _ _ _ _ _ _)
   | (with_reducible exact LeO.refl _)
   | (with_reducible exact LeO.none _)
   | (with_reducible refine LeO.ite ?_ ?_)
   | (with_reducible refine LeO.bind ?_ (fun _ => ?_))
   | exact ih0 _ _ _ _
   | exact impl_IsValidEntry.mono _ _ _ _ _ _ _ _ _ _ _ _ _ _ _
   | exact LeO.none _
   | refine LeO.ite ?_ ?_
   | refine LeO.bind ?_ (fun _ => ?_)
def impl_IsValidLibrary.T4 : Bool × List (List Nat × List Nat) := (true, [([], []), ([0], [0]), ([1], [1]), ([2, 1], [2]), ([3], [3]), ([4, 3], [3, 4]), ([5, 3, 3], [3, 5]), ([6], [6]), ([7, 6], [6, 7]), ([6], [6]), ([9, 6], [6, 9]), ([8, 10, 6], [6, 8, 10]), ([11, 6], [6, 11]), ([12, 6], [6, 12]), ([6], [6]), ([14, 6], [6, 14]), ([13, 15, 6], [6, 13, 15]), ([6, 16, 3], [3, 6, 16]), ([3, 17], [3, 17])])
def impl_IsValidLibrary.B4 : List Nat := [0, 1, 3, 7, 15, 31, 63, 127, 255, 127, 639, 2047, 4095, 8191, 127, 16511, 65535, 131071, 262143]
theorem impl_IsValidLibrary.tab4 : rtab .any (opsOf Tryd.f49 4) = impl_IsValidLibrary.T4 := by kernel_rfl
theorem impl_IsValidLibrary.bits4 : waitsOk impl_IsValidLibrary.T4.2 impl_IsValidLibrary.B4 = true := by kernel_rfl
set_option maxRecDepth 100000 in
theorem impl_IsValidLibrary.L0 {P : Prop} (h : P := by
  try go_wp2_with (first | ((with_reducible refine gate_dst (N := 4) rfl ?_); refine box_event ?hg (N := 4) ?hd (cs := #[.string (⟨#[]⟩ : ByteArray), .int .i64 0, .slice none 0 0, .slice none 0 0, .string (⟨#[]⟩ : ByteArray), .string (⟨#[]⟩ : ByteArray), .string (⟨#[]⟩ : ByteArray), .int .i64 0, .int .i64 0, .int .i64 0, .bool false, .int .i64 0, .string (⟨#[]⟩ : ByteArray), .string (⟨#[]⟩ : ByteArray)]) (t := 65) ?hr ?_; (case hd => rfl); (case hg => rfl); (case hr => first | (go_simp; done) | (go_simp; rfl)); intro gb799 hg w14 hbox hb; have n0_ := Aside0.mk (blk_below (g := gb797) (o := .cells #[.slice (some ad798) l0_0.length c0_0] 76 (0, 0)) au47 hb); have n1_ := Aside0.mk (below_step au24 hb); have n2_ := Aside0.mk (hbox); have n3_ := Aside0.mk ((by rw [hg]; exact (below_size au24) : w.heap.size ≤ gb799)); have n4_ := Aside0.mk ((by rw [hg]; exact (below_size au24) : w.heap.size ≤ gb799)); have n5_ := Aside0.mk ((by rw [hg]; exact Nat.ne_of_lt (blk_lt (g := gb797) (o := .cells #[.slice (some ad798) l0_0.length c0_0] 76 (0, 0)) au47) : gb797 ≠ gb799)); have n6_ := Aside0.mk ((by rw [hg]; exact Nat.ne_of_gt (blk_lt (g := gb797) (o := .cells #[.slice (some ad798) l0_0.length c0_0] 76 (0, 0)) au47) : gb799 ≠ gb797)); clear BK797; clear HB; have BK797 := n0_; have HB := n1_; have BK799 := n2_; have GW799 := n3_; have GE799 := n4_; have NB797_799 := n5_; have NB799_797 := n6_; clear n0_ n1_ n2_ n3_ n4_ n5_ n6_; clear hb hbox hg; have hnb15 := NB799_797.out; have hnc15 := NB797_799.out; have hcz16_0 : w14.cell? ⟨gb799, 0, none⟩ = some (.string (⟨#[]⟩ : ByteArray)) := (blk_cell BK799.out 0).trans rfl; have hcz16_1 : w14.cell? ⟨gb799, 1, none⟩ = some (.int .i64 0) := (blk_cell BK799.out 1).trans rfl; have hcz16_2 : w14.cell? ⟨gb799, 2, none⟩ = some (.slice none 0 0) := (blk_cell BK799.out 2).trans rfl; have hcz16_3 : w14.cell? ⟨gb799, 3, none⟩ = some (.slice none 0 0) := (blk_cell BK799.out 3).trans rfl; have hcz16_4 : w14.cell? ⟨gb799, 4, none⟩ = some (.string (⟨#[]⟩ : ByteArray)) := (blk_cell BK799.out 4).trans rfl; have hcz16_5 : w14.cell? ⟨gb799, 5, none⟩ = some (.string (⟨#[]⟩ : ByteArray)) := (blk_cell BK799.out 5).trans rfl; have hcz16_6 : w14.cell? ⟨gb799, 6, none⟩ = some (.string (⟨#[]⟩ : ByteArray)) := (blk_cell BK799.out 6).trans rfl; have hcz16_7 : w14.cell? ⟨gb799, 7, none⟩ = some (.int .i64 0) := (blk_cell BK799.out 7).trans rfl; have hcz16_8 : w14.cell? ⟨gb799, 8, none⟩ = some (.int .i64 0) := (blk_cell BK799.out 8).trans rfl; have hcz16_9 : w14.cell? ⟨gb799, 9, none⟩ = some (.int .i64 0) := (blk_cell BK799.out 9).trans rfl; have hcz16_10 : w14.cell? ⟨gb799, 10, none⟩ = some (.bool false) := (blk_cell BK799.out 10).trans rfl; have hcz16_11 : w14.cell? ⟨gb799, 11, none⟩ = some (.int .i64 0) := (blk_cell BK799.out 11).trans rfl; have hcz16_12 : w14.cell? ⟨gb799, 12, none⟩ = some (.string (⟨#[]⟩ : ByteArray)) := (blk_cell BK799.out 12).trans rfl; have hcz16_13 : w14.cell? ⟨gb799, 13, none⟩ = some (.string (⟨#[]⟩ : ByteArray)) := (blk_cell BK799.out 13).trans rfl; have hfz16_0 := blk_frozen BK799.out 0; have hfz16_1 := blk_frozen BK799.out 1; have hfz16_2 := blk_frozen BK799.out 2; have hfz16_3 := blk_frozen BK799.out 3; have hfz16_4 := blk_frozen BK799.out 4; have hfz16_5 := blk_frozen BK799.out 5; have hfz16_6 := blk_frozen BK799.out 6; have hfz16_7 := blk_frozen BK799.out 7; have hfz16_8 := blk_frozen BK799.out 8; have hfz16_9 := blk_frozen BK799.out 9; have hfz16_10 := blk_frozen BK799.out 10; have hfz16_11 := blk_frozen BK799.out 11; have hfz16_12 := blk_frozen BK799.out 12; have hfz16_13 := blk_frozen BK799.out 13))
  have n0_ : Aside0 (((((((((((((((w14.setCell ⟨gb799, 0, none⟩ (.string ((rd_T65 l0_0 x8_1).f0))).setCell ⟨gb799, 1, none⟩ (.int .i64 ((rd_T65 l0_0 x8_1).f1))).setCell ⟨gb799, 2, none⟩ (.slice A798_2 ((rd_T65 l0_0 x8_1).f2).length c798_2)).setCell ⟨gb799, 3, none⟩ (.slice A798_3 ((rd_T65 l0_0 x8_1).f3).length c798_3)).setCell ⟨gb799, 4, none⟩ (.string ((rd_T65 l0_0 x8_1).f4))).setCell ⟨gb799, 5, none⟩ (.string ((rd_T65 l0_0 x8_1).f5))).setCell ⟨gb799, 6, none⟩ (.string ((rd_T65 l0_0 x8_1).f6))).setCell ⟨gb799, 7, none⟩ (.int .i64 ((rd_T65 l0_0 x8_1).f7.f0))).setCell ⟨gb799, 8, none⟩ (.int .i64 ((rd_T65 l0_0 x8_1).f7.f1))).setCell ⟨gb799, 9, none⟩ (.int .i64 ((rd_T65 l0_0 x8_1).f7.f2))).setCell ⟨gb799, 10, none⟩ (.bool ((rd_T65 l0_0 x8_1).f7.f3))).setCell ⟨gb799, 11, none⟩ (.int .i64 ((rd_T65 l0_0 x8_1).f8))).setCell ⟨gb799, 12, none⟩ (.string ((rd_T65 l0_0 x8_1).f9))).setCell ⟨gb799, 13, none⟩ (.string ((rd_T65 l0_0 x8_1).f10))).heap[gb797]? = some (.cells #[.slice (some ad798) l0_0.length c0_0] 76 (0, 0))) := ⟨by (with_reducible repeat (first | refine blk_drewN ?_ _ | refine blk_drew ?_ | refine blk_alloc ?_ _)); refine blk_far ?_ NB797_799.out _; (with_reducible repeat (first | refine blk_drewN ?_ _ | refine blk_drew ?_ | refine blk_alloc ?_ _)); refine blk_far ?_ NB797_799.out _; (with_reducible repeat (first | refine blk_drewN ?_ _ | refine blk_drew ?_ | refine blk_alloc ?_ _)); refine blk_far ?_ NB797_799.out _; (with_reducible repeat (first | refine blk_drewN ?_ _ | refine blk_drew ?_ | refine blk_alloc ?_ _)); refine blk_far ?_ NB797_799.out _; (with_reducible repeat (first | refine blk_drewN ?_ _ | refine blk_drew ?_ | refine blk_alloc ?_ _)); refine blk_far ?_ NB797_799.out _; (with_reducible repeat (first | refine blk_drewN ?_ _ | refine blk_drew ?_ | refine blk_alloc ?_ _)); refine blk_far ?_ NB797_799.out _; (with_reducible repeat (first | refine blk_drewN ?_ _ | refine blk_drew ?_ | refine blk_alloc ?_ _)); refine blk_far ?_ NB797_799.out _; (with_reducible repeat (first | refine blk_drewN ?_ _ | refine blk_drew ?_ | refine blk_alloc ?_ _)); refine blk_far ?_ NB797_799.out _; (with_reducible repeat (first | refine blk_drewN ?_ _ | refine blk_drew ?_ | refine blk_alloc ?_ _)); refine blk_far ?_ NB797_799.out _; (with_reducible repeat (first | refine blk_drewN ?_ _ | refine blk_drew ?_ | refine blk_alloc ?_ _)); refine blk_far ?_ NB797_799.out _; (with_reducible repeat (first | refine blk_drewN ?_ _ | refine blk_drew ?_ | refine blk_alloc ?_ _)); refine blk_far ?_ NB797_799.out _; (with_reducible repeat (first | refine blk_drewN ?_ _ | refine blk_drew ?_ | refine blk_alloc ?_ _)); refine blk_far ?_ NB797_799.out _; (with_reducible repeat (first | refine blk_drewN ?_ _ | refine blk_drew ?_ | refine blk_alloc ?_ _)); refine blk_far ?_ NB797_799.out _; (with_reducible repeat (first | refine blk_drewN ?_ _ | refine blk_drew ?_ | refine blk_alloc ?_ _)); refine blk_far ?_ NB797_799.out _; (with_reducible repeat (first | refine blk_drewN ?_ _ | refine blk_drew ?_ | refine blk_alloc ?_ _)); exact BK797.out⟩
  have n1_ : Aside0 (((((((((((((((w14.setCell ⟨gb799, 0, none⟩ (.string ((rd_T65 l0_0 x8_1).f0))).setCell ⟨gb799, 1, none⟩ (.int .i64 ((rd_T65 l0_0 x8_1).f1))).setCell ⟨gb799, 2, none⟩ (.slice A798_2 ((rd_T65 l0_0 x8_1).f2).length c798_2)).setCell ⟨gb799, 3, none⟩ (.slice A798_3 ((rd_T65 l0_0 x8_1).f3).length c798_3)).setCell ⟨gb799, 4, none⟩ (.string ((rd_T65 l0_0 x8_1).f4))).setCell ⟨gb799, 5, none⟩ (.string ((rd_T65 l0_0 x8_1).f5))).setCell ⟨gb799, 6, none⟩ (.string ((rd_T65 l0_0 x8_1).f6))).setCell ⟨gb799, 7, none⟩ (.int .i64 ((rd_T65 l0_0 x8_1).f7.f0))).setCell ⟨gb799, 8, none⟩ (.int .i64 ((rd_T65 l0_0 x8_1).f7.f1))).setCell ⟨gb799, 9, none⟩ (.int .i64 ((rd_T65 l0_0 x8_1).f7.f2))).setCell ⟨gb799, 10, none⟩ (.bool ((rd_T65 l0_0 x8_1).f7.f3))).setCell ⟨gb799, 11, none⟩ (.int .i64 ((rd_T65 l0_0 x8_1).f8))).setCell ⟨gb799, 12, none⟩ (.string ((rd_T65 l0_0 x8_1).f9))).setCell ⟨gb799, 13, none⟩ (.string ((rd_T65 l0_0 x8_1).f10))).heap[gb799]? = some (.cells #[.string ((rd_T65 l0_0 x8_1).f0), .int .i64 ((rd_T65 l0_0 x8_1).f1), .slice A798_2 ((rd_T65 l0_0 x8_1).f2).length c798_2, .slice A798_3 ((rd_T65 l0_0 x8_1).f3).length c798_3, .string ((rd_T65 l0_0 x8_1).f4), .string ((rd_T65 l0_0 x8_1).f5), .string ((rd_T65 l0_0 x8_1).f6), .int .i64 ((rd_T65 l0_0 x8_1).f7.f0), .int .i64 ((rd_T65 l0_0 x8_1).f7.f1), .int .i64 ((rd_T65 l0_0 x8_1).f7.f2), .bool ((rd_T65 l0_0 x8_1).f7.f3), .int .i64 ((rd_T65 l0_0 x8_1).f8), .string ((rd_T65 l0_0 x8_1).f9), .string ((rd_T65 l0_0 x8_1).f10)] 65 (0, 0))) := ⟨by (with_reducible repeat (first | refine blk_drewN ?_ _ | refine blk_drew ?_ | refine blk_alloc ?_ _)); refine blk_put (cs := #[.string ((rd_T65 l0_0 x8_1).f0), .int .i64 ((rd_T65 l0_0 x8_1).f1), .slice A798_2 ((rd_T65 l0_0 x8_1).f2).length c798_2, .slice A798_3 ((rd_T65 l0_0 x8_1).f3).length c798_3, .string ((rd_T65 l0_0 x8_1).f4), .string ((rd_T65 l0_0 x8_1).f5), .string ((rd_T65 l0_0 x8_1).f6), .int .i64 ((rd_T65 l0_0 x8_1).f7.f0), .int .i64 ((rd_T65 l0_0 x8_1).f7.f1), .int .i64 ((rd_T65 l0_0 x8_1).f7.f2), .bool ((rd_T65 l0_0 x8_1).f7.f3), .int .i64 ((rd_T65 l0_0 x8_1).f8), .string ((rd_T65 l0_0 x8_1).f9), .string (⟨#[]⟩ : ByteArray)]) ?_ 13 _ rfl; (with_reducible repeat (first | refine blk_drewN ?_ _ | refine blk_drew ?_ | refine blk_alloc ?_ _)); refine blk_put (cs := #[.string ((rd_T65 l0_0 x8_1).f0), .int .i64 ((rd_T65 l0_0 x8_1).f1), .slice A798_2 ((rd_T65 l0_0 x8_1).f2).length c798_2, .slice A798_3 ((rd_T65 l0_0 x8_1).f3).length c798_3, .string ((rd_T65 l0_0 x8_1).f4), .string ((rd_T65 l0_0 x8_1).f5), .string ((rd_T65 l0_0 x8_1).f6), .int .i64 ((rd_T65 l0_0 x8_1).f7.f0), .int .i64 ((rd_T65 l0_0 x8_1).f7.f1), .int .i64 ((rd_T65 l0_0 x8_1).f7.f2), .bool ((rd_T65 l0_0 x8_1).f7.f3), .int .i64 ((rd_T65 l0_0 x8_1).f8), .string (⟨#[]⟩ : ByteArray), .string (⟨#[]⟩ : ByteArray)]) ?_ 12 _ rfl; (with_reducible repeat (first | refine blk_drewN ?_ _ | refine blk_drew ?_ | refine blk_alloc ?_ _)); refine blk_put (cs := #[.string ((rd_T65 l0_0 x8_1).f0), .int .i64 ((rd_T65 l0_0 x8_1).f1), .slice A798_2 ((rd_T65 l0_0 x8_1).f2).length c798_2, .slice A798_3 ((rd_T65 l0_0 x8_1).f3).length c798_3, .string ((rd_T65 l0_0 x8_1).f4), .string ((rd_T65 l0_0 x8_1).f5), .string ((rd_T65 l0_0 x8_1).f6), .int .i64 ((rd_T65 l0_0 x8_1).f7.f0), .int .i64 ((rd_T65 l0_0 x8_1).f7.f1), .int .i64 ((rd_T65 l0_0 x8_1).f7.f2), .bool ((rd_T65 l0_0 x8_1).f7.f3), .int .i64 0, .string (⟨#[]⟩ : ByteArray), .string (⟨#[]⟩ : ByteArray)]) ?_ 11 _ rfl; (with_reducible repeat (first | refine blk_drewN ?_ _ | refine blk_drew ?_ | refine blk_alloc ?_ _)); refine blk_put (cs := #[.string ((rd_T65 l0_0 x8_1).f0), .int .i64 ((rd_T65 l0_0 x8_1).f1), .slice A798_2 ((rd_T65 l0_0 x8_1).f2).length c798_2, .slice A798_3 ((rd_T65 l0_0 x8_1).f3).length c798_3, .string ((rd_T65 l0_0 x8_1).f4), .string ((rd_T65 l0_0 x8_1).f5), .string ((rd_T65 l0_0 x8_1).f6), .int .i64 ((rd_T65 l0_0 x8_1).f7.f0), .int .i64 ((rd_T65 l0_0 x8_1).f7.f1), .int .i64 ((rd_T65 l0_0 x8_1).f7.f2), .bool false, .int .i64 0, .string (⟨#[]⟩ : ByteArray), .string (⟨#[]⟩ : ByteArray)]) ?_ 10 _ rfl; (with_reducible repeat (first | refine blk_drewN ?_ _ | refine blk_drew ?_ | refine blk_alloc ?_ _)); refine blk_put (cs := #[.string ((rd_T65 l0_0 x8_1).f0), .int .i64 ((rd_T65 l0_0 x8_1).f1), .slice A798_2 ((rd_T65 l0_0 x8_1).f2).length c798_2, .slice A798_3 ((rd_T65 l0_0 x8_1).f3).length c798_3, .string ((rd_T65 l0_0 x8_1).f4), .string ((rd_T65 l0_0 x8_1).f5), .string ((rd_T65 l0_0 x8_1).f6), .int .i64 ((rd_T65 l0_0 x8_1).f7.f0), .int .i64 ((rd_T65 l0_0 x8_1).f7.f1), .int .i64 0, .bool false, .int .i64 0, .string (⟨#[]⟩ : ByteArray), .string (⟨#[]⟩ : ByteArray)]) ?_ 9 _ rfl; (with_reducible repeat (first | refine blk_drewN ?_ _ | refine blk_drew ?_ | refine blk_alloc ?_ _)); refine blk_put (cs := #[.string ((rd_T65 l0_0 x8_1).f0), .int .i64 ((rd_T65 l0_0 x8_1).f1), .slice A798_2 ((rd_T65 l0_0 x8_1).f2).length c798_2, .slice A798_3 ((rd_T65 l0_0 x8_1).f3).length c798_3, .string ((rd_T65 l0_0 x8_1).f4), .string ((rd_T65 l0_0 x8_1).f5), .string ((rd_T65 l0_0 x8_1).f6), .int .i64 ((rd_T65 l0_0 x8_1).f7.f0), .int .i64 0, .int .i64 0, .bool false, .int .i64 0, .string (⟨#[]⟩ : ByteArray), .string (⟨#[]⟩ : ByteArray)]) ?_ 8 _ rfl; (with_reducible repeat (first | refine blk_drewN ?_ _ | refine blk_drew ?_ | refine blk_alloc ?_ _)); refine blk_put (cs := #[.string ((rd_T65 l0_0 x8_1).f0), .int .i64 ((rd_T65 l0_0 x8_1).f1), .slice A798_2 ((rd_T65 l0_0 x8_1).f2).length c798_2, .slice A798_3 ((rd_T65 l0_0 x8_1).f3).length c798_3, .string ((rd_T65 l0_0 x8_1).f4), .string ((rd_T65 l0_0 x8_1).f5), .string ((rd_T65 l0_0 x8_1).f6), .int .i64 0, .int .i64 0, .int .i64 0, .bool false, .int .i64 0, .string (⟨#[]⟩ : ByteArray), .string (⟨#[]⟩ : ByteArray)]) ?_ 7 _ rfl; (with_reducible repeat (first | refine blk_drewN ?_ _ | refine blk_drew ?_ | refine blk_alloc ?_ _)); refine blk_put (cs := #[.string ((rd_T65 l0_0 x8_1).f0), .int .i64 ((rd_T65 l0_0 x8_1).f1), .slice A798_2 ((rd_T65 l0_0 x8_1).f2).length c798_2, .slice A798_3 ((rd_T65 l0_0 x8_1).f3).length c798_3, .string ((rd_T65 l0_0 x8_1).f4), .string ((rd_T65 l0_0 x8_1).f5), .string (⟨#[]⟩ : ByteArray), .int .i64 0, .int .i64 0, .int .i64 0, .bool false, .int .i64 0, .string (⟨#[]⟩ : ByteArray), .string (⟨#[]⟩ : ByteArray)]) ?_ 6 _ rfl; (with_reducible repeat (first | refine blk_drewN ?_ _ | refine blk_drew ?_ | refine blk_alloc ?_ _)); refine blk_put (cs := #[.string ((rd_T65 l0_0 x8_1).f0), .int .i64 ((rd_T65 l0_0 x8_1).f1), .slice A798_2 ((rd_T65 l0_0 x8_1).f2).length c798_2, .slice A798_3 ((rd_T65 l0_0 x8_1).f3).length c798_3, .string ((rd_T65 l0_0 x8_1).f4), .string (⟨#[]⟩ : ByteArray), .string (⟨#[]⟩ : ByteArray), .int .i64 0, .int .i64 0, .int .i64 0, .bool false, .int .i64 0, .string (⟨#[]⟩ : ByteArray), .string (⟨#[]⟩ : ByteArray)]) ?_ 5 _ rfl; (with_reducible repeat (first | refine blk_drewN ?_ _ | refine blk_drew ?_ | refine blk_alloc ?_ _)); refine blk_put (cs := #[.string ((rd_T65 l0_0 x8_1).f0), .int .i64 ((rd_T65 l0_0 x8_1).f1), .slice A798_2 ((rd_T65 l0_0 x8_1).f2).length c798_2, .slice A798_3 ((rd_T65 l0_0 x8_1).f3).length c798_3, .string (⟨#[]⟩ : ByteArray), .string (⟨#[]⟩ : ByteArray), .string (⟨#[]⟩ : ByteArray), .int .i64 0, .int .i64 0, .int .i64 0, .bool false, .int .i64 0, .string (⟨#[]⟩ : ByteArray), .string (⟨#[]⟩ : ByteArray)]) ?_ 4 _ rfl; (with_reducible repeat (first | refine blk_drewN ?_ _ | refine blk_drew ?_ | refine blk_alloc ?_ _)); refine blk_put (cs := #[.string ((rd_T65 l0_0 x8_1).f0), .int .i64 ((rd_T65 l0_0 x8_1).f1), .slice A798_2 ((rd_T65 l0_0 x8_1).f2).length c798_2, .slice none 0 0, .string (⟨#[]⟩ : ByteArray), .string (⟨#[]⟩ : ByteArray), .string (⟨#[]⟩ : ByteArray), .int .i64 0, .int .i64 0, .int .i64 0, .bool false, .int .i64 0, .string (⟨#[]⟩ : ByteArray), .string (⟨#[]⟩ : ByteArray)]) ?_ 3 _ rfl; (with_reducible repeat (first | refine blk_drewN ?_ _ | refine blk_drew ?_ | refine blk_alloc ?_ _)); refine blk_put (cs := #[.string ((rd_T65 l0_0 x8_1).f0), .int .i64 ((rd_T65 l0_0 x8_1).f1), .slice none 0 0, .slice none 0 0, .string (⟨#[]⟩ : ByteArray), .string (⟨#[]⟩ : ByteArray), .string (⟨#[]⟩ : ByteArray), .int .i64 0, .int .i64 0, .int .i64 0, .bool false, .int .i64 0, .string (⟨#[]⟩ : ByteArray), .string (⟨#[]⟩ : ByteArray)]) ?_ 2 _ rfl; (with_reducible repeat (first | refine blk_drewN ?_ _ | refine blk_drew ?_ | refine blk_alloc ?_ _)); refine blk_put (cs := #[.string ((rd_T65 l0_0 x8_1).f0), .int .i64 0, .slice none 0 0, .slice none 0 0, .string (⟨#[]⟩ : ByteArray), .string (⟨#[]⟩ : ByteArray), .string (⟨#[]⟩ : ByteArray), .int .i64 0, .int .i64 0, .int .i64 0, .bool false, .int .i64 0, .string (⟨#[]⟩ : ByteArray), .string (⟨#[]⟩ : ByteArray)]) ?_ 1 _ rfl; (with_reducible repeat (first | refine blk_drewN ?_ _ | refine blk_drew ?_ | refine blk_alloc ?_ _)); refine blk_put (cs := #[.string (⟨#[]⟩ : ByteArray), .int .i64 0, .slice none 0 0, .slice none 0 0, .string (⟨#[]⟩ : ByteArray), .string (⟨#[]⟩ : ByteArray), .string (⟨#[]⟩ : ByteArray), .int .i64 0, .int .i64 0, .int .i64 0, .bool false, .int .i64 0, .string (⟨#[]⟩ : ByteArray), .string (⟨#[]⟩ : ByteArray)]) ?_ 0 _ rfl; (with_reducible repeat (first | refine blk_drewN ?_ _ | refine blk_drew ?_ | refine blk_alloc ?_ _)); exact BK799.out⟩
  have n2_ : Aside0 (Below w.heap.size w ((((((((((((((w14.setCell ⟨gb799, 0, none⟩ (.string ((rd_T65 l0_0 x8_1).f0))).setCell ⟨gb799, 1, none⟩ (.int .i64 ((rd_T65 l0_0 x8_1).f1))).setCell ⟨gb799, 2, none⟩ (.slice A798_2 ((rd_T65 l0_0 x8_1).f2).length c798_2)).setCell ⟨gb799, 3, none⟩ (.slice A798_3 ((rd_T65 l0_0 x8_1).f3).length c798_3)).setCell ⟨gb799, 4, none⟩ (.string ((rd_T65 l0_0 x8_1).f4))).setCell ⟨gb799, 5, none⟩ (.string ((rd_T65 l0_0 x8_1).f5))).setCell ⟨gb799, 6, none⟩ (.string ((rd_T65 l0_0 x8_1).f6))).setCell ⟨gb799, 7, none⟩ (.int .i64 ((rd_T65 l0_0 x8_1).f7.f0))).setCell ⟨gb799, 8, none⟩ (.int .i64 ((rd_T65 l0_0 x8_1).f7.f1))).setCell ⟨gb799, 9, none⟩ (.int .i64 ((rd_T65 l0_0 x8_1).f7.f2))).setCell ⟨gb799, 10, none⟩ (.bool ((rd_T65 l0_0 x8_1).f7.f3))).setCell ⟨gb799, 11, none⟩ (.int .i64 ((rd_T65 l0_0 x8_1).f8))).setCell ⟨gb799, 12, none⟩ (.string ((rd_T65 l0_0 x8_1).f9))).setCell ⟨gb799, 13, none⟩ (.string ((rd_T65 l0_0 x8_1).f10)))) := ⟨by repeat (first | (with_reducible first | exact HB.out | apply below_alloc | apply pw_below_drewN | apply below_drew1 | refine below_set ?_ GE797.out | refine below_set ?_ GE799.out) | exact HB.out)⟩
  (try clear BK797)
  (try clear BK799)
  (try clear HB)
  generalize ((((((((((((((w14.setCell ⟨gb799, 0, none⟩ (.string ((rd_T65 l0_0 x8_1).f0))).setCell ⟨gb799, 1, none⟩ (.int .i64 ((rd_T65 l0_0 x8_1).f1))).setCell ⟨gb799, 2, none⟩ (.slice A798_2 ((rd_T65 l0_0 x8_1).f2).length c798_2)).setCell ⟨gb799, 3, none⟩ (.slice A798_3 ((rd_T65 l0_0 x8_1).f3).length c798_3)).setCell ⟨gb799, 4, none⟩ (.string ((rd_T65 l0_0 x8_1).f4))).setCell ⟨gb799, 5, none⟩ (.string ((rd_T65 l0_0 x8_1).f5))).setCell ⟨gb799, 6, none⟩ (.string ((rd_T65 l0_0 x8_1).f6))).setCell ⟨gb799, 7, none⟩ (.int .i64 ((rd_T65 l0_0 x8_1).f7.f0))).setCell ⟨gb799, 8, none⟩ (.int .i64 ((rd_T65 l0_0 x8_1).f7.f1))).setCell ⟨gb799, 9, none⟩ (.int .i64 ((rd_T65 l0_0 x8_1).f7.f2))).setCell ⟨gb799, 10, none⟩ (.bool ((rd_T65 l0_0 x8_1).f7.f3))).setCell ⟨gb799, 11, none⟩ (.int .i64 ((rd_T65 l0_0 x8_1).f8))).setCell ⟨gb799, 12, none⟩ (.string ((rd_T65 l0_0 x8_1).f9))).setCell ⟨gb799, 13, none⟩ (.string ((rd_T65 l0_0 x8_1).f10))) = w17 at n0_ n1_ n2_ ⊢
  have BK797 := n0_
  have BK799 := n1_
  have HB := n2_
  clear n0_ n1_ n2_
  have n0_ := Aside0.mk (blk_drew BK797.out)
  have n1_ := Aside0.mk (blk_drew BK799.out)
  have n2_ := Aside0.mk (below_drew1 HB.out)
  clear BK797
  clear BK799
  clear HB
  have BK797 := n0_
  have BK799 := n1_
  have HB := n2_
  clear n0_ n1_ n2_
  have p801 : 0 ≤ ((ji10) : Int) := of_decide_eq_true au60
  have q801 : (ji10) < (l0_0.length : Int) := of_decide_eq_true au60
  obtain ⟨ad801, A801_2, c801_2, A801_3, c801_3, e801, hx801_0, hx801_1, hx801_2, hx801_3, hx801_4, hx801_5, hx801_6, hx801_7, hx801_8, hx801_9, hx801_10, hx801_11, hx801_12, hx801_13, hl801_2, hi801_2, hl801_3, hi801_3⟩ := at_T65 HR0_0.out (ji10) p801 q801
  have hw801_13 := hx801_13
  have hw801_12 := hx801_12
  have hw801_11 := hx801_11
  have hw801_10 := hx801_10
  have hw801_9 := hx801_9
  have hw801_8 := hx801_8
  have hw801_7 := hx801_7
  have hw801_6 := hx801_6
  have hw801_5 := hx801_5
  have hw801_4 := hx801_4
  have hw801_3 := hx801_3
  have hw801_2 := hx801_2
  have hw801_1 := hx801_1
  have hw801_0 := hx801_0
  obtain rfl : ad798 = ad801 := (by injection e801)
  replace hx801_0 := (HB.out.cell (World.block_lt_of_cell? w _ hx801_0)).trans hx801_0
  replace hx801_1 := (HB.out.cell (World.block_lt_of_cell? w _ hx801_1)).trans hx801_1
  replace hx801_2 := (HB.out.cell (World.block_lt_of_cell? w _ hx801_2)).trans hx801_2
  replace hx801_3 := (HB.out.cell (World.block_lt_of_cell? w _ hx801_3)).trans hx801_3
  replace hx801_4 := (HB.out.cell (World.block_lt_of_cell? w _ hx801_4)).trans hx801_4
  replace hx801_5 := (HB.out.cell (World.block_lt_of_cell? w _ hx801_5)).trans hx801_5
  replace hx801_6 := (HB.out.cell (World.block_lt_of_cell? w _ hx801_6)).trans hx801_6
  replace hx801_7 := (HB.out.cell (World.block_lt_of_cell? w _ hx801_7)).trans hx801_7
  replace hx801_8 := (HB.out.cell (World.block_lt_of_cell? w _ hx801_8)).trans hx801_8
  replace hx801_9 := (HB.out.cell (World.block_lt_of_cell? w _ hx801_9)).trans hx801_9
  replace hx801_10 := (HB.out.cell (World.block_lt_of_cell? w _ hx801_10)).trans hx801_10
  replace hx801_11 := (HB.out.cell (World.block_lt_of_cell? w _ hx801_11)).trans hx801_11
  replace hx801_12 := (HB.out.cell (World.block_lt_of_cell? w _ hx801_12)).trans hx801_12
  replace hx801_13 := (HB.out.cell (World.block_lt_of_cell? w _ hx801_13)).trans hx801_13
  have HR801_2 := Aside0.mk hi801_2
  have HC801_2 := Aside0.mk hl801_2
  clear hi801_2 hl801_2
  have HR801_3 := Aside0.mk hi801_3
  have HC801_3 := Aside0.mk hl801_3
  clear hi801_3 hl801_3
  replace p801 := eq_true p801
  replace q801 := eq_true q801
  refine start_ (n := 19) (S := fun w' => w'.cell? ⟨gb799, 0, none⟩ = some (.string ((rd_T65 l0_0 x8_1).f0)) ∧ w'.cell? ⟨gb799, 1, none⟩ = some (.int .i64 ((rd_T65 l0_0 x8_1).f1)) ∧ w'.cell? ⟨gb799, 2, none⟩ = some (.slice A798_2 ((rd_T65 l0_0 x8_1).f2).length c798_2) ∧ w'.cell? ⟨gb799, 3, none⟩ = some (.slice A798_3 ((rd_T65 l0_0 x8_1).f3).length c798_3) ∧ w'.cell? ⟨gb799, 4, none⟩ = some (.string ((rd_T65 l0_0 x8_1).f4)) ∧ w'.cell? ⟨gb799, 5, none⟩ = some (.string ((rd_T65 l0_0 x8_1).f5)) ∧ w'.cell? ⟨gb799, 6, none⟩ = some (.string ((rd_T65 l0_0 x8_1).f6)) ∧ w'.cell? ⟨gb799, 7, none⟩ = some (.int .i64 ((rd_T65 l0_0 x8_1).f7.f0)) ∧ w'.cell? ⟨gb799, 8, none⟩ = some (.int .i64 ((rd_T65 l0_0 x8_1).f7.f1)) ∧ w'.cell? ⟨gb799, 9, none⟩ = some (.int .i64 ((rd_T65 l0_0 x8_1).f7.f2)) ∧ w'.cell? ⟨gb799, 10, none⟩ = some (.bool ((rd_T65 l0_0 x8_1).f7.f3)) ∧ w'.cell? ⟨gb799, 11, none⟩ = some (.int .i64 ((rd_T65 l0_0 x8_1).f8)) ∧ w'.cell? ⟨gb799, 12, none⟩ = some (.string ((rd_T65 l0_0 x8_1).f9)) ∧ w'.cell? ⟨gb799, 13, none⟩ = some (.string ((rd_T65 l0_0 x8_1).f10)) ∧ w'.cell? ⟨gb797, 0, none⟩ = some (.slice (some ad798) l0_0.length c0_0) ∧ w'.cell? (ad798.add (((ji10)).toNat * 14)) = some (.string ((rd_T65 l0_0 (ji10)).f0)) ∧ w'.cell? ⟨(ad798.add (((ji10)).toNat * 14)).block, (ad798.add (((ji10)).toNat * 14)).off + 1, none⟩ = some (.int .i64 ((rd_T65 l0_0 (ji10)).f1)) ∧ w'.cell? ⟨(ad798.add (((ji10)).toNat * 14)).block, (ad798.add (((ji10)).toNat * 14)).off + 2, none⟩ = some (.slice A801_2 ((rd_T65 l0_0 (ji10)).f2).length c801_2) ∧ w'.cell? ⟨(ad798.add (((ji10)).toNat * 14)).block, (ad798.add (((ji10)).toNat * 14)).off + 3, none⟩ = some (.slice A801_3 ((rd_T65 l0_0 (ji10)).f3).length c801_3) ∧ w'.cell? ⟨(ad798.add (((ji10)).toNat * 14)).block, (ad798.add (((ji10)).toNat * 14)).off + 4, none⟩ = some (.string ((rd_T65 l0_0 (ji10)).f4)) ∧ w'.cell? ⟨(ad798.add (((ji10)).toNat * 14)).block, (ad798.add (((ji10)).toNat * 14)).off + 5, none⟩ = some (.string ((rd_T65 l0_0 (ji10)).f5)) ∧ w'.cell? ⟨(ad798.add (((ji10)).toNat * 14)).block, (ad798.add (((ji10)).toNat * 14)).off + 6, none⟩ = some (.string ((rd_T65 l0_0 (ji10)).f6)) ∧ w'.cell? ⟨(ad798.add (((ji10)).toNat * 14)).block, (ad798.add (((ji10)).toNat * 14)).off + 7, none⟩ = some (.int .i64 ((rd_T65 l0_0 (ji10)).f7.f0)) ∧ w'.cell? ⟨(ad798.add (((ji10)).toNat * 14)).block, (ad798.add (((ji10)).toNat * 14)).off + 8, none⟩ = some (.int .i64 ((rd_T65 l0_0 (ji10)).f7.f1)) ∧ w'.cell? ⟨(ad798.add (((ji10)).toNat * 14)).block, (ad798.add (((ji10)).toNat * 14)).off + 9, none⟩ = some (.int .i64 ((rd_T65 l0_0 (ji10)).f7.f2)) ∧ w'.cell? ⟨(ad798.add (((ji10)).toNat * 14)).block, (ad798.add (((ji10)).toNat * 14)).off + 10, none⟩ = some (.bool ((rd_T65 l0_0 (ji10)).f7.f3)) ∧ w'.cell? ⟨(ad798.add (((ji10)).toNat * 14)).block, (ad798.add (((ji10)).toNat * 14)).off + 11, none⟩ = some (.int .i64 ((rd_T65 l0_0 (ji10)).f8)) ∧ w'.cell? ⟨(ad798.add (((ji10)).toNat * 14)).block, (ad798.add (((ji10)).toNat * 14)).off + 12, none⟩ = some (.string ((rd_T65 l0_0 (ji10)).f9)) ∧ w'.cell? ⟨(ad798.add (((ji10)).toNat * 14)).block, (ad798.add (((ji10)).toNat * 14)).off + 13, none⟩ = some (.string ((rd_T65 l0_0 (ji10)).f10))) (ds := []) #[false, false, false, false, false, false, false, false, false, false, false, false, false, false, false, false, false, false, false] (by kernel_rfl) rfl rfl ⟨(blk_cell BK799.out 0).trans rfl, (blk_cell BK799.out 1).trans rfl, (blk_cell BK799.out 2).trans rfl, (blk_cell BK799.out 3).trans rfl, (blk_cell BK799.out 4).trans rfl, (blk_cell BK799.out 5).trans rfl, (blk_cell BK799.out 6).trans rfl, (blk_cell BK799.out 7).trans rfl, (blk_cell BK799.out 8).trans rfl, (blk_cell BK799.out 9).trans rfl, (blk_cell BK799.out 10).trans rfl, (blk_cell BK799.out 11).trans rfl, (blk_cell BK799.out 12).trans rfl, (blk_cell BK799.out 13).trans rfl, (blk_cell BK797.out 0).trans rfl, ((HB.out.cell (World.block_lt_of_cell? w _ hw801_0)).trans hw801_0), ((HB.out.cell (World.block_lt_of_cell? w _ hw801_1)).trans hw801_1), ((HB.out.cell (World.block_lt_of_cell? w _ hw801_2)).trans hw801_2), ((HB.out.cell (World.block_lt_of_cell? w _ hw801_3)).trans hw801_3), ((HB.out.cell (World.block_lt_of_cell? w _ hw801_4)).trans hw801_4), ((HB.out.cell (World.block_lt_of_cell? w _ hw801_5)).trans hw801_5), ((HB.out.cell (World.block_lt_of_cell? w _ hw801_6)).trans hw801_6), ((HB.out.cell (World.block_lt_of_cell? w _ hw801_7)).trans hw801_7), ((HB.out.cell (World.block_lt_of_cell? w _ hw801_8)).trans hw801_8), ((HB.out.cell (World.block_lt_of_cell? w _ hw801_9)).trans hw801_9), ((HB.out.cell (World.block_lt_of_cell? w _ hw801_10)).trans hw801_10), ((HB.out.cell (World.block_lt_of_cell? w _ hw801_11)).trans hw801_11), ((HB.out.cell (World.block_lt_of_cell? w _ hw801_12)).trans hw801_12), ((HB.out.cell (World.block_lt_of_cell? w _ hw801_13)).trans hw801_13)⟩ (fun hHeld => ?_); refine with_tabW impl_IsValidLibrary.tab4 impl_IsValidLibrary.bits4 (fun HT_ HW_ => ?_)
  generalize w17.drew = w18 at BK797 BK799 HB HR801_2 HR801_3 hx801_0 hx801_1 hx801_10 hx801_11 hx801_12 hx801_13 hx801_2 hx801_3 hx801_4 hx801_5 hx801_6 hx801_7 hx801_8 hx801_9 hHeld ⊢
  refine take_ (i := 0) (N := some 13) (v := ?_) (a' := ?_) #[true, false, false, false, false, false, false, false, false, false, false, false, false, false, false, false, false, false, false] rfl rfl (take_ofW HT_.out HW_.out (by kernel_rfl)) (fun _ _ _ h => h) (Or.inl ⟨by rfl, ?_⟩) hHeld ?_ ?_
  rotate_left
  ·
   rintro w' ⟨s0, s1, s2, s3, s4, s5, s6, s7, s8, s9, s10, s11, s12, s13, s14, s15, s16, s17, s18, s19, s20, s21, s22, s23, s24, s25, s26, s27, s28⟩
   go_simp
   with_reducible rfl
  rotate_left
  ·
   simp only [Act.put, List.setIfInBounds_toArray, List.set_cons_zero, List.set_cons_succ, i64_w, i32_w]
   rfl
  refine one_ (i := 1) (N := some 14) #[true, true, false, false, false, false, false, false, false, false, false, false, false, false, false, false, false, false, false] rfl rfl (one_of HT_.out (by kernel_rfl)) (by decide) (fun K hK => ?_)
  refine goes_ Tryd.func44 (by kernel_rfl) rfl #[.agg #[.string ((rd_T65 l0_0 x8_1).f0), .int .i64 ((rd_T65 l0_0 x8_1).f1), .slice A798_2 ((rd_T65 l0_0 x8_1).f2).length c798_2, .slice A798_3 ((rd_T65 l0_0 x8_1).f3).length c798_3, .string ((rd_T65 l0_0 x8_1).f4), .string ((rd_T65 l0_0 x8_1).f5), .string ((rd_T65 l0_0 x8_1).f6), .int .i64 ((rd_T65 l0_0 x8_1).f7.f0), .int .i64 ((rd_T65 l0_0 x8_1).f7.f1), .int .i64 ((rd_T65 l0_0 x8_1).f7.f2), .bool ((rd_T65 l0_0 x8_1).f7.f3), .int .i64 ((rd_T65 l0_0 x8_1).f8), .string ((rd_T65 l0_0 x8_1).f9), .string ((rd_T65 l0_0 x8_1).f10)]] (by rfl) rfl rfl au30 ?_
  first
  |
   with_reducible refine (impl_IsValidEntry.calls (hG := au0) k1 ((rd_T65 l0_0 x8_1).f0) ((rd_T65 l0_0 x8_1).f1) _ _ ((rd_T65 l0_0 x8_1).f2) _ _ ((rd_T65 l0_0 x8_1).f3) ((rd_T65 l0_0 x8_1).f4) ((rd_T65 l0_0 x8_1).f5) ((rd_T65 l0_0 x8_1).f6) ((rd_T65 l0_0 x8_1).f7.f0) ((rd_T65 l0_0 x8_1).f7.f1) ((rd_T65 l0_0 x8_1).f7.f2) ((rd_T65 l0_0 x8_1).f7.f3) ((rd_T65 l0_0 x8_1).f8) ((rd_T65 l0_0 x8_1).f9) ((rd_T65 l0_0 x8_1).f10) _ _ ?side1 ?side2 ?side3 ?side4 A7.out).mono ?_
   (case side1 => repeat (first | exact (Kd.C_below HR798_2.out HB.out) | (with_reducible refine Kd.C_alloc ?_ _) | (with_reducible refine Kd.C_drewN ?_ _) | (with_reducible refine Kd.C_drew ?_)))
   (case side2 => exact HC798_2.out)
   (case side3 => repeat (first | exact (Kd.C_below HR798_3.out HB.out) | (with_reducible refine Kd.C_alloc ?_ _) | (with_reducible refine Kd.C_drewN ?_ _) | (with_reducible refine Kd.C_drew ?_)))
   (case side4 => exact HC798_3.out)
   rintro e w19 ⟨rfl, hb⟩
   refine ⟨_, rfl, ?_⟩
   have n0_ := Aside0.mk (blk_below (g := gb797) (o := .cells #[.slice (some ad798) l0_0.length c0_0] 76 (0, 0)) au47 hb)
   have n1_ := Aside0.mk (blk_below (g := gb799) (o := .cells #[.string ((rd_T65 l0_0 x8_1).f0), .int .i64 ((rd_T65 l0_0 x8_1).f1), .slice A798_2 ((rd_T65 l0_0 x8_1).f2).length c798_2, .slice A798_3 ((rd_T65 l0_0 x8_1).f3).length c798_3, .string ((rd_T65 l0_0 x8_1).f4), .string ((rd_T65 l0_0 x8_1).f5), .string ((rd_T65 l0_0 x8_1).f6), .int .i64 ((rd_T65 l0_0 x8_1).f7.f0), .int .i64 ((rd_T65 l0_0 x8_1).f7.f1), .int .i64 ((rd_T65 l0_0 x8_1).f7.f2), .bool ((rd_T65 l0_0 x8_1).f7.f3), .int .i64 ((rd_T65 l0_0 x8_1).f8), .string ((rd_T65 l0_0 x8_1).f9), .string ((rd_T65 l0_0 x8_1).f10)] 65 (0, 0)) au48 hb)
   have n2_ := Aside0.mk (below_step au10 hb)
   clear BK797
   clear BK799
   clear HB
   have BK797 := n0_
   have BK799 := n1_
   have HB := n2_
   clear n0_ n1_ n2_
   (try clear hb)
   (try clear hb2)
   (try clear hk)
   (try clear hi)
   refine hK.out _ _ ⟨(blk_cell BK799.out 0).trans rfl, (blk_cell BK799.out 1).trans rfl, (blk_cell BK799.out 2).trans rfl, (blk_cell BK799.out 3).trans rfl, (blk_cell BK799.out 4).trans rfl, (blk_cell BK799.out 5).trans rfl, (blk_cell BK799.out 6).trans rfl, (blk_cell BK799.out 7).trans rfl, (blk_cell BK799.out 8).trans rfl, (blk_cell BK799.out 9).trans rfl, (blk_cell BK799.out 10).trans rfl, (blk_cell BK799.out 11).trans rfl, (blk_cell BK799.out 12).trans rfl, (blk_cell BK799.out 13).trans rfl, (blk_cell BK797.out 0).trans rfl, ((HB.out.cell (World.block_lt_of_cell? w _ hw801_0)).trans hw801_0), ((HB.out.cell (World.block_lt_of_cell? w _ hw801_1)).trans hw801_1), ((HB.out.cell (World.block_lt_of_cell? w _ hw801_2)).trans hw801_2), ((HB.out.cell (World.block_lt_of_cell? w _ hw801_3)).trans hw801_3), ((HB.out.cell (World.block_lt_of_cell? w _ hw801_4)).trans hw801_4), ((HB.out.cell (World.block_lt_of_cell? w _ hw801_5)).trans hw801_5), ((HB.out.cell (World.block_lt_of_cell? w _ hw801_6)).trans hw801_6), ((HB.out.cell (World.block_lt_of_cell? w _ hw801_7)).trans hw801_7), ((HB.out.cell (World.block_lt_of_cell? w _ hw801_8)).trans hw801_8), ((HB.out.cell (World.block_lt_of_cell? w _ hw801_9)).trans hw801_9), ((HB.out.cell (World.block_lt_of_cell? w _ hw801_10)).trans hw801_10), ((HB.out.cell (World.block_lt_of_cell? w _ hw801_11)).trans hw801_11), ((HB.out.cell (World.block_lt_of_cell? w _ hw801_12)).trans hw801_12), ((HB.out.cell (World.block_lt_of_cell? w _ hw801_13)).trans hw801_13)⟩ (fun hHeld => ?_)
   clear hK K
   refine norm_ (a' := ?_) ?_ ?_
   rotate_left
   ·
    show Act.put _ (some 14) _ = _
    simp only [Act.put, List.setIfInBounds_toArray, List.set_cons_zero, List.set_cons_succ, i64_w, i32_w]
    rfl
   refine pure_ (i := 2) (N := some 15) (v := ?_) (a' := ?_) #[true, true, true, false, false, false, false, false, false, false, false, false, false, false, false, false, false, false, false] rfl rfl (any_of HT_.out (by kernel_rfl)) (fun _ _ _ h => h) (Or.inl ⟨by rfl, ?_⟩) ?_ ?_
   rotate_left
   ·
    intro w'
    go_simp
    with_reducible rfl
   rotate_left
   ·
    simp only [Act.put, List.setIfInBounds_toArray, List.set_cons_zero, List.set_cons_succ, i64_w, i32_w]
    rfl
   refine pure_ (i := 3) (N := some 16) (v := ?_) (a' := ?_) #[true, true, true, true, false, false, false, false, false, false, false, false, false, false, false, false, false, false, false] rfl rfl (any_of HT_.out (by kernel_rfl)) (fun _ _ _ h => h) (Or.inl ⟨by rfl, ?_⟩) ?_ ?_
   rotate_left
   ·
    intro w'
    go_simp
    with_reducible rfl
   rotate_left
   ·
    simp only [Act.put, List.setIfInBounds_toArray, List.set_cons_zero, List.set_cons_succ, i64_w, i32_w]
    rfl
   refine pure_ (i := 4) (N := some 17) (v := ?_) (a' := ?_) #[true, true, true, true, true, false, false, false, false, false, false, false, false, false, false, false, false, false, false] rfl rfl (any_of HT_.out (by kernel_rfl)) (fun _ _ _ h => h) (Or.inl ⟨by rfl, ?_⟩) ?_ ?_
   rotate_left
   ·
    intro w'
    go_simp
    with_reducible rfl
   rotate_left
   ·
    simp only [Act.put, List.setIfInBounds_toArray, List.set_cons_zero, List.set_cons_succ, i64_w, i32_w]
    rfl
   refine pure_ (i := 5) (N := some 18) (v := ?_) (a' := ?_) #[true, true, true, true, true, true, false, false, false, false, false, false, false, false, false, false, false, false, false] rfl rfl (any_of HT_.out (by kernel_rfl)) (fun _ _ _ h => h) (Or.inl ⟨by rfl, ?_⟩) ?_ ?_
   rotate_left
   ·
    intro w'
    go_simp
    with_reducible rfl
   rotate_left
   ·
    simp only [Act.put, List.setIfInBounds_toArray, List.set_cons_zero, List.set_cons_succ, i64_w, i32_w]
    rfl
   refine pure_ (i := 6) (N := some 19) (v := ?_) (a' := ?_) #[true, true, true, true, true, true, true, false, false, false, false, false, false, false, false, false, false, false, false] rfl rfl (any_of HT_.out (by kernel_rfl)) (fun _ _ _ h => h) (Or.inl ⟨by rfl, ?_⟩) ?_ ?_
   rotate_left
   ·
    intro w'
    go_simp
    with_reducible rfl
   rotate_left
   ·
    simp only [Act.put, List.setIfInBounds_toArray, List.set_cons_zero, List.set_cons_succ, i64_w, i32_w]
    rfl
   refine pure_ (i := 7) (N := some 20) (v := ?_) (a' := ?_) #[true, true, true, true, true, true, true, true, false, false, false, false, false, false, false, false, false, false, false] rfl rfl (any_of HT_.out (by kernel_rfl)) (fun _ _ _ h => h) (Or.inl ⟨by rfl, ?_⟩) ?_ ?_
   rotate_left
   ·
    intro w'
    go_simp
    with_reducible rfl
   rotate_left
   ·
    simp only [Act.put, List.setIfInBounds_toArray, List.set_cons_zero, List.set_cons_succ, i64_w, i32_w]
    rfl
   refine pure_ (i := 9) (N := some 22) (v := ?_) (a' := ?_) #[true, true, true, true, true, true, true, true, false, true, false, false, false, false, false, false, false, false, false] rfl rfl (any_of HT_.out (by kernel_rfl)) (fun _ _ _ h => h) (Or.inl ⟨by rfl, ?_⟩) ?_ ?_
   rotate_left
   ·
    intro w'
    go_simp
    with_reducible rfl
   rotate_left
   ·
    simp only [Act.put, List.setIfInBounds_toArray, List.set_cons_zero, List.set_cons_succ, i64_w, i32_w]
    rfl
   refine pure_ (i := 10) (N := some 23) (v := ?_) (a' := ?_) #[true, true, true, true, true, true, true, true, false, true, true, false, false, false, false, false, false, false, false] rfl rfl (any_of HT_.out (by kernel_rfl)) (fun _ _ _ h => h) (Or.inl ⟨by rfl, ?_⟩) ?_ ?_
   rotate_left
   ·
    intro w'
    go_simp
    with_reducible rfl
   rotate_left
   ·
    simp only [Act.put, List.setIfInBounds_toArray, List.set_cons_zero, List.set_cons_succ, i64_w, i32_w]
    rfl
   refine pure_ (i := 14) (N := some 27) (v := ?_) (a' := ?_) #[true, true, true, true, true, true, true, true, false, true, true, false, false, false, true, false, false, false, false] rfl rfl (any_of HT_.out (by kernel_rfl)) (fun _ _ _ h => h) (Or.inl ⟨by rfl, ?_⟩) ?_ ?_
   rotate_left
   ·
    intro w'
    go_simp
    with_reducible rfl
   rotate_left
   ·
    simp only [Act.put, List.setIfInBounds_toArray, List.set_cons_zero, List.set_cons_succ, i64_w, i32_w]
    rfl
   refine take_ (i := 8) (N := some 21) (v := ?_) (a' := ?_) #[true, true, true, true, true, true, true, true, true, true, true, false, false, false, true, false, false, false, false] rfl rfl (take_ofW HT_.out HW_.out (by kernel_rfl)) (fun _ _ _ h => h) (Or.inl ⟨by rfl, ?_⟩) hHeld ?_ ?_
   rotate_left
   ·
    rintro w' ⟨s0, s1, s2, s3, s4, s5, s6, s7, s8, s9, s10, s11, s12, s13, s14, s15, s16, s17, s18, s19, s20, s21, s22, s23, s24, s25, s26, s27, s28⟩
    go_simp
    with_reducible rfl
   rotate_left
   ·
    simp only [Act.put, List.setIfInBounds_toArray, List.set_cons_zero, List.set_cons_succ, i64_w, i32_w]
    rfl
   refine pure_ (i := 11) (N := some 24) (v := ?_) (a' := ?_) #[true, true, true, true, true, true, true, true, true, true, true, true, false, false, true, false, false, false, false] rfl rfl (any_of HT_.out (by kernel_rfl)) (fun _ _ _ h => h) (Or.inl ⟨by rfl, ?_⟩) ?_ ?_
   rotate_left
   ·
    intro w'
    go_simp
    with_reducible rfl
   rotate_left
   ·
    simp only [Act.put, List.setIfInBounds_toArray, List.set_cons_zero, List.set_cons_succ, i64_w, i32_w]
    rfl
   refine pure_ (i := 12) (N := some 25) (v := ?_) (a' := ?_) #[true, true, true, true, true, true, true, true, true, true, true, true, true, false, true, false, false, false, false] rfl rfl (any_of HT_.out (by kernel_rfl)) (fun _ _ _ h => h) (Or.inl ⟨by rfl, ?_⟩) ?_ ?_
   rotate_left
   ·
    intro w'
    go_simp
    with_reducible rfl
   rotate_left
   ·
    simp only [Act.put, List.setIfInBounds_toArray, List.set_cons_zero, List.set_cons_succ, i64_w, i32_w]
    rfl
   refine take_ (i := 13) (N := some 26) (v := ?_) (a' := ?_) #[true, true, true, true, true, true, true, true, true, true, true, true, true, true, true, false, false, false, false] rfl rfl (take_ofW HT_.out HW_.out (by kernel_rfl)) (fun _ _ _ h => h) (Or.inl ⟨by rfl, ?_⟩) hHeld ?_ ?_
   rotate_left
   ·
    rintro w' ⟨s0, s1, s2, s3, s4, s5, s6, s7, s8, s9, s10, s11, s12, s13, s14, s15, s16, s17, s18, s19, s20, s21, s22, s23, s24, s25, s26, s27, s28⟩
    go_simp
    with_reducible rfl
   rotate_left
   ·
    simp only [Act.put, List.setIfInBounds_toArray, List.set_cons_zero, List.set_cons_succ, i64_w, i32_w]
    rfl
   refine take_ (i := 15) (N := some 28) (v := ?_) (a' := ?_) #[true, true, true, true, true, true, true, true, true, true, true, true, true, true, true, true, false, false, false] rfl rfl (take_ofW HT_.out HW_.out (by kernel_rfl)) (fun _ _ _ h => h) (Or.inl ⟨by rfl, ?_⟩) hHeld ?_ ?_
   rotate_left
   ·
    rintro w' ⟨s0, s1, s2, s3, s4, s5, s6, s7, s8, s9, s10, s11, s12, s13, s14, s15, s16, s17, s18, s19, s20, s21, s22, s23, s24, s25, s26, s27, s28⟩
    go_simp
    with_reducible rfl
   rotate_left
   ·
    simp only [Act.put, List.setIfInBounds_toArray, List.set_cons_zero, List.set_cons_succ, i64_w, i32_w]
    rfl
   refine pure_ (i := 16) (N := some 29) (v := ?_) (a' := ?_) #[true, true, true, true, true, true, true, true, true, true, true, true, true, true, true, true, true, false, false] rfl rfl (any_of HT_.out (by kernel_rfl)) (fun _ _ _ h => h) (Or.inl ⟨by rfl, ?_⟩) ?_ ?_
   rotate_left
   ·
    intro w'
    go_simp
    with_reducible rfl
   rotate_left
   ·
    simp only [Act.put, List.setIfInBounds_toArray, List.set_cons_zero, List.set_cons_succ, i64_w, i32_w]
    rfl
   refine pure_ (i := 17) (N := some 30) (v := ?_) (a' := ?_) #[true, true, true, true, true, true, true, true, true, true, true, true, true, true, true, true, true, true, false] rfl rfl (any_of HT_.out (by kernel_rfl)) (fun _ _ _ h => h) (Or.inl ⟨by rfl, ?_⟩) ?_ ?_
   rotate_left
   ·
    intro w'
    go_simp
    with_reducible rfl
   rotate_left
   ·
    simp only [Act.put, List.setIfInBounds_toArray, List.set_cons_zero, List.set_cons_succ, i64_w, i32_w]
    rfl
   refine pure_ (i := 18) (N := some 31) (v := ?_) (a' := ?_) #[true, true, true, true, true, true, true, true, true, true, true, true, true, true, true, true, true, true, true] rfl rfl (any_of HT_.out (by kernel_rfl)) (fun _ _ _ h => h) (Or.inl ⟨by rfl, ?_⟩) ?_ ?_
   rotate_left
   ·
    intro w'
    go_simp
    with_reducible rfl
   rotate_left
   ·
    simp only [Act.put, List.setIfInBounds_toArray, List.set_cons_zero, List.set_cons_succ, i64_w, i32_w]
    rfl
   refine done_ (done_of HT_.out (by kernel_rfl)) ?_
   try go_wp2
   go_roundg k1
   case measure => have := HK1.out; omega
   case rel => exact ⟨(wrap64 (x8_1 + 1)), au61, H', ⟨by have := HK1.out; omega⟩, ⟨by (with_reducible repeat (first | refine blk_drewN ?_ _ | refine blk_drew ?_ | refine blk_alloc ?_ _)); exact BK797.out⟩, ⟨by repeat (first | (with_reducible first | exact HB.out | apply below_alloc | apply pw_below_drewN | apply below_drew1 | refine below_set ?_ GE797.out | refine below_set ?_ GE799.out) | exact HB.out)⟩⟩
  |
   with_reducible refine (impl_IsValidEntry.calls (hG := au0) k1 ((rd_T65 l0_0 x8_1).f0) ((rd_T65 l0_0 x8_1).f1) _ _ ((rd_T65 l0_0 x8_1).f2) _ _ ((rd_T65 l0_0 x8_1).f3) ((rd_T65 l0_0 x8_1).f4) ((rd_T65 l0_0 x8_1).f5) ((rd_T65 l0_0 x8_1).f6) ((rd_T65 l0_0 x8_1).f7.f0) ((rd_T65 l0_0 x8_1).f7.f1) ((rd_T65 l0_0 x8_1).f7.f2) ((rd_T65 l0_0 x8_1).f7.f3) ((rd_T65 l0_0 x8_1).f8) ((rd_T65 l0_0 x8_1).f9) ((rd_T65 l0_0 x8_1).f10) _ _ ?side1 ?side2 ?side3 ?side4 A7.out).mono ?_
   (case side1 => repeat (first | exact (Kd.C_below HR798_2.out HB.out) | (with_reducible refine Kd.C_alloc ?_ _) | (with_reducible refine Kd.C_drewN ?_ _) | (with_reducible refine Kd.C_drew ?_)))
   (case side2 => exact HC798_2.out)
   (case side3 => repeat (first | exact (Kd.C_below HR798_3.out HB.out) | (with_reducible refine Kd.C_alloc ?_ _) | (with_reducible refine Kd.C_drewN ?_ _) | (with_reducible refine Kd.C_drew ?_)))
   (case side4 => exact HC798_3.out)
   rintro e w25 ⟨rfl, hb⟩
   refine ⟨_, rfl, ?_⟩
   have n0_ := Aside0.mk (blk_below (g := gb797) (o := .cells #[.slice (some ad798) l0_0.length c0_0] 76 (0, 0)) au47 hb)
   have n1_ := Aside0.mk (blk_below (g := gb799) (o := .cells #[.string ((rd_T65 l0_0 x8_1).f0), .int .i64 ((rd_T65 l0_0 x8_1).f1), .slice A798_2 ((rd_T65 l0_0 x8_1).f2).length c798_2, .slice A798_3 ((rd_T65 l0_0 x8_1).f3).length c798_3, .string ((rd_T65 l0_0 x8_1).f4), .string ((rd_T65 l0_0 x8_1).f5), .string ((rd_T65 l0_0 x8_1).f6), .int .i64 ((rd_T65 l0_0 x8_1).f7.f0), .int .i64 ((rd_T65 l0_0 x8_1).f7.f1), .int .i64 ((rd_T65 l0_0 x8_1).f7.f2), .bool ((rd_T65 l0_0 x8_1).f7.f3), .int .i64 ((rd_T65 l0_0 x8_1).f8), .string ((rd_T65 l0_0 x8_1).f9), .string ((rd_T65 l0_0 x8_1).f10)] 65 (0, 0)) au48 hb)
   have n2_ := Aside0.mk (below_step au10 hb)
   clear BK797
   clear BK799
   clear HB
   have BK797 := n0_
   have BK799 := n1_
   have HB := n2_
   clear n0_ n1_ n2_
   (try clear hb)
   (try clear hb2)
   (try clear hk)
   (try clear hi)
   refine hK.out _ _ ⟨(blk_cell BK799.out 0).trans rfl, (blk_cell BK799.out 1).trans rfl, (blk_cell BK799.out 2).trans rfl, (blk_cell BK799.out 3).trans rfl, (blk_cell BK799.out 4).trans rfl, (blk_cell BK799.out 5).trans rfl, (blk_cell BK799.out 6).trans rfl, (blk_cell BK799.out 7).trans rfl, (blk_cell BK799.out 8).trans rfl, (blk_cell BK799.out 9).trans rfl, (blk_cell BK799.out 10).trans rfl, (blk_cell BK799.out 11).trans rfl, (blk_cell BK799.out 12).trans rfl, (blk_cell BK799.out 13).trans rfl, (blk_cell BK797.out 0).trans rfl, ((HB.out.cell (World.block_lt_of_cell? w _ hw801_0)).trans hw801_0), ((HB.out.cell (World.block_lt_of_cell? w _ hw801_1)).trans hw801_1), ((HB.out.cell (World.block_lt_of_cell? w _ hw801_2)).trans hw801_2), ((HB.out.cell (World.block_lt_of_cell? w _ hw801_3)).trans hw801_3), ((HB.out.cell (World.block_lt_of_cell? w _ hw801_4)).trans hw801_4), ((HB.out.cell (World.block_lt_of_cell? w _ hw801_5)).trans hw801_5), ((HB.out.cell (World.block_lt_of_cell? w _ hw801_6)).trans hw801_6), ((HB.out.cell (World.block_lt_of_cell? w _ hw801_7)).trans hw801_7), ((HB.out.cell (World.block_lt_of_cell? w _ hw801_8)).trans hw801_8), ((HB.out.cell (World.block_lt_of_cell? w _ hw801_9)).trans hw801_9), ((HB.out.cell (World.block_lt_of_cell? w _ hw801_10)).trans hw801_10), ((HB.out.cell (World.block_lt_of_cell? w _ hw801_11)).trans hw801_11), ((HB.out.cell (World.block_lt_of_cell? w _ hw801_12)).trans hw801_12), ((HB.out.cell (World.block_lt_of_cell? w _ hw801_13)).trans hw801_13)⟩ (fun hHeld => ?_)
   clear hK K
   refine norm_ (a' := ?_) ?_ ?_
   rotate_left
   ·
    show Act.put _ (some 14) _ = _
    simp only [Act.put, List.setIfInBounds_toArray, List.set_cons_zero, List.set_cons_succ, i64_w, i32_w]
    rfl
   refine pure_ (i := 2) (N := some 15) (v := ?_) (a' := ?_) #[true, true, true, false, false, false, false, false, false, false, false, false, false, false, false, false, false, false, false] rfl rfl (any_of HT_.out (by kernel_rfl)) (fun _ _ _ h => h) (Or.inl ⟨by rfl, ?_⟩) ?_ ?_
   rotate_left
   ·
    intro w'
    go_simp
    with_reducible rfl
   rotate_left
   ·
    simp only [Act.put, List.setIfInBounds_toArray, List.set_cons_zero, List.set_cons_succ, i64_w, i32_w]
    rfl
   refine pure_ (i := 3) (N := some 16) (v := ?_) (a' := ?_) #[true, true, true, true, false, false, false, false, false, false, false, false, false, false, false, false, false, false, false] rfl rfl (any_of HT_.out (by kernel_rfl)) (fun _ _ _ h => h) (Or.inl ⟨by rfl, ?_⟩) ?_ ?_
   rotate_left
   ·
    intro w'
    go_simp
    with_reducible rfl
   rotate_left
   ·
    simp only [Act.put, List.setIfInBounds_toArray, List.set_cons_zero, List.set_cons_succ, i64_w, i32_w]
    rfl
   refine pure_ (i := 4) (N := some 17) (v := ?_) (a' := ?_) #[true, true, true, true, true, false, false, false, false, false, false, false, false, false, false, false, false, false, false] rfl rfl (any_of HT_.out (by kernel_rfl)) (fun _ _ _ h => h) (Or.inl ⟨by rfl, ?_⟩) ?_ ?_
   rotate_left
   ·
    intro w'
    go_simp
    with_reducible rfl
   rotate_left
   ·
    simp only [Act.put, List.setIfInBounds_toArray, List.set_cons_zero, List.set_cons_succ, i64_w, i32_w]
    rfl
   refine pure_ (i := 5) (N := some 18) (v := ?_) (a' := ?_) #[true, true, true, true, true, true, false, false, false, false, false, false, false, false, false, false, false, false, false] rfl rfl (any_of HT_.out (by kernel_rfl)) (fun _ _ _ h => h) (Or.inl ⟨by rfl, ?_⟩) ?_ ?_
   rotate_left
   ·
    intro w'
    go_simp
    with_reducible rfl
   rotate_left
   ·
    simp only [Act.put, List.setIfInBounds_toArray, List.set_cons_zero, List.set_cons_succ, i64_w, i32_w]
    rfl
   refine pure_ (i := 6) (N := some 19) (v := ?_) (a' := ?_) #[true, true, true, true, true, true, true, false, false, false, false, false, false, false, false, false, false, false, false] rfl rfl (any_of HT_.out (by kernel_rfl)) (fun _ _ _ h => h) (Or.inl ⟨by rfl, ?_⟩) ?_ ?_
   rotate_left
   ·
    intro w'
    go_simp
    with_reducible rfl
   rotate_left
   ·
    simp only [Act.put, List.setIfInBounds_toArray, List.set_cons_zero, List.set_cons_succ, i64_w, i32_w]
    rfl
   refine pure_ (i := 7) (N := some 20) (v := ?_) (a' := ?_) #[true, true, true, true, true, true, true, true, false, false, false, false, false, false, false, false, false, false, false] rfl rfl (any_of HT_.out (by kernel_rfl)) (fun _ _ _ h => h) (Or.inl ⟨by rfl, ?_⟩) ?_ ?_
   rotate_left
   ·
    intro w'
    go_simp
    with_reducible rfl
   rotate_left
   ·
    simp only [Act.put, List.setIfInBounds_toArray, List.set_cons_zero, List.set_cons_succ, i64_w, i32_w]
    rfl
   refine pure_ (i := 9) (N := some 22) (v := ?_) (a' := ?_) #[true, true, true, true, true, true, true, true, false, true, false, false, false, false, false, false, false, false, false] rfl rfl (any_of HT_.out (by kernel_rfl)) (fun _ _ _ h => h) (Or.inl ⟨by rfl, ?_⟩) ?_ ?_
   rotate_left
   ·
    intro w'
    go_simp
    with_reducible rfl
   rotate_left
   ·
    simp only [Act.put, List.setIfInBounds_toArray, List.set_cons_zero, List.set_cons_succ, i64_w, i32_w]
    rfl
   refine pure_ (i := 10) (N := some 23) (v := ?_) (a' := ?_) #[true, true, true, true, true, true, true, true, false, true, true, false, false, false, false, false, false, false, false] rfl rfl (any_of HT_.out (by kernel_rfl)) (fun _ _ _ h => h) (Or.inl ⟨by rfl, ?_⟩) ?_ ?_
   rotate_left
   ·
    intro w'
    go_simp
    with_reducible rfl
   rotate_left
   ·
    simp only [Act.put, List.setIfInBounds_toArray, List.set_cons_zero, List.set_cons_succ, i64_w, i32_w]
    rfl
   refine pure_ (i := 14) (N := some 27) (v := ?_) (a' := ?_) #[true, true, true, true, true, true, true, true, false, true, true, false, false, false, true, false, false, false, false] rfl rfl (any_of HT_.out (by kernel_rfl)) (fun _ _ _ h => h) (Or.inl ⟨by rfl, ?_⟩) ?_ ?_
   rotate_left
   ·
    intro w'
    go_simp
    with_reducible rfl
   rotate_left
   ·
    simp only [Act.put, List.setIfInBounds_toArray, List.set_cons_zero, List.set_cons_succ, i64_w, i32_w]
    rfl
   refine take_ (i := 8) (N := some 21) (v := ?_) (a' := ?_) #[true, true, true, true, true, true, true, true, true, true, true, false, false, false, true, false, false, false, false] rfl rfl (take_ofW HT_.out HW_.out (by kernel_rfl)) (fun _ _ _ h => h) (Or.inl ⟨by rfl, ?_⟩) hHeld ?_ ?_
   rotate_left
   ·
    rintro w' ⟨s0, s1, s2, s3, s4, s5, s6, s7, s8, s9, s10, s11, s12, s13, s14, s15, s16, s17, s18, s19, s20, s21, s22, s23, s24, s25, s26, s27, s28⟩
    go_simp
    with_reducible rfl
   rotate_left
   ·
    simp only [Act.put, List.setIfInBounds_toArray, List.set_cons_zero, List.set_cons_succ, i64_w, i32_w]
    rfl
   refine pure_ (i := 11) (N := some 24) (v := ?_) (a' := ?_) #[true, true, true, true, true, true, true, true, true, true, true, true, false, false, true, false, false, false, false] rfl rfl (any_of HT_.out (by kernel_rfl)) (fun _ _ _ h => h) (Or.inl ⟨by rfl, ?_⟩) ?_ ?_
   rotate_left
   ·
    intro w'
    go_simp
    with_reducible rfl
   rotate_left
   ·
    simp only [Act.put, List.setIfInBounds_toArray, List.set_cons_zero, List.set_cons_succ, i64_w, i32_w]
    rfl
   refine pure_ (i := 12) (N := some 25) (v := ?_) (a' := ?_) #[true, true, true, true, true, true, true, true, true, true, true, true, true, false, true, false, false, false, false] rfl rfl (any_of HT_.out (by kernel_rfl)) (fun _ _ _ h => h) (Or.inl ⟨by rfl, ?_⟩) ?_ ?_
   rotate_left
   ·
    intro w'
    go_simp
    with_reducible rfl
   rotate_left
   ·
    simp only [Act.put, List.setIfInBounds_toArray, List.set_cons_zero, List.set_cons_succ, i64_w, i32_w]
    rfl
   refine take_ (i := 13) (N := some 26) (v := ?_) (a' := ?_) #[true, true, true, true, true, true, true, true, true, true, true, true, true, true, true, false, false, false, false] rfl rfl (take_ofW HT_.out HW_.out (by kernel_rfl)) (fun _ _ _ h => h) (Or.inl ⟨by rfl, ?_⟩) hHeld ?_ ?_
   rotate_left
   ·
    rintro w' ⟨s0, s1, s2, s3, s4, s5, s6, s7, s8, s9, s10, s11, s12, s13, s14, s15, s16, s17, s18, s19, s20, s21, s22, s23, s24, s25, s26, s27, s28⟩
    go_simp
    with_reducible rfl
   rotate_left
   ·
    simp only [Act.put, List.setIfInBounds_toArray, List.set_cons_zero, List.set_cons_succ, i64_w, i32_w]
    rfl
   refine take_ (i := 15) (N := some 28) (v := ?_) (a' := ?_) #[true, true, true, true, true, true, true, true, true, true, true, true, true, true, true, true, false, false, false] rfl rfl (take_ofW HT_.out HW_.out (by kernel_rfl)) (fun _ _ _ h => h) (Or.inl ⟨by rfl, ?_⟩) hHeld ?_ ?_
   rotate_left
   ·
    rintro w' ⟨s0, s1, s2, s3, s4, s5, s6, s7, s8, s9, s10, s11, s12, s13, s14, s15, s16, s17, s18, s19, s20, s21, s22, s23, s24, s25, s26, s27, s28⟩
    go_simp
    with_reducible rfl
   rotate_left
   ·
    simp only [Act.put, List.setIfInBounds_toArray, List.set_cons_zero, List.set_cons_succ, i64_w, i32_w]
    rfl
   refine pure_ (i := 16) (N := some 29) (v := ?_) (a' := ?_) #[true, true, true, true, true, true, true, true, true, true, true, true, true, true, true, true, true, false, false] rfl rfl (any_of HT_.out (by kernel_rfl)) (fun _ _ _ h => h) (Or.inl ⟨by rfl, ?_⟩) ?_ ?_
   rotate_left
   ·
    intro w'
    go_simp
    with_reducible rfl
   rotate_left
   ·
    simp only [Act.put, List.setIfInBounds_toArray, List.set_cons_zero, List.set_cons_succ, i64_w, i32_w]
    rfl
   refine pure_ (i := 17) (N := some 30) (v := ?_) (a' := ?_) #[true, true, true, true, true, true, true, true, true, true, true, true, true, true, true, true, true, true, false] rfl rfl (any_of HT_.out (by kernel_rfl)) (fun _ _ _ h => h) (Or.inl ⟨by rfl, ?_⟩) ?_ ?_
   rotate_left
   ·
    intro w'
    go_simp
    with_reducible rfl
   rotate_left
   ·
    simp only [Act.put, List.setIfInBounds_toArray, List.set_cons_zero, List.set_cons_succ, i64_w, i32_w]
    rfl
   refine pure_ (i := 18) (N := some 31) (v := ?_) (a' := ?_) #[true, true, true, true, true, true, true, true, true, true, true, true, true, true, true, true, true, true, true] rfl rfl (any_of HT_.out (by kernel_rfl)) (fun _ _ _ h => h) (Or.inl ⟨by rfl, ?_⟩) ?_ ?_
   rotate_left
   ·
    intro w'
    go_simp
    with_reducible rfl
   rotate_left
   ·
    simp only [Act.put, List.setIfInBounds_toArray, List.set_cons_zero, List.set_cons_succ, i64_w, i32_w]
    rfl
   refine done_ (done_of HT_.out (by kernel_rfl)) ?_
   try go_wp2
   go_ret
   exact ⟨by first | rfl | (simp [errW_none, errW_some] <;> rfl) | (simp only [← hji10]; first | rfl | (simp [errW_none, errW_some] <;> rfl)) | (simp [*, errW_none, errW_some] <;> rfl), by repeat (first | (with_reducible first | exact HB.out | apply below_alloc | apply pw_below_drewN | apply below_drew1 | refine below_set ?_ GE797.out | refine below_set ?_ GE799.out) | exact HB.out)⟩) : P := h
set_option maxRecDepth 100000 in
theorem impl_IsValidLibrary.L1 {P : Prop} (h : P := by
  try go_wp2_with (first | ((with_reducible refine gate_dst (N := 4) rfl ?_); refine box_event ?hg (N := 4) ?hd (cs := #[.string (⟨#[]⟩ : ByteArray), .int .i64 0, .slice none 0 0, .slice none 0 0, .string (⟨#[]⟩ : ByteArray), .string (⟨#[]⟩ : ByteArray), .string (⟨#[]⟩ : ByteArray), .int .i64 0, .int .i64 0, .int .i64 0, .bool false, .int .i64 0, .string (⟨#[]⟩ : ByteArray), .string (⟨#[]⟩ : ByteArray)]) (t := 65) ?hr ?_; (case hd => rfl); (case hg => rfl); (case hr => first | (go_simp; done) | (go_simp; rfl)); intro gb799 hg w26 hbox hb; have n0_ := Aside0.mk (blk_below (g := gb797) (o := .cells #[.slice (some ad798) l0_0.length c0_0] 76 (0, 0)) au47 hb); have n1_ := Aside0.mk (below_step au24 hb); have n2_ := Aside0.mk (hbox); have n3_ := Aside0.mk ((by rw [hg]; exact (below_size au24) : w.heap.size ≤ gb799)); have n4_ := Aside0.mk ((by rw [hg]; exact (below_size au24) : w.heap.size ≤ gb799)); have n5_ := Aside0.mk ((by rw [hg]; exact Nat.ne_of_lt (blk_lt (g := gb797) (o := .cells #[.slice (some ad798) l0_0.length c0_0] 76 (0, 0)) au47) : gb797 ≠ gb799)); have n6_ := Aside0.mk ((by rw [hg]; exact Nat.ne_of_gt (blk_lt (g := gb797) (o := .cells #[.slice (some ad798) l0_0.length c0_0] 76 (0, 0)) au47) : gb799 ≠ gb797)); clear BK797; clear HB; have BK797 := n0_; have HB := n1_; have BK799 := n2_; have GW799 := n3_; have GE799 := n4_; have NB797_799 := n5_; have NB799_797 := n6_; clear n0_ n1_ n2_ n3_ n4_ n5_ n6_; clear hb hbox hg; have hnb27 := NB799_797.out; have hnc27 := NB797_799.out; have hcz28_0 : w26.cell? ⟨gb799, 0, none⟩ = some (.string (⟨#[]⟩ : ByteArray)) := (blk_cell BK799.out 0).trans rfl; have hcz28_1 : w26.cell? ⟨gb799, 1, none⟩ = some (.int .i64 0) := (blk_cell BK799.out 1).trans rfl; have hcz28_2 : w26.cell? ⟨gb799, 2, none⟩ = some (.slice none 0 0) := (blk_cell BK799.out 2).trans rfl; have hcz28_3 : w26.cell? ⟨gb799, 3, none⟩ = some (.slice none 0 0) := (blk_cell BK799.out 3).trans rfl; have hcz28_4 : w26.cell? ⟨gb799, 4, none⟩ = some (.string (⟨#[]⟩ : ByteArray)) := (blk_cell BK799.out 4).trans rfl; have hcz28_5 : w26.cell? ⟨gb799, 5, none⟩ = some (.string (⟨#[]⟩ : ByteArray)) := (blk_cell BK799.out 5).trans rfl; have hcz28_6 : w26.cell? ⟨gb799, 6, none⟩ = some (.string (⟨#[]⟩ : ByteArray)) := (blk_cell BK799.out 6).trans rfl; have hcz28_7 : w26.cell? ⟨gb799, 7, none⟩ = some (.int .i64 0) := (blk_cell BK799.out 7).trans rfl; have hcz28_8 : w26.cell? ⟨gb799, 8, none⟩ = some (.int .i64 0) := (blk_cell BK799.out 8).trans rfl; have hcz28_9 : w26.cell? ⟨gb799, 9, none⟩ = some (.int .i64 0) := (blk_cell BK799.out 9).trans rfl; have hcz28_10 : w26.cell? ⟨gb799, 10, none⟩ = some (.bool false) := (blk_cell BK799.out 10).trans rfl; have hcz28_11 : w26.cell? ⟨gb799, 11, none⟩ = some (.int .i64 0) := (blk_cell BK799.out 11).trans rfl; have hcz28_12 : w26.cell? ⟨gb799, 12, none⟩ = some (.string (⟨#[]⟩ : ByteArray)) := (blk_cell BK799.out 12).trans rfl; have hcz28_13 : w26.cell? ⟨gb799, 13, none⟩ = some (.string (⟨#[]⟩ : ByteArray)) := (blk_cell BK799.out 13).trans rfl; have hfz28_0 := blk_frozen BK799.out 0; have hfz28_1 := blk_frozen BK799.out 1; have hfz28_2 := blk_frozen BK799.out 2; have hfz28_3 := blk_frozen BK799.out 3; have hfz28_4 := blk_frozen BK799.out 4; have hfz28_5 := blk_frozen BK799.out 5; have hfz28_6 := blk_frozen BK799.out 6; have hfz28_7 := blk_frozen BK799.out 7; have hfz28_8 := blk_frozen BK799.out 8; have hfz28_9 := blk_frozen BK799.out 9; have hfz28_10 := blk_frozen BK799.out 10; have hfz28_11 := blk_frozen BK799.out 11; have hfz28_12 := blk_frozen BK799.out 12; have hfz28_13 := blk_frozen BK799.out 13))
  have n0_ : Aside0 (((((((((((((((w26.setCell ⟨gb799, 0, none⟩ (.string ((rd_T65 l0_0 x8_1).f0))).setCell ⟨gb799, 1, none⟩ (.int .i64 ((rd_T65 l0_0 x8_1).f1))).setCell ⟨gb799, 2, none⟩ (.slice A798_2 ((rd_T65 l0_0 x8_1).f2).length c798_2)).setCell ⟨gb799, 3, none⟩ (.slice A798_3 ((rd_T65 l0_0 x8_1).f3).length c798_3)).setCell ⟨gb799, 4, none⟩ (.string ((rd_T65 l0_0 x8_1).f4))).setCell ⟨gb799, 5, none⟩ (.string ((rd_T65 l0_0 x8_1).f5))).setCell ⟨gb799, 6, none⟩ (.string ((rd_T65 l0_0 x8_1).f6))).setCell ⟨gb799, 7, none⟩ (.int .i64 ((rd_T65 l0_0 x8_1).f7.f0))).setCell ⟨gb799, 8, none⟩ (.int .i64 ((rd_T65 l0_0 x8_1).f7.f1))).setCell ⟨gb799, 9, none⟩ (.int .i64 ((rd_T65 l0_0 x8_1).f7.f2))).setCell ⟨gb799, 10, none⟩ (.bool ((rd_T65 l0_0 x8_1).f7.f3))).setCell ⟨gb799, 11, none⟩ (.int .i64 ((rd_T65 l0_0 x8_1).f8))).setCell ⟨gb799, 12, none⟩ (.string ((rd_T65 l0_0 x8_1).f9))).setCell ⟨gb799, 13, none⟩ (.string ((rd_T65 l0_0 x8_1).f10))).heap[gb797]? = some (.cells #[.slice (some ad798) l0_0.length c0_0] 76 (0, 0))) := ⟨by (with_reducible repeat (first | refine blk_drewN ?_ _ | refine blk_drew ?_ | refine blk_alloc ?_ _)); refine blk_far ?_ NB797_799.out _; (with_reducible repeat (first | refine blk_drewN ?_ _ | refine blk_drew ?_ | refine blk_alloc ?_ _)); refine blk_far ?_ NB797_799.out _; (with_reducible repeat (first | refine blk_drewN ?_ _ | refine blk_drew ?_ | refine blk_alloc ?_ _)); refine blk_far ?_ NB797_799.out _; (with_reducible repeat (first | refine blk_drewN ?_ _ | refine blk_drew ?_ | refine blk_alloc ?_ _)); refine blk_far ?_ NB797_799.out _; (with_reducible repeat (first | refine blk_drewN ?_ _ | refine blk_drew ?_ | refine blk_alloc ?_ _)); refine blk_far ?_ NB797_799.out _; (with_reducible repeat (first | refine blk_drewN ?_ _ | refine blk_drew ?_ | refine blk_alloc ?_ _)); refine blk_far ?_ NB797_799.out _; (with_reducible repeat (first | refine blk_drewN ?_ _ | refine blk_drew ?_ | refine blk_alloc ?_ _)); refine blk_far ?_ NB797_799.out _; (with_reducible repeat (first | refine blk_drewN ?_ _ | refine blk_drew ?_ | refine blk_alloc ?_ _)); refine blk_far ?_ NB797_799.out _; (with_reducible repeat (first | refine blk_drewN ?_ _ | refine blk_drew ?_ | refine blk_alloc ?_ _)); refine blk_far ?_ NB797_799.out _; (with_reducible repeat (first | refine blk_drewN ?_ _ | refine blk_drew ?_ | refine blk_alloc ?_ _)); refine blk_far ?_ NB797_799.out _; (with_reducible repeat (first | refine blk_drewN ?_ _ | refine blk_drew ?_ | refine blk_alloc ?_ _)); refine blk_far ?_ NB797_799.out _; (with_reducible repeat (first | refine blk_drewN ?_ _ | refine blk_drew ?_ | refine blk_alloc ?_ _)); refine blk_far ?_ NB797_799.out _; (with_reducible repeat (first | refine blk_drewN ?_ _ | refine blk_drew ?_ | refine blk_alloc ?_ _)); refine blk_far ?_ NB797_799.out _; (with_reducible repeat (first | refine blk_drewN ?_ _ | refine blk_drew ?_ | refine blk_alloc ?_ _)); refine blk_far ?_ NB797_799.out _; (with_reducible repeat (first | refine blk_drewN ?_ _ | refine blk_drew ?_ | refine blk_alloc ?_ _)); exact BK797.out⟩
  have n1_ : Aside0 (((((((((((((((w26.setCell ⟨gb799, 0, none⟩ (.string ((rd_T65 l0_0 x8_1).f0))).setCell ⟨gb799, 1, none⟩ (.int .i64 ((rd_T65 l0_0 x8_1).f1))).setCell ⟨gb799, 2, none⟩ (.slice A798_2 ((rd_T65 l0_0 x8_1).f2).length c798_2)).setCell ⟨gb799, 3, none⟩ (.slice A798_3 ((rd_T65 l0_0 x8_1).f3).length c798_3)).setCell ⟨gb799, 4, none⟩ (.string ((rd_T65 l0_0 x8_1).f4))).setCell ⟨gb799, 5, none⟩ (.string ((rd_T65 l0_0 x8_1).f5))).setCell ⟨gb799, 6, none⟩ (.string ((rd_T65 l0_0 x8_1).f6))).setCell ⟨gb799, 7, none⟩ (.int .i64 ((rd_T65 l0_0 x8_1).f7.f0))).setCell ⟨gb799, 8, none⟩ (.int .i64 ((rd_T65 l0_0 x8_1).f7.f1))).setCell ⟨gb799, 9, none⟩ (.int .i64 ((rd_T65 l0_0 x8_1).f7.f2))).setCell ⟨gb799, 10, none⟩ (.bool ((rd_T65 l0_0 x8_1).f7.f3))).setCell ⟨gb799, 11, none⟩ (.int .i64 ((rd_T65 l0_0 x8_1).f8))).setCell ⟨gb799, 12, none⟩ (.string ((rd_T65 l0_0 x8_1).f9))).setCell ⟨gb799, 13, none⟩ (.string ((rd_T65 l0_0 x8_1).f10))).heap[gb799]? = some (.cells #[.string ((rd_T65 l0_0 x8_1).f0), .int .i64 ((rd_T65 l0_0 x8_1).f1), .slice A798_2 ((rd_T65 l0_0 x8_1).f2).length c798_2, .slice A798_3 ((rd_T65 l0_0 x8_1).f3).length c798_3, .string ((rd_T65 l0_0 x8_1).f4), .string ((rd_T65 l0_0 x8_1).f5), .string ((rd_T65 l0_0 x8_1).f6), .int .i64 ((rd_T65 l0_0 x8_1).f7.f0), .int .i64 ((rd_T65 l0_0 x8_1).f7.f1), .int .i64 ((rd_T65 l0_0 x8_1).f7.f2), .bool ((rd_T65 l0_0 x8_1).f7.f3), .int .i64 ((rd_T65 l0_0 x8_1).f8), .string ((rd_T65 l0_0 x8_1).f9), .string ((rd_T65 l0_0 x8_1).f10)] 65 (0, 0))) := ⟨by (with_reducible repeat (first | refine blk_drewN ?_ _ | refine blk_drew ?_ | refine blk_alloc ?_ _)); refine blk_put (cs := #[.string ((rd_T65 l0_0 x8_1).f0), .int .i64 ((rd_T65 l0_0 x8_1).f1), .slice A798_2 ((rd_T65 l0_0 x8_1).f2).length c798_2, .slice A798_3 ((rd_T65 l0_0 x8_1).f3).length c798_3, .string ((rd_T65 l0_0 x8_1).f4), .string ((rd_T65 l0_0 x8_1).f5), .string ((rd_T65 l0_0 x8_1).f6), .int .i64 ((rd_T65 l0_0 x8_1).f7.f0), .int .i64 ((rd_T65 l0_0 x8_1).f7.f1), .int .i64 ((rd_T65 l0_0 x8_1).f7.f2), .bool ((rd_T65 l0_0 x8_1).f7.f3), .int .i64 ((rd_T65 l0_0 x8_1).f8), .string ((rd_T65 l0_0 x8_1).f9), .string (⟨#[]⟩ : ByteArray)]) ?_ 13 _ rfl; (with_reducible repeat (first | refine blk_drewN ?_ _ | refine blk_drew ?_ | refine blk_alloc ?_ _)); refine blk_put (cs := #[.string ((rd_T65 l0_0 x8_1).f0), .int .i64 ((rd_T65 l0_0 x8_1).f1), .slice A798_2 ((rd_T65 l0_0 x8_1).f2).length c798_2, .slice A798_3 ((rd_T65 l0_0 x8_1).f3).length c798_3, .string ((rd_T65 l0_0 x8_1).f4), .string ((rd_T65 l0_0 x8_1).f5), .string ((rd_T65 l0_0 x8_1).f6), .int .i64 ((rd_T65 l0_0 x8_1).f7.f0), .int .i64 ((rd_T65 l0_0 x8_1).f7.f1), .int .i64 ((rd_T65 l0_0 x8_1).f7.f2), .bool ((rd_T65 l0_0 x8_1).f7.f3), .int .i64 ((rd_T65 l0_0 x8_1).f8), .string (⟨#[]⟩ : ByteArray), .string (⟨#[]⟩ : ByteArray)]) ?_ 12 _ rfl; (with_reducible repeat (first | refine blk_drewN ?_ _ | refine blk_drew ?_ | refine blk_alloc ?_ _)); refine blk_put (cs := #[.string ((rd_T65 l0_0 x8_1).f0), .int .i64 ((rd_T65 l0_0 x8_1).f1), .slice A798_2 ((rd_T65 l0_0 x8_1).f2).length c798_2, .slice A798_3 ((rd_T65 l0_0 x8_1).f3).length c798_3, .string ((rd_T65 l0_0 x8_1).f4), .string ((rd_T65 l0_0 x8_1).f5), .string ((rd_T65 l0_0 x8_1).f6), .int .i64 ((rd_T65 l0_0 x8_1).f7.f0), .int .i64 ((rd_T65 l0_0 x8_1).f7.f1), .int .i64 ((rd_T65 l0_0 x8_1).f7.f2), .bool ((rd_T65 l0_0 x8_1).f7.f3), .int .i64 0, .string (⟨#[]⟩ : ByteArray), .string (⟨#[]⟩ : ByteArray)]) ?_ 11 _ rfl; (with_reducible repeat (first | refine blk_drewN ?_ _ | refine blk_drew ?_ | refine blk_alloc ?_ _)); refine blk_put (cs := #[.string ((rd_T65 l0_0 x8_1).f0), .int .i64 ((rd_T65 l0_0 x8_1).f1), .slice A798_2 ((rd_T65 l0_0 x8_1).f2).length c798_2, .slice A798_3 ((rd_T65 l0_0 x8_1).f3).length c798_3, .string ((rd_T65 l0_0 x8_1).f4), .string ((rd_T65 l0_0 x8_1).f5), .string ((rd_T65 l0_0 x8_1).f6), .int .i64 ((rd_T65 l0_0 x8_1).f7.f0), .int .i64 ((rd_T65 l0_0 x8_1).f7.f1), .int .i64 ((rd_T65 l0_0 x8_1).f7.f2), .bool false, .int .i64 0, .string (⟨#[]⟩ : ByteArray), .string (⟨#[]⟩ : ByteArray)]) ?_ 10 _ rfl; (with_reducible repeat (first | refine blk_drewN ?_ _ | refine blk_drew ?_ | refine blk_alloc ?_ _)); refine blk_put (cs := #[.string ((rd_T65 l0_0 x8_1).f0), .int .i64 ((rd_T65 l0_0 x8_1).f1), .slice A798_2 ((rd_T65 l0_0 x8_1).f2).length c798_2, .slice A798_3 ((rd_T65 l0_0 x8_1).f3).length c798_3, .string ((rd_T65 l0_0 x8_1).f4), .string ((rd_T65 l0_0 x8_1).f5), .string ((rd_T65 l0_0 x8_1).f6), .int .i64 ((rd_T65 l0_0 x8_1).f7.f0), .int .i64 ((rd_T65 l0_0 x8_1).f7.f1), .int .i64 0, .bool false, .int .i64 0, .string (⟨#[]⟩ : ByteArray), .string (⟨#[]⟩ : ByteArray)]) ?_ 9 _ rfl; (with_reducible repeat (first | refine blk_drewN ?_ _ | refine blk_drew ?_ | refine blk_alloc ?_ _)); refine blk_put (cs := #[.string ((rd_T65 l0_0 x8_1).f0), .int .i64 ((rd_T65 l0_0 x8_1).f1), .slice A798_2 ((rd_T65 l0_0 x8_1).f2).length c798_2, .slice A798_3 ((rd_T65 l0_0 x8_1).f3).length c798_3, .string ((rd_T65 l0_0 x8_1).f4), .string ((rd_T65 l0_0 x8_1).f5), .string ((rd_T65 l0_0 x8_1).f6), .int .i64 ((rd_T65 l0_0 x8_1).f7.f0), .int .i64 0, .int .i64 0, .bool false, .int .i64 0, .string (⟨#[]⟩ : ByteArray), .string (⟨#[]⟩ : ByteArray)]) ?_ 8 _ rfl; (with_reducible repeat (first | refine blk_drewN ?_ _ | refine blk_drew ?_ | refine blk_alloc ?_ _)); refine blk_put (cs := #[.string ((rd_T65 l0_0 x8_1).f0), .int .i64 ((rd_T65 l0_0 x8_1).f1), .slice A798_2 ((rd_T65 l0_0 x8_1).f2).length c798_2, .slice A798_3 ((rd_T65 l0_0 x8_1).f3).length c798_3, .string ((rd_T65 l0_0 x8_1).f4), .string ((rd_T65 l0_0 x8_1).f5), .string ((rd_T65 l0_0 x8_1).f6), .int .i64 0, .int .i64 0, .int .i64 0, .bool false, .int .i64 0, .string (⟨#[]⟩ : ByteArray), .string (⟨#[]⟩ : ByteArray)]) ?_ 7 _ rfl; (with_reducible repeat (first | refine blk_drewN ?_ _ | refine blk_drew ?_ | refine blk_alloc ?_ _)); refine blk_put (cs := #[.string ((rd_T65 l0_0 x8_1).f0), .int .i64 ((rd_T65 l0_0 x8_1).f1), .slice A798_2 ((rd_T65 l0_0 x8_1).f2).length c798_2, .slice A798_3 ((rd_T65 l0_0 x8_1).f3).length c798_3, .string ((rd_T65 l0_0 x8_1).f4), .string ((rd_T65 l0_0 x8_1).f5), .string (⟨#[]⟩ : ByteArray), .int .i64 0, .int .i64 0, .int .i64 0, .bool false, .int .i64 0, .string (⟨#[]⟩ : ByteArray), .string (⟨#[]⟩ : ByteArray)]) ?_ 6 _ rfl; (with_reducible repeat (first | refine blk_drewN ?_ _ | refine blk_drew ?_ | refine blk_alloc ?_ _)); refine blk_put (cs := #[.string ((rd_T65 l0_0 x8_1).f0), .int .i64 ((rd_T65 l0_0 x8_1).f1), .slice A798_2 ((rd_T65 l0_0 x8_1).f2).length c798_2, .slice A798_3 ((rd_T65 l0_0 x8_1).f3).length c798_3, .string ((rd_T65 l0_0 x8_1).f4), .string (⟨#[]⟩ : ByteArray), .string (⟨#[]⟩ : ByteArray), .int .i64 0, .int .i64 0, .int .i64 0, .bool false, .int .i64 0, .string (⟨#[]⟩ : ByteArray), .string (⟨#[]⟩ : ByteArray)]) ?_ 5 _ rfl; (with_reducible repeat (first | refine blk_drewN ?_ _ | refine blk_drew ?_ | refine blk_alloc ?_ _)); refine blk_put (cs := #[.string ((rd_T65 l0_0 x8_1).f0), .int .i64 ((rd_T65 l0_0 x8_1).f1), .slice A798_2 ((rd_T65 l0_0 x8_1).f2).length c798_2, .slice A798_3 ((rd_T65 l0_0 x8_1).f3).length c798_3, .string (⟨#[]⟩ : ByteArray), .string (⟨#[]⟩ : ByteArray), .string (⟨#[]⟩ : ByteArray), .int .i64 0, .int .i64 0, .int .i64 0, .bool false, .int .i64 0, .string (⟨#[]⟩ : ByteArray), .string (⟨#[]⟩ : ByteArray)]) ?_ 4 _ rfl; (with_reducible repeat (first | refine blk_drewN ?_ _ | refine blk_drew ?_ | refine blk_alloc ?_ _)); refine blk_put (cs := #[.string ((rd_T65 l0_0 x8_1).f0), .int .i64 ((rd_T65 l0_0 x8_1).f1), .slice A798_2 ((rd_T65 l0_0 x8_1).f2).length c798_2, .slice none 0 0, .string (⟨#[]⟩ : ByteArray), .string (⟨#[]⟩ : ByteArray), .string (⟨#[]⟩ : ByteArray), .int .i64 0, .int .i64 0, .int .i64 0, .bool false, .int .i64 0, .string (⟨#[]⟩ : ByteArray), .string (⟨#[]⟩ : ByteArray)]) ?_ 3 _ rfl; (with_reducible repeat (first | refine blk_drewN ?_ _ | refine blk_drew ?_ | refine blk_alloc ?_ _)); refine blk_put (cs := #[.string ((rd_T65 l0_0 x8_1).f0), .int .i64 ((rd_T65 l0_0 x8_1).f1), .slice none 0 0, .slice none 0 0, .string (⟨#[]⟩ : ByteArray), .string (⟨#[]⟩ : ByteArray), .string (⟨#[]⟩ : ByteArray), .int .i64 0, .int .i64 0, .int .i64 0, .bool false, .int .i64 0, .string (⟨#[]⟩ : ByteArray), .string (⟨#[]⟩ : ByteArray)]) ?_ 2 _ rfl; (with_reducible repeat (first | refine blk_drewN ?_ _ | refine blk_drew ?_ | refine blk_alloc ?_ _)); refine blk_put (cs := #[.string ((rd_T65 l0_0 x8_1).f0), .int .i64 0, .slice none 0 0, .slice none 0 0, .string (⟨#[]⟩ : ByteArray), .string (⟨#[]⟩ : ByteArray), .string (⟨#[]⟩ : ByteArray), .int .i64 0, .int .i64 0, .int .i64 0, .bool false, .int .i64 0, .string (⟨#[]⟩ : ByteArray), .string (⟨#[]⟩ : ByteArray)]) ?_ 1 _ rfl; (with_reducible repeat (first | refine blk_drewN ?_ _ | refine blk_drew ?_ | refine blk_alloc ?_ _)); refine blk_put (cs := #[.string (⟨#[]⟩ : ByteArray), .int .i64 0, .slice none 0 0, .slice none 0 0, .string (⟨#[]⟩ : ByteArray), .string (⟨#[]⟩ : ByteArray), .string (⟨#[]⟩ : ByteArray), .int .i64 0, .int .i64 0, .int .i64 0, .bool false, .int .i64 0, .string (⟨#[]⟩ : ByteArray), .string (⟨#[]⟩ : ByteArray)]) ?_ 0 _ rfl; (with_reducible repeat (first | refine blk_drewN ?_ _ | refine blk_drew ?_ | refine blk_alloc ?_ _)); exact BK799.out⟩
  have n2_ : Aside0 (Below w.heap.size w ((((((((((((((w26.setCell ⟨gb799, 0, none⟩ (.string ((rd_T65 l0_0 x8_1).f0))).setCell ⟨gb799, 1, none⟩ (.int .i64 ((rd_T65 l0_0 x8_1).f1))).setCell ⟨gb799, 2, none⟩ (.slice A798_2 ((rd_T65 l0_0 x8_1).f2).length c798_2)).setCell ⟨gb799, 3, none⟩ (.slice A798_3 ((rd_T65 l0_0 x8_1).f3).length c798_3)).setCell ⟨gb799, 4, none⟩ (.string ((rd_T65 l0_0 x8_1).f4))).setCell ⟨gb799, 5, none⟩ (.string ((rd_T65 l0_0 x8_1).f5))).setCell ⟨gb799, 6, none⟩ (.string ((rd_T65 l0_0 x8_1).f6))).setCell ⟨gb799, 7, none⟩ (.int .i64 ((rd_T65 l0_0 x8_1).f7.f0))).setCell ⟨gb799, 8, none⟩ (.int .i64 ((rd_T65 l0_0 x8_1).f7.f1))).setCell ⟨gb799, 9, none⟩ (.int .i64 ((rd_T65 l0_0 x8_1).f7.f2))).setCell ⟨gb799, 10, none⟩ (.bool ((rd_T65 l0_0 x8_1).f7.f3))).setCell ⟨gb799, 11, none⟩ (.int .i64 ((rd_T65 l0_0 x8_1).f8))).setCell ⟨gb799, 12, none⟩ (.string ((rd_T65 l0_0 x8_1).f9))).setCell ⟨gb799, 13, none⟩ (.string ((rd_T65 l0_0 x8_1).f10)))) := ⟨by repeat (first | (with_reducible first | exact HB.out | apply below_alloc | apply pw_below_drewN | apply below_drew1 | refine below_set ?_ GE797.out | refine below_set ?_ GE799.out) | exact HB.out)⟩
  (try clear BK797)
  (try clear BK799)
  (try clear HB)
  generalize ((((((((((((((w26.setCell ⟨gb799, 0, none⟩ (.string ((rd_T65 l0_0 x8_1).f0))).setCell ⟨gb799, 1, none⟩ (.int .i64 ((rd_T65 l0_0 x8_1).f1))).setCell ⟨gb799, 2, none⟩ (.slice A798_2 ((rd_T65 l0_0 x8_1).f2).length c798_2)).setCell ⟨gb799, 3, none⟩ (.slice A798_3 ((rd_T65 l0_0 x8_1).f3).length c798_3)).setCell ⟨gb799, 4, none⟩ (.string ((rd_T65 l0_0 x8_1).f4))).setCell ⟨gb799, 5, none⟩ (.string ((rd_T65 l0_0 x8_1).f5))).setCell ⟨gb799, 6, none⟩ (.string ((rd_T65 l0_0 x8_1).f6))).setCell ⟨gb799, 7, none⟩ (.int .i64 ((rd_T65 l0_0 x8_1).f7.f0))).setCell ⟨gb799, 8, none⟩ (.int .i64 ((rd_T65 l0_0 x8_1).f7.f1))).setCell ⟨gb799, 9, none⟩ (.int .i64 ((rd_T65 l0_0 x8_1).f7.f2))).setCell ⟨gb799, 10, none⟩ (.bool ((rd_T65 l0_0 x8_1).f7.f3))).setCell ⟨gb799, 11, none⟩ (.int .i64 ((rd_T65 l0_0 x8_1).f8))).setCell ⟨gb799, 12, none⟩ (.string ((rd_T65 l0_0 x8_1).f9))).setCell ⟨gb799, 13, none⟩ (.string ((rd_T65 l0_0 x8_1).f10))) = w29 at n0_ n1_ n2_ ⊢
  have BK797 := n0_
  have BK799 := n1_
  have HB := n2_
  clear n0_ n1_ n2_
  have n0_ := Aside0.mk (blk_drew BK797.out)
  have n1_ := Aside0.mk (blk_drew BK799.out)
  have n2_ := Aside0.mk (below_drew1 HB.out)
  clear BK797
  clear BK799
  clear HB
  have BK797 := n0_
  have BK799 := n1_
  have HB := n2_
  clear n0_ n1_ n2_
  refine start_ (n := 19) (S := fun w' => w'.cell? ⟨gb799, 0, none⟩ = some (.string ((rd_T65 l0_0 x8_1).f0)) ∧ w'.cell? ⟨gb799, 1, none⟩ = some (.int .i64 ((rd_T65 l0_0 x8_1).f1)) ∧ w'.cell? ⟨gb799, 2, none⟩ = some (.slice A798_2 ((rd_T65 l0_0 x8_1).f2).length c798_2) ∧ w'.cell? ⟨gb799, 3, none⟩ = some (.slice A798_3 ((rd_T65 l0_0 x8_1).f3).length c798_3) ∧ w'.cell? ⟨gb799, 4, none⟩ = some (.string ((rd_T65 l0_0 x8_1).f4)) ∧ w'.cell? ⟨gb799, 5, none⟩ = some (.string ((rd_T65 l0_0 x8_1).f5)) ∧ w'.cell? ⟨gb799, 6, none⟩ = some (.string ((rd_T65 l0_0 x8_1).f6)) ∧ w'.cell? ⟨gb799, 7, none⟩ = some (.int .i64 ((rd_T65 l0_0 x8_1).f7.f0)) ∧ w'.cell? ⟨gb799, 8, none⟩ = some (.int .i64 ((rd_T65 l0_0 x8_1).f7.f1)) ∧ w'.cell? ⟨gb799, 9, none⟩ = some (.int .i64 ((rd_T65 l0_0 x8_1).f7.f2)) ∧ w'.cell? ⟨gb799, 10, none⟩ = some (.bool ((rd_T65 l0_0 x8_1).f7.f3)) ∧ w'.cell? ⟨gb799, 11, none⟩ = some (.int .i64 ((rd_T65 l0_0 x8_1).f8)) ∧ w'.cell? ⟨gb799, 12, none⟩ = some (.string ((rd_T65 l0_0 x8_1).f9)) ∧ w'.cell? ⟨gb799, 13, none⟩ = some (.string ((rd_T65 l0_0 x8_1).f10))) (ds := []) #[false, false, false, false, false, false, false, false, false, false, false, false, false, false, false, false, false, false, false] (by kernel_rfl) rfl rfl ⟨(blk_cell BK799.out 0).trans rfl, (blk_cell BK799.out 1).trans rfl, (blk_cell BK799.out 2).trans rfl, (blk_cell BK799.out 3).trans rfl, (blk_cell BK799.out 4).trans rfl, (blk_cell BK799.out 5).trans rfl, (blk_cell BK799.out 6).trans rfl, (blk_cell BK799.out 7).trans rfl, (blk_cell BK799.out 8).trans rfl, (blk_cell BK799.out 9).trans rfl, (blk_cell BK799.out 10).trans rfl, (blk_cell BK799.out 11).trans rfl, (blk_cell BK799.out 12).trans rfl, (blk_cell BK799.out 13).trans rfl⟩ (fun hHeld => ?_); refine with_tabW impl_IsValidLibrary.tab4 impl_IsValidLibrary.bits4 (fun HT_ HW_ => ?_)
  generalize w29.drew = w30 at BK797 BK799 HB hHeld ⊢
  refine take_ (i := 0) (N := some 13) (v := ?_) (a' := ?_) #[true, false, false, false, false, false, false, false, false, false, false, false, false, false, false, false, false, false, false] rfl rfl (take_ofW HT_.out HW_.out (by kernel_rfl)) (fun _ _ _ h => h) (Or.inl ⟨by rfl, ?_⟩) hHeld ?_ ?_
  rotate_left
  ·
   rintro w' ⟨s0, s1, s2, s3, s4, s5, s6, s7, s8, s9, s10, s11, s12, s13⟩
   go_simp
   with_reducible rfl
  rotate_left
  ·
   simp only [Act.put, List.setIfInBounds_toArray, List.set_cons_zero, List.set_cons_succ, i64_w, i32_w]
   rfl
  refine one_ (i := 1) (N := some 14) #[true, true, false, false, false, false, false, false, false, false, false, false, false, false, false, false, false, false, false] rfl rfl (one_of HT_.out (by kernel_rfl)) (by decide) (fun K hK => ?_)
  refine goes_ Tryd.func44 (by kernel_rfl) rfl #[.agg #[.string ((rd_T65 l0_0 x8_1).f0), .int .i64 ((rd_T65 l0_0 x8_1).f1), .slice A798_2 ((rd_T65 l0_0 x8_1).f2).length c798_2, .slice A798_3 ((rd_T65 l0_0 x8_1).f3).length c798_3, .string ((rd_T65 l0_0 x8_1).f4), .string ((rd_T65 l0_0 x8_1).f5), .string ((rd_T65 l0_0 x8_1).f6), .int .i64 ((rd_T65 l0_0 x8_1).f7.f0), .int .i64 ((rd_T65 l0_0 x8_1).f7.f1), .int .i64 ((rd_T65 l0_0 x8_1).f7.f2), .bool ((rd_T65 l0_0 x8_1).f7.f3), .int .i64 ((rd_T65 l0_0 x8_1).f8), .string ((rd_T65 l0_0 x8_1).f9), .string ((rd_T65 l0_0 x8_1).f10)]] (by rfl) rfl rfl au30 ?_
  first
  |
   with_reducible refine (impl_IsValidEntry.calls (hG := au0) k1 ((rd_T65 l0_0 x8_1).f0) ((rd_T65 l0_0 x8_1).f1) _ _ ((rd_T65 l0_0 x8_1).f2) _ _ ((rd_T65 l0_0 x8_1).f3) ((rd_T65 l0_0 x8_1).f4) ((rd_T65 l0_0 x8_1).f5) ((rd_T65 l0_0 x8_1).f6) ((rd_T65 l0_0 x8_1).f7.f0) ((rd_T65 l0_0 x8_1).f7.f1) ((rd_T65 l0_0 x8_1).f7.f2) ((rd_T65 l0_0 x8_1).f7.f3) ((rd_T65 l0_0 x8_1).f8) ((rd_T65 l0_0 x8_1).f9) ((rd_T65 l0_0 x8_1).f10) _ _ ?side1 ?side2 ?side3 ?side4 A7.out).mono ?_
   (case side1 => repeat (first | exact (Kd.C_below HR798_2.out HB.out) | (with_reducible refine Kd.C_alloc ?_ _) | (with_reducible refine Kd.C_drewN ?_ _) | (with_reducible refine Kd.C_drew ?_)))
   (case side2 => exact HC798_2.out)
   (case side3 => repeat (first | exact (Kd.C_below HR798_3.out HB.out) | (with_reducible refine Kd.C_alloc ?_ _) | (with_reducible refine Kd.C_drewN ?_ _) | (with_reducible refine Kd.C_drew ?_)))
   (case side4 => exact HC798_3.out)
   rintro e w31 ⟨rfl, hb⟩
   refine ⟨_, rfl, ?_⟩
   have n0_ := Aside0.mk (blk_below (g := gb797) (o := .cells #[.slice (some ad798) l0_0.length c0_0] 76 (0, 0)) au47 hb)
   have n1_ := Aside0.mk (blk_below (g := gb799) (o := .cells #[.string ((rd_T65 l0_0 x8_1).f0), .int .i64 ((rd_T65 l0_0 x8_1).f1), .slice A798_2 ((rd_T65 l0_0 x8_1).f2).length c798_2, .slice A798_3 ((rd_T65 l0_0 x8_1).f3).length c798_3, .string ((rd_T65 l0_0 x8_1).f4), .string ((rd_T65 l0_0 x8_1).f5), .string ((rd_T65 l0_0 x8_1).f6), .int .i64 ((rd_T65 l0_0 x8_1).f7.f0), .int .i64 ((rd_T65 l0_0 x8_1).f7.f1), .int .i64 ((rd_T65 l0_0 x8_1).f7.f2), .bool ((rd_T65 l0_0 x8_1).f7.f3), .int .i64 ((rd_T65 l0_0 x8_1).f8), .string ((rd_T65 l0_0 x8_1).f9), .string ((rd_T65 l0_0 x8_1).f10)] 65 (0, 0)) au48 hb)
   have n2_ := Aside0.mk (below_step au10 hb)
   clear BK797
   clear BK799
   clear HB
   have BK797 := n0_
   have BK799 := n1_
   have HB := n2_
   clear n0_ n1_ n2_
   (try clear hb)
   (try clear hb2)
   (try clear hk)
   (try clear hi)
   refine hK.out _ _ ⟨(blk_cell BK799.out 0).trans rfl, (blk_cell BK799.out 1).trans rfl, (blk_cell BK799.out 2).trans rfl, (blk_cell BK799.out 3).trans rfl, (blk_cell BK799.out 4).trans rfl, (blk_cell BK799.out 5).trans rfl, (blk_cell BK799.out 6).trans rfl, (blk_cell BK799.out 7).trans rfl, (blk_cell BK799.out 8).trans rfl, (blk_cell BK799.out 9).trans rfl, (blk_cell BK799.out 10).trans rfl, (blk_cell BK799.out 11).trans rfl, (blk_cell BK799.out 12).trans rfl, (blk_cell BK799.out 13).trans rfl⟩ (fun hHeld => ?_)
   clear hK K
   refine norm_ (a' := ?_) ?_ ?_
   rotate_left
   ·
    show Act.put _ (some 14) _ = _
    simp only [Act.put, List.setIfInBounds_toArray, List.set_cons_zero, List.set_cons_succ, i64_w, i32_w]
    rfl
   refine pure_ (i := 2) (N := some 15) (v := ?_) (a' := ?_) #[true, true, true, false, false, false, false, false, false, false, false, false, false, false, false, false, false, false, false] rfl rfl (any_of HT_.out (by kernel_rfl)) (fun _ _ _ h => h) (Or.inl ⟨by rfl, ?_⟩) ?_ ?_
   rotate_left
   ·
    intro w'
    go_simp
    with_reducible rfl
   rotate_left
   ·
    simp only [Act.put, List.setIfInBounds_toArray, List.set_cons_zero, List.set_cons_succ, i64_w, i32_w]
    rfl
   refine pure_ (i := 3) (N := some 16) (v := ?_) (a' := ?_) #[true, true, true, true, false, false, false, false, false, false, false, false, false, false, false, false, false, false, false] rfl rfl (any_of HT_.out (by kernel_rfl)) (fun _ _ _ h => h) (Or.inl ⟨by rfl, ?_⟩) ?_ ?_
   rotate_left
   ·
    intro w'
    go_simp
    with_reducible rfl
   rotate_left
   ·
    simp only [Act.put, List.setIfInBounds_toArray, List.set_cons_zero, List.set_cons_succ, i64_w, i32_w]
    rfl
   refine pure_ (i := 4) (N := some 17) (v := ?_) (a' := ?_) #[true, true, true, true, true, false, false, false, false, false, false, false, false, false, false, false, false, false, false] rfl rfl (any_of HT_.out (by kernel_rfl)) (fun _ _ _ h => h) (Or.inl ⟨by rfl, ?_⟩) ?_ ?_
   rotate_left
   ·
    intro w'
    go_simp
    with_reducible rfl
   rotate_left
   ·
    simp only [Act.put, List.setIfInBounds_toArray, List.set_cons_zero, List.set_cons_succ, i64_w, i32_w]
    rfl
   refine pure_ (i := 5) (N := some 18) (v := ?_) (a' := ?_) #[true, true, true, true, true, true, false, false, false, false, false, false, false, false, false, false, false, false, false] rfl rfl (any_of HT_.out (by kernel_rfl)) (fun _ _ _ h => h) (Or.inl ⟨by rfl, ?_⟩) ?_ ?_
   rotate_left
   ·
    intro w'
    go_simp
    with_reducible rfl
   rotate_left
   ·
    simp only [Act.put, List.setIfInBounds_toArray, List.set_cons_zero, List.set_cons_succ, i64_w, i32_w]
    rfl
   refine pure_ (i := 6) (N := some 19) (v := ?_) (a' := ?_) #[true, true, true, true, true, true, true, false, false, false, false, false, false, false, false, false, false, false, false] rfl rfl (any_of HT_.out (by kernel_rfl)) (fun _ _ _ h => h) (Or.inl ⟨by rfl, ?_⟩) ?_ ?_
   rotate_left
   ·
    intro w'
    go_simp
    with_reducible rfl
   rotate_left
   ·
    simp only [Act.put, List.setIfInBounds_toArray, List.set_cons_zero, List.set_cons_succ, i64_w, i32_w]
    rfl
   refine pure_ (i := 7) (N := some 20) (v := undef) (a' := ?_) #[true, true, true, true, true, true, true, true, false, false, false, false, false, false, false, false, false, false, false] rfl rfl (any_of HT_.out (by kernel_rfl)) (fun _ _ _ h => h) (Or.inr ⟨by rfl, rfl⟩) ?_ ?_
   rotate_left
   ·
    simp only [Act.put, List.setIfInBounds_toArray, List.set_cons_zero, List.set_cons_succ, i64_w, i32_w]
    rfl
   refine pure_ (i := 8) (N := some 21) (v := undef) (a' := ?_) #[true, true, true, true, true, true, true, true, true, false, false, false, false, false, false, false, false, false, false] rfl rfl (any_of HT_.out (by kernel_rfl)) (fun _ _ _ h => h) (Or.inr ⟨by rfl, rfl⟩) ?_ ?_
   rotate_left
   ·
    simp only [Act.put, List.setIfInBounds_toArray, List.set_cons_zero, List.set_cons_succ, i64_w, i32_w]
    rfl
   refine pure_ (i := 9) (N := some 22) (v := undef) (a' := ?_) #[true, true, true, true, true, true, true, true, true, true, false, false, false, false, false, false, false, false, false] rfl rfl (any_of HT_.out (by kernel_rfl)) (fun _ _ _ h => h) (Or.inr ⟨by rfl, rfl⟩) ?_ ?_
   rotate_left
   ·
    simp only [Act.put, List.setIfInBounds_toArray, List.set_cons_zero, List.set_cons_succ, i64_w, i32_w]
    rfl
   refine pure_ (i := 10) (N := some 23) (v := undef) (a' := ?_) #[true, true, true, true, true, true, true, true, true, true, true, false, false, false, false, false, false, false, false] rfl rfl (any_of HT_.out (by kernel_rfl)) (fun _ _ _ h => h) (Or.inr ⟨by rfl, rfl⟩) ?_ ?_
   rotate_left
   ·
    simp only [Act.put, List.setIfInBounds_toArray, List.set_cons_zero, List.set_cons_succ, i64_w, i32_w]
    rfl
   refine pure_ (i := 11) (N := some 24) (v := undef) (a' := ?_) #[true, true, true, true, true, true, true, true, true, true, true, true, false, false, false, false, false, false, false] rfl rfl (any_of HT_.out (by kernel_rfl)) (fun _ _ _ h => h) (Or.inr ⟨by rfl, rfl⟩) ?_ ?_
   rotate_left
   ·
    simp only [Act.put, List.setIfInBounds_toArray, List.set_cons_zero, List.set_cons_succ, i64_w, i32_w]
    rfl
   refine pure_ (i := 12) (N := some 25) (v := undef) (a' := ?_) #[true, true, true, true, true, true, true, true, true, true, true, true, true, false, false, false, false, false, false] rfl rfl (any_of HT_.out (by kernel_rfl)) (fun _ _ _ h => h) (Or.inr ⟨by rfl, rfl⟩) ?_ ?_
   rotate_left
   ·
    simp only [Act.put, List.setIfInBounds_toArray, List.set_cons_zero, List.set_cons_succ, i64_w, i32_w]
    rfl
   refine pure_ (i := 13) (N := some 26) (v := undef) (a' := ?_) #[true, true, true, true, true, true, true, true, true, true, true, true, true, true, false, false, false, false, false] rfl rfl (any_of HT_.out (by kernel_rfl)) (fun _ _ _ h => h) (Or.inr ⟨by rfl, rfl⟩) ?_ ?_
   rotate_left
   ·
    simp only [Act.put, List.setIfInBounds_toArray, List.set_cons_zero, List.set_cons_succ, i64_w, i32_w]
    rfl
   refine pure_ (i := 14) (N := some 27) (v := undef) (a' := ?_) #[true, true, true, true, true, true, true, true, true, true, true, true, true, true, true, false, false, false, false] rfl rfl (any_of HT_.out (by kernel_rfl)) (fun _ _ _ h => h) (Or.inr ⟨by rfl, rfl⟩) ?_ ?_
   rotate_left
   ·
    simp only [Act.put, List.setIfInBounds_toArray, List.set_cons_zero, List.set_cons_succ, i64_w, i32_w]
    rfl
   refine pure_ (i := 15) (N := some 28) (v := undef) (a' := ?_) #[true, true, true, true, true, true, true, true, true, true, true, true, true, true, true, true, false, false, false] rfl rfl (any_of HT_.out (by kernel_rfl)) (fun _ _ _ h => h) (Or.inr ⟨by rfl, rfl⟩) ?_ ?_
   rotate_left
   ·
    simp only [Act.put, List.setIfInBounds_toArray, List.set_cons_zero, List.set_cons_succ, i64_w, i32_w]
    rfl
   refine pure_ (i := 16) (N := some 29) (v := undef) (a' := ?_) #[true, true, true, true, true, true, true, true, true, true, true, true, true, true, true, true, true, false, false] rfl rfl (any_of HT_.out (by kernel_rfl)) (fun _ _ _ h => h) (Or.inr ⟨by rfl, rfl⟩) ?_ ?_
   rotate_left
   ·
    simp only [Act.put, List.setIfInBounds_toArray, List.set_cons_zero, List.set_cons_succ, i64_w, i32_w]
    rfl
   refine pure_ (i := 17) (N := some 30) (v := ?_) (a' := ?_) #[true, true, true, true, true, true, true, true, true, true, true, true, true, true, true, true, true, true, false] rfl rfl (any_of HT_.out (by kernel_rfl)) (fun _ _ _ h => h) (Or.inl ⟨by rfl, ?_⟩) ?_ ?_
   rotate_left
   ·
    intro w'
    go_simp
    with_reducible rfl
   rotate_left
   ·
    simp only [Act.put, List.setIfInBounds_toArray, List.set_cons_zero, List.set_cons_succ, i64_w, i32_w]
    rfl
   refine pure_ (i := 18) (N := some 31) (v := ?_) (a' := ?_) #[true, true, true, true, true, true, true, true, true, true, true, true, true, true, true, true, true, true, true] rfl rfl (any_of HT_.out (by kernel_rfl)) (fun _ _ _ h => h) (Or.inl ⟨by rfl, ?_⟩) ?_ ?_
   rotate_left
   ·
    intro w'
    go_simp
    with_reducible rfl
   rotate_left
   ·
    simp only [Act.put, List.setIfInBounds_toArray, List.set_cons_zero, List.set_cons_succ, i64_w, i32_w]
    rfl
   refine done_ (done_of HT_.out (by kernel_rfl)) ?_
   try go_wp2
   go_roundg k1
   case measure => have := HK1.out; omega
   case rel => exact ⟨(wrap64 (x8_1 + 1)), au61, H', ⟨by have := HK1.out; omega⟩, ⟨by (with_reducible repeat (first | refine blk_drewN ?_ _ | refine blk_drew ?_ | refine blk_alloc ?_ _)); exact BK797.out⟩, ⟨by repeat (first | (with_reducible first | exact HB.out | apply below_alloc | apply pw_below_drewN | apply below_drew1 | refine below_set ?_ GE797.out | refine below_set ?_ GE799.out) | exact HB.out)⟩⟩
  |
   with_reducible refine (impl_IsValidEntry.calls (hG := au0) k1 ((rd_T65 l0_0 x8_1).f0) ((rd_T65 l0_0 x8_1).f1) _ _ ((rd_T65 l0_0 x8_1).f2) _ _ ((rd_T65 l0_0 x8_1).f3) ((rd_T65 l0_0 x8_1).f4) ((rd_T65 l0_0 x8_1).f5) ((rd_T65 l0_0 x8_1).f6) ((rd_T65 l0_0 x8_1).f7.f0) ((rd_T65 l0_0 x8_1).f7.f1) ((rd_T65 l0_0 x8_1).f7.f2) ((rd_T65 l0_0 x8_1).f7.f3) ((rd_T65 l0_0 x8_1).f8) ((rd_T65 l0_0 x8_1).f9) ((rd_T65 l0_0 x8_1).f10) _ _ ?side1 ?side2 ?side3 ?side4 A7.out).mono ?_
   (case side1 => repeat (first | exact (Kd.C_below HR798_2.out HB.out) | (with_reducible refine Kd.C_alloc ?_ _) | (with_reducible refine Kd.C_drewN ?_ _) | (with_reducible refine Kd.C_drew ?_)))
   (case side2 => exact HC798_2.out)
   (case side3 => repeat (first | exact (Kd.C_below HR798_3.out HB.out) | (with_reducible refine Kd.C_alloc ?_ _) | (with_reducible refine Kd.C_drewN ?_ _) | (with_reducible refine Kd.C_drew ?_)))
   (case side4 => exact HC798_3.out)
   rintro e w37 ⟨rfl, hb⟩
   refine ⟨_, rfl, ?_⟩
   have n0_ := Aside0.mk (blk_below (g := gb797) (o := .cells #[.slice (some ad798) l0_0.length c0_0] 76 (0, 0)) au47 hb)
   have n1_ := Aside0.mk (blk_below (g := gb799) (o := .cells #[.string ((rd_T65 l0_0 x8_1).f0), .int .i64 ((rd_T65 l0_0 x8_1).f1), .slice A798_2 ((rd_T65 l0_0 x8_1).f2).length c798_2, .slice A798_3 ((rd_T65 l0_0 x8_1).f3).length c798_3, .string ((rd_T65 l0_0 x8_1).f4), .string ((rd_T65 l0_0 x8_1).f5), .string ((rd_T65 l0_0 x8_1).f6), .int .i64 ((rd_T65 l0_0 x8_1).f7.f0), .int .i64 ((rd_T65 l0_0 x8_1).f7.f1), .int .i64 ((rd_T65 l0_0 x8_1).f7.f2), .bool ((rd_T65 l0_0 x8_1).f7.f3), .int .i64 ((rd_T65 l0_0 x8_1).f8), .string ((rd_T65 l0_0 x8_1).f9), .string ((rd_T65 l0_0 x8_1).f10)] 65 (0, 0)) au48 hb)
   have n2_ := Aside0.mk (below_step au10 hb)
   clear BK797
   clear BK799
   clear HB
   have BK797 := n0_
   have BK799 := n1_
   have HB := n2_
   clear n0_ n1_ n2_
   (try clear hb)
   (try clear hb2)
   (try clear hk)
   (try clear hi)
   refine hK.out _ _ ⟨(blk_cell BK799.out 0).trans rfl, (blk_cell BK799.out 1).trans rfl, (blk_cell BK799.out 2).trans rfl, (blk_cell BK799.out 3).trans rfl, (blk_cell BK799.out 4).trans rfl, (blk_cell BK799.out 5).trans rfl, (blk_cell BK799.out 6).trans rfl, (blk_cell BK799.out 7).trans rfl, (blk_cell BK799.out 8).trans rfl, (blk_cell BK799.out 9).trans rfl, (blk_cell BK799.out 10).trans rfl, (blk_cell BK799.out 11).trans rfl, (blk_cell BK799.out 12).trans rfl, (blk_cell BK799.out 13).trans rfl⟩ (fun hHeld => ?_)
   clear hK K
   refine norm_ (a' := ?_) ?_ ?_
   rotate_left
   ·
    show Act.put _ (some 14) _ = _
    simp only [Act.put, List.setIfInBounds_toArray, List.set_cons_zero, List.set_cons_succ, i64_w, i32_w]
    rfl
   refine pure_ (i := 2) (N := some 15) (v := ?_) (a' := ?_) #[true, true, true, false, false, false, false, false, false, false, false, false, false, false, false, false, false, false, false] rfl rfl (any_of HT_.out (by kernel_rfl)) (fun _ _ _ h => h) (Or.inl ⟨by rfl, ?_⟩) ?_ ?_
   rotate_left
   ·
    intro w'
    go_simp
    with_reducible rfl
   rotate_left
   ·
    simp only [Act.put, List.setIfInBounds_toArray, List.set_cons_zero, List.set_cons_succ, i64_w, i32_w]
    rfl
   refine pure_ (i := 3) (N := some 16) (v := ?_) (a' := ?_) #[true, true, true, true, false, false, false, false, false, false, false, false, false, false, false, false, false, false, false] rfl rfl (any_of HT_.out (by kernel_rfl)) (fun _ _ _ h => h) (Or.inl ⟨by rfl, ?_⟩) ?_ ?_
   rotate_left
   ·
    intro w'
    go_simp
    with_reducible rfl
   rotate_left
   ·
    simp only [Act.put, List.setIfInBounds_toArray, List.set_cons_zero, List.set_cons_succ, i64_w, i32_w]
    rfl
   refine pure_ (i := 4) (N := some 17) (v := undef) (a' := ?_) #[true, true, true, true, true, false, false, false, false, false, false, false, false, false, false, false, false, false, false] rfl rfl (any_of HT_.out (by kernel_rfl)) (fun _ _ _ h => h) (Or.inr ⟨by rfl, rfl⟩) ?_ ?_
   rotate_left
   ·
    simp only [Act.put, List.setIfInBounds_toArray, List.set_cons_zero, List.set_cons_succ, i64_w, i32_w]
    rfl
   refine pure_ (i := 5) (N := some 18) (v := undef) (a' := ?_) #[true, true, true, true, true, true, false, false, false, false, false, false, false, false, false, false, false, false, false] rfl rfl (any_of HT_.out (by kernel_rfl)) (fun _ _ _ h => h) (Or.inr ⟨by rfl, rfl⟩) ?_ ?_
   rotate_left
   ·
    simp only [Act.put, List.setIfInBounds_toArray, List.set_cons_zero, List.set_cons_succ, i64_w, i32_w]
    rfl
   refine pure_ (i := 6) (N := some 19) (v := undef) (a' := ?_) #[true, true, true, true, true, true, true, false, false, false, false, false, false, false, false, false, false, false, false] rfl rfl (any_of HT_.out (by kernel_rfl)) (fun _ _ _ h => h) (Or.inr ⟨by rfl, rfl⟩) ?_ ?_
   rotate_left
   ·
    simp only [Act.put, List.setIfInBounds_toArray, List.set_cons_zero, List.set_cons_succ, i64_w, i32_w]
    rfl
   refine pure_ (i := 7) (N := some 20) (v := undef) (a' := ?_) #[true, true, true, true, true, true, true, true, false, false, false, false, false, false, false, false, false, false, false] rfl rfl (any_of HT_.out (by kernel_rfl)) (fun _ _ _ h => h) (Or.inr ⟨by rfl, rfl⟩) ?_ ?_
   rotate_left
   ·
    simp only [Act.put, List.setIfInBounds_toArray, List.set_cons_zero, List.set_cons_succ, i64_w, i32_w]
    rfl
   refine pure_ (i := 8) (N := some 21) (v := undef) (a' := ?_) #[true, true, true, true, true, true, true, true, true, false, false, false, false, false, false, false, false, false, false] rfl rfl (any_of HT_.out (by kernel_rfl)) (fun _ _ _ h => h) (Or.inr ⟨by rfl, rfl⟩) ?_ ?_
   rotate_left
   ·
    simp only [Act.put, List.setIfInBounds_toArray, List.set_cons_zero, List.set_cons_succ, i64_w, i32_w]
    rfl
   refine pure_ (i := 9) (N := some 22) (v := undef) (a' := ?_) #[true, true, true, true, true, true, true, true, true, true, false, false, false, false, false, false, false, false, false] rfl rfl (any_of HT_.out (by kernel_rfl)) (fun _ _ _ h => h) (Or.inr ⟨by rfl, rfl⟩) ?_ ?_
   rotate_left
   ·
    simp only [Act.put, List.setIfInBounds_toArray, List.set_cons_zero, List.set_cons_succ, i64_w, i32_w]
    rfl
   refine pure_ (i := 10) (N := some 23) (v := undef) (a' := ?_) #[true, true, true, true, true, true, true, true, true, true, true, false, false, false, false, false, false, false, false] rfl rfl (any_of HT_.out (by kernel_rfl)) (fun _ _ _ h => h) (Or.inr ⟨by rfl, rfl⟩) ?_ ?_
   rotate_left
   ·
    simp only [Act.put, List.setIfInBounds_toArray, List.set_cons_zero, List.set_cons_succ, i64_w, i32_w]
    rfl
   refine pure_ (i := 11) (N := some 24) (v := undef) (a' := ?_) #[true, true, true, true, true, true, true, true, true, true, true, true, false, false, false, false, false, false, false] rfl rfl (any_of HT_.out (by kernel_rfl)) (fun _ _ _ h => h) (Or.inr ⟨by rfl, rfl⟩) ?_ ?_
   rotate_left
   ·
    simp only [Act.put, List.setIfInBounds_toArray, List.set_cons_zero, List.set_cons_succ, i64_w, i32_w]
    rfl
   refine pure_ (i := 12) (N := some 25) (v := undef) (a' := ?_) #[true, true, true, true, true, true, true, true, true, true, true, true, true, false, false, false, false, false, false] rfl rfl (any_of HT_.out (by kernel_rfl)) (fun _ _ _ h => h) (Or.inr ⟨by rfl, rfl⟩) ?_ ?_
   rotate_left
   ·
    simp only [Act.put, List.setIfInBounds_toArray, List.set_cons_zero, List.set_cons_succ, i64_w, i32_w]
    rfl
   refine pure_ (i := 13) (N := some 26) (v := undef) (a' := ?_) #[true, true, true, true, true, true, true, true, true, true, true, true, true, true, false, false, false, false, false] rfl rfl (any_of HT_.out (by kernel_rfl)) (fun _ _ _ h => h) (Or.inr ⟨by rfl, rfl⟩) ?_ ?_
   rotate_left
   ·
    simp only [Act.put, List.setIfInBounds_toArray, List.set_cons_zero, List.set_cons_succ, i64_w, i32_w]
    rfl
   refine pure_ (i := 14) (N := some 27) (v := undef) (a' := ?_) #[true, true, true, true, true, true, true, true, true, true, true, true, true, true, true, false, false, false, false] rfl rfl (any_of HT_.out (by kernel_rfl)) (fun _ _ _ h => h) (Or.inr ⟨by rfl, rfl⟩) ?_ ?_
   rotate_left
   ·
    simp only [Act.put, List.setIfInBounds_toArray, List.set_cons_zero, List.set_cons_succ, i64_w, i32_w]
    rfl
   refine pure_ (i := 15) (N := some 28) (v := undef) (a' := ?_) #[true, true, true, true, true, true, true, true, true, true, true, true, true, true, true, true, false, false, false] rfl rfl (any_of HT_.out (by kernel_rfl)) (fun _ _ _ h => h) (Or.inr ⟨by rfl, rfl⟩) ?_ ?_
   rotate_left
   ·
    simp only [Act.put, List.setIfInBounds_toArray, List.set_cons_zero, List.set_cons_succ, i64_w, i32_w]
    rfl
   refine pure_ (i := 16) (N := some 29) (v := undef) (a' := ?_) #[true, true, true, true, true, true, true, true, true, true, true, true, true, true, true, true, true, false, false] rfl rfl (any_of HT_.out (by kernel_rfl)) (fun _ _ _ h => h) (Or.inr ⟨by rfl, rfl⟩) ?_ ?_
   rotate_left
   ·
    simp only [Act.put, List.setIfInBounds_toArray, List.set_cons_zero, List.set_cons_succ, i64_w, i32_w]
    rfl
   refine pure_ (i := 17) (N := some 30) (v := undef) (a' := ?_) #[true, true, true, true, true, true, true, true, true, true, true, true, true, true, true, true, true, true, false] rfl rfl (any_of HT_.out (by kernel_rfl)) (fun _ _ _ h => h) (Or.inr ⟨by rfl, rfl⟩) ?_ ?_
   rotate_left
   ·
    simp only [Act.put, List.setIfInBounds_toArray, List.set_cons_zero, List.set_cons_succ, i64_w, i32_w]
    rfl
   refine pure_ (i := 18) (N := some 31) (v := ?_) (a' := ?_) #[true, true, true, true, true, true, true, true, true, true, true, true, true, true, true, true, true, true, true] rfl rfl (any_of HT_.out (by kernel_rfl)) (fun _ _ _ h => h) (Or.inl ⟨by rfl, ?_⟩) ?_ ?_
   rotate_left
   ·
    intro w'
    go_simp
    with_reducible rfl
   rotate_left
   ·
    simp only [Act.put, List.setIfInBounds_toArray, List.set_cons_zero, List.set_cons_succ, i64_w, i32_w]
    rfl
   refine done_ (done_of HT_.out (by kernel_rfl)) ?_
   try go_wp2
   go_ret
   exact ⟨by first | rfl | (simp [errW_none, errW_some] <;> rfl) | (simp [*, errW_none, errW_some] <;> rfl), by repeat (first | (with_reducible first | exact HB.out | apply below_alloc | apply pw_below_drewN | apply below_drew1 | refine below_set ?_ GE797.out | refine below_set ?_ GE799.out) | exact HB.out)⟩) : P := h
set_option maxHeartbeats 8000000 in
set_option maxRecDepth 100000 in
theorem impl_IsValidLibrary.calls (k : Nat) (A0_0 : Option Addr) (c0_0 : Nat) (l0_0 : List (S65)) (r : Bool) (w : World) {gF1 gF2 gF3 : Bool} (hG : GL gF1 gF2 gF3 w) (hr0_0 : Kd.C k65 w A0_0 l0_0.length l0_0) (hc0_0 : l0_0.length ≤ c0_0) (h : impl_IsValidLibrary.f k l0_0 = some r) :
  Calls Tryd.prog 49 #[.agg #[.slice A0_0 l0_0.length c0_0]] w fun e w' => e = .returned (.bool r) ∧ Below w.heap.size w w' := by
 have HG := Aside0.mk hG
 clear hG
 have hu76 := Tryd.underlying76
 have hu65 := Tryd.underlying65
 have HR0_0 := Aside0.mk hr0_0
 have HC0_0 := Aside0.mk hc0_0
 clear hr0_0 hc0_0
 have HB := Aside0.mk (Below.refl w.heap.size w)
 have H : (impl_IsValidLibrary.l0 k l0_0 (l0_0.length : Int) 0 l0_0) = some r := h
 clear h
 have H' := Aside0.mk H
 clear H
 go_enter Tryd.func49, Tryd.ntmps49
 go_wp2_with (first | ((with_reducible refine gate_dst (N := 1) rfl ?_); refine box_event ?hg (N := 1) ?hd (cs := #[.slice A0_0 l0_0.length c0_0]) (t := 76) ?hr ?_; (case hd => rfl); (case hg => rfl); (case hr => first | (go_simp; done) | (go_simp; rfl)); intro gb797 hg w2 hbox hb; have n0_ := Aside0.mk (below_step au31 hb); have n1_ := Aside0.mk (hbox); have n2_ := Aside0.mk ((by rw [hg]; exact (below_size au31) : w.heap.size ≤ gb797)); have n3_ := Aside0.mk ((by rw [hg]; exact (below_size au31) : w.heap.size ≤ gb797)); clear HB; have HB := n0_; have BK797 := n1_; have GW797 := n2_; have GE797 := n3_; clear n0_ n1_ n2_ n3_; clear hb hbox hg; have hcz3_0 : w2.cell? ⟨gb797, 0, none⟩ = some (.slice A0_0 l0_0.length c0_0) := (blk_cell BK797.out 0).trans rfl; have hfz3_0 := blk_frozen BK797.out 0))
 go_loopg [8] k (fun kq v8 w' => ∃ (x8_1 : Int), v8 = .int .i64 x8_1 ∧ Aside0 (impl_IsValidLibrary.l0 kq l0_0 (l0_0.length : Int) x8_1 l0_0 = some r) ∧ Aside0 (kq ≤ k) ∧ Aside0 (w'.heap[gb797]? = some (.cells #[(.slice A0_0 l0_0.length c0_0)] 76 (0, 0))) ∧ Aside0 (Below w.heap.size w w'))
 case atStart => exact ⟨(0), au61, H', ⟨Nat.le_refl _⟩, ⟨by (with_reducible repeat (first | refine blk_drewN ?_ _ | refine blk_drew ?_ | refine blk_alloc ?_ _)); exact BK797.out⟩, ⟨by repeat (first | (with_reducible first | exact HB.out | apply below_alloc | apply pw_below_drewN | apply below_drew1 | refine below_set ?_ GE797.out) | exact HB.out)⟩⟩
 case round =>
  clear H'
  try clear p2
  try clear hcz3_0
  try clear hfz3_0
  obtain ⟨x8_1, rfl, HA, HK1, BK797, HB⟩ := hrel
  cases gk with
  | zero => exact absurd HA.out (by simp [impl_IsValidLibrary.l0])
  | succ k1 =>
   have H := HA.out
   clear HA
   simp only [impl_IsValidLibrary.l0] at H
   by_cases c4 : x8_1 < (l0_0.length : Int)
   ·
    rw [if_pos c4] at H
    have c4b0 : decide (x8_1 < (l0_0.length : Int)) = true := decide_eq_true c4
    clear c4
    by_cases c5 : 0 ≤ x8_1
    ·
     rw [if_pos c5] at H
     have c5b0 : decide (0 ≤ x8_1) = true := decide_eq_true c5
     clear c5
     by_cases c6 : x8_1 < (l0_0.length : Int)
     ·
      rw [if_pos c6] at H
      have c6b0 : decide (x8_1 < (l0_0.length : Int)) = true := decide_eq_true c6
      clear c6
      replace H := Option.bind_eq_some_iff.mp H
      obtain ⟨t800, A70, H⟩ := H
      try dsimp only at H
      have A7 := Aside0.mk A70
      clear A70
      by_cases c8 : t800 = true
      ·
       subst c8
       replace H := (if_pos rfl).symm.trans H
       by_cases c9 : x8_1 > 0
       ·
        rw [if_pos c9] at H
        have c9b0 : decide (0 < x8_1) = true := decide_eq_true c9
        clear c9
        obtain ⟨ji10, hji10⟩ : ∃ j_ : Int, (wrap64 (x8_1 - 1)) = j_ := ⟨_, rfl⟩
        replace H : (if 0 ≤ (ji10) then (if (ji10) < (l0_0.length : Int) then (if ((Op.bytesLess (((rd_T65 l0_0 (ji10)).f0).toList) (((rd_T65 l0_0 x8_1).f0).toList)) = true) then (impl_IsValidLibrary.l0 k1 l0_0 (l0_0.length : Int) (wrap64 (x8_1 + 1)) l0_0) else (some false)) else (none)) else (none)) = some r := by first | (rw [hji10] at H; exact H) | (simp only [hji10] at H ⊢; exact H)
        (try rw [hji10] at A7)
        have hji10w : (IntKind.i64.wrap (x8_1 - 1)) = ji10 := (i64_w _).trans hji10
        by_cases c11 : 0 ≤ (ji10)
        ·
         rw [if_pos c11] at H
         have c11b0 : decide (0 ≤ (ji10)) = true := decide_eq_true c11
         clear c11
         by_cases c12 : (ji10) < (l0_0.length : Int)
         ·
          rw [if_pos c12] at H
          have c12b0 : decide ((ji10) < (l0_0.length : Int)) = true := decide_eq_true c12
          clear c12
          by_cases c13 : ((Op.bytesLess (((rd_T65 l0_0 (ji10)).f0).toList) (((rd_T65 l0_0 x8_1).f0).toList)) = true)
          ·
           rw [if_pos c13] at H
           have c13b0 : (Op.bytesLess (((rd_T65 l0_0 (ji10)).f0).toList) (((rd_T65 l0_0 x8_1).f0).toList)) = true := c13
           clear c13
           have H' := Aside0.mk H
           clear H
           have p798 : 0 ≤ (x8_1 : Int) := of_decide_eq_true au60
           have q798 : x8_1 < (l0_0.length : Int) := of_decide_eq_true au60
           obtain ⟨ad798, A798_2, c798_2, A798_3, c798_3, e798, hx798_0, hx798_1, hx798_2, hx798_3, hx798_4, hx798_5, hx798_6, hx798_7, hx798_8, hx798_9, hx798_10, hx798_11, hx798_12, hx798_13, hl798_2, hi798_2, hl798_3, hi798_3⟩ := at_T65 HR0_0.out x8_1 p798 q798
           cases e798
           replace hx798_0 := (HB.out.cell (World.block_lt_of_cell? w _ hx798_0)).trans hx798_0
           replace hx798_1 := (HB.out.cell (World.block_lt_of_cell? w _ hx798_1)).trans hx798_1
           replace hx798_2 := (HB.out.cell (World.block_lt_of_cell? w _ hx798_2)).trans hx798_2
           replace hx798_3 := (HB.out.cell (World.block_lt_of_cell? w _ hx798_3)).trans hx798_3
           replace hx798_4 := (HB.out.cell (World.block_lt_of_cell? w _ hx798_4)).trans hx798_4
           replace hx798_5 := (HB.out.cell (World.block_lt_of_cell? w _ hx798_5)).trans hx798_5
           replace hx798_6 := (HB.out.cell (World.block_lt_of_cell? w _ hx798_6)).trans hx798_6
           replace hx798_7 := (HB.out.cell (World.block_lt_of_cell? w _ hx798_7)).trans hx798_7
           replace hx798_8 := (HB.out.cell (World.block_lt_of_cell? w _ hx798_8)).trans hx798_8
           replace hx798_9 := (HB.out.cell (World.block_lt_of_cell? w _ hx798_9)).trans hx798_9
           replace hx798_10 := (HB.out.cell (World.block_lt_of_cell? w _ hx798_10)).trans hx798_10
           replace hx798_11 := (HB.out.cell (World.block_lt_of_cell? w _ hx798_11)).trans hx798_11
           replace hx798_12 := (HB.out.cell (World.block_lt_of_cell? w _ hx798_12)).trans hx798_12
           replace hx798_13 := (HB.out.cell (World.block_lt_of_cell? w _ hx798_13)).trans hx798_13
           have HR798_2 := Aside0.mk hi798_2
           have HC798_2 := Aside0.mk hl798_2
           clear hi798_2 hl798_2
           have HR798_3 := Aside0.mk hi798_3
           have HC798_3 := Aside0.mk hl798_3
           clear hi798_3 hl798_3
           replace p798 := eq_true p798
           replace q798 := eq_true q798
           exact impl_IsValidLibrary.L0
          ·
           rw [if_neg c13] at H
           have c13b0 : (Op.bytesLess (((rd_T65 l0_0 (ji10)).f0).toList) (((rd_T65 l0_0 x8_1).f0).toList)) = false := by simpa using c13
           clear c13
           obtain rfl := Option.some.inj H
           have p798 : 0 ≤ (x8_1 : Int) := of_decide_eq_true au60
           have q798 : x8_1 < (l0_0.length : Int) := of_decide_eq_true au60
           obtain ⟨ad798, A798_2, c798_2, A798_3, c798_3, e798, hx798_0, hx798_1, hx798_2, hx798_3, hx798_4, hx798_5, hx798_6, hx798_7, hx798_8, hx798_9, hx798_10, hx798_11, hx798_12, hx798_13, hl798_2, hi798_2, hl798_3, hi798_3⟩ := at_T65 HR0_0.out x8_1 p798 q798
           cases e798
           replace hx798_0 := (HB.out.cell (World.block_lt_of_cell? w _ hx798_0)).trans hx798_0
           replace hx798_1 := (HB.out.cell (World.block_lt_of_cell? w _ hx798_1)).trans hx798_1
           replace hx798_2 := (HB.out.cell (World.block_lt_of_cell? w _ hx798_2)).trans hx798_2
           replace hx798_3 := (HB.out.cell (World.block_lt_of_cell? w _ hx798_3)).trans hx798_3
           replace hx798_4 := (HB.out.cell (World.block_lt_of_cell? w _ hx798_4)).trans hx798_4
           replace hx798_5 := (HB.out.cell (World.block_lt_of_cell? w _ hx798_5)).trans hx798_5
           replace hx798_6 := (HB.out.cell (World.block_lt_of_cell? w _ hx798_6)).trans hx798_6
           replace hx798_7 := (HB.out.cell (World.block_lt_of_cell? w _ hx798_7)).trans hx798_7
           replace hx798_8 := (HB.out.cell (World.block_lt_of_cell? w _ hx798_8)).trans hx798_8
           replace hx798_9 := (HB.out.cell (World.block_lt_of_cell? w _ hx798_9)).trans hx798_9
           replace hx798_10 := (HB.out.cell (World.block_lt_of_cell? w _ hx798_10)).trans hx798_10
           replace hx798_11 := (HB.out.cell (World.block_lt_of_cell? w _ hx798_11)).trans hx798_11
           replace hx798_12 := (HB.out.cell (World.block_lt_of_cell? w _ hx798_12)).trans hx798_12
           replace hx798_13 := (HB.out.cell (World.block_lt_of_cell? w _ hx798_13)).trans hx798_13
           have HR798_2 := Aside0.mk hi798_2
           have HC798_2 := Aside0.mk hl798_2
           clear hi798_2 hl798_2
           have HR798_3 := Aside0.mk hi798_3
           have HC798_3 := Aside0.mk hl798_3
           clear hi798_3 hl798_3
           replace p798 := eq_true p798
           replace q798 := eq_true q798
           exact impl_IsValidLibrary.L0
         ·
          rw [if_neg c12] at H
          exact absurd H (by simp)
        ·
         rw [if_neg c11] at H
         exact absurd H (by simp)
       ·
        rw [if_neg c9] at H
        have c9b0 : decide (0 < x8_1) = false := decide_eq_false c9
        clear c9
        have H' := Aside0.mk H
        clear H
        have p798 : 0 ≤ (x8_1 : Int) := of_decide_eq_true au60
        have q798 : x8_1 < (l0_0.length : Int) := of_decide_eq_true au60
        obtain ⟨ad798, A798_2, c798_2, A798_3, c798_3, e798, hx798_0, hx798_1, hx798_2, hx798_3, hx798_4, hx798_5, hx798_6, hx798_7, hx798_8, hx798_9, hx798_10, hx798_11, hx798_12, hx798_13, hl798_2, hi798_2, hl798_3, hi798_3⟩ := at_T65 HR0_0.out x8_1 p798 q798
        cases e798
        replace hx798_0 := (HB.out.cell (World.block_lt_of_cell? w _ hx798_0)).trans hx798_0
        replace hx798_1 := (HB.out.cell (World.block_lt_of_cell? w _ hx798_1)).trans hx798_1
        replace hx798_2 := (HB.out.cell (World.block_lt_of_cell? w _ hx798_2)).trans hx798_2
        replace hx798_3 := (HB.out.cell (World.block_lt_of_cell? w _ hx798_3)).trans hx798_3
        replace hx798_4 := (HB.out.cell (World.block_lt_of_cell? w _ hx798_4)).trans hx798_4
        replace hx798_5 := (HB.out.cell (World.block_lt_of_cell? w _ hx798_5)).trans hx798_5
        replace hx798_6 := (HB.out.cell (World.block_lt_of_cell? w _ hx798_6)).trans hx798_6
        replace hx798_7 := (HB.out.cell (World.block_lt_of_cell? w _ hx798_7)).trans hx798_7
        replace hx798_8 := (HB.out.cell (World.block_lt_of_cell? w _ hx798_8)).trans hx798_8
        replace hx798_9 := (HB.out.cell (World.block_lt_of_cell? w _ hx798_9)).trans hx798_9
        replace hx798_10 := (HB.out.cell (World.block_lt_of_cell? w _ hx798_10)).trans hx798_10
        replace hx798_11 := (HB.out.cell (World.block_lt_of_cell? w _ hx798_11)).trans hx798_11
        replace hx798_12 := (HB.out.cell (World.block_lt_of_cell? w _ hx798_12)).trans hx798_12
        replace hx798_13 := (HB.out.cell (World.block_lt_of_cell? w _ hx798_13)).trans hx798_13
        have HR798_2 := Aside0.mk hi798_2
        have HC798_2 := Aside0.mk hl798_2
        clear hi798_2 hl798_2
        have HR798_3 := Aside0.mk hi798_3
        have HC798_3 := Aside0.mk hl798_3
        clear hi798_3 hl798_3
        replace p798 := eq_true p798
        replace q798 := eq_true q798
        exact impl_IsValidLibrary.L1
      ·
       replace c8 := Bool.eq_false_iff.mpr c8
       subst c8
       replace H := (if_neg (show ¬ (false = true) by decide)).symm.trans H
       obtain rfl := Option.some.inj H
       have p798 : 0 ≤ (x8_1 : Int) := of_decide_eq_true au60
       have q798 : x8_1 < (l0_0.length : Int) := of_decide_eq_true au60
       obtain ⟨ad798, A798_2, c798_2, A798_3, c798_3, e798, hx798_0, hx798_1, hx798_2, hx798_3, hx798_4, hx798_5, hx798_6, hx798_7, hx798_8, hx798_9, hx798_10, hx798_11, hx798_12, hx798_13, hl798_2, hi798_2, hl798_3, hi798_3⟩ := at_T65 HR0_0.out x8_1 p798 q798
       cases e798
       replace hx798_0 := (HB.out.cell (World.block_lt_of_cell? w _ hx798_0)).trans hx798_0
       replace hx798_1 := (HB.out.cell (World.block_lt_of_cell? w _ hx798_1)).trans hx798_1
       replace hx798_2 := (HB.out.cell (World.block_lt_of_cell? w _ hx798_2)).trans hx798_2
       replace hx798_3 := (HB.out.cell (World.block_lt_of_cell? w _ hx798_3)).trans hx798_3
       replace hx798_4 := (HB.out.cell (World.block_lt_of_cell? w _ hx798_4)).trans hx798_4
       replace hx798_5 := (HB.out.cell (World.block_lt_of_cell? w _ hx798_5)).trans hx798_5
       replace hx798_6 := (HB.out.cell (World.block_lt_of_cell? w _ hx798_6)).trans hx798_6
       replace hx798_7 := (HB.out.cell (World.block_lt_of_cell? w _ hx798_7)).trans hx798_7
       replace hx798_8 := (HB.out.cell (World.block_lt_of_cell? w _ hx798_8)).trans hx798_8
       replace hx798_9 := (HB.out.cell (World.block_lt_of_cell? w _ hx798_9)).trans hx798_9
       replace hx798_10 := (HB.out.cell (World.block_lt_of_cell? w _ hx798_10)).trans hx798_10
       replace hx798_11 := (HB.out.cell (World.block_lt_of_cell? w _ hx798_11)).trans hx798_11
       replace hx798_12 := (HB.out.cell (World.block_lt_of_cell? w _ hx798_12)).trans hx798_12
       replace hx798_13 := (HB.out.cell (World.block_lt_of_cell? w _ hx798_13)).trans hx798_13
       have HR798_2 := Aside0.mk hi798_2
       have HC798_2 := Aside0.mk hl798_2
       clear hi798_2 hl798_2
       have HR798_3 := Aside0.mk hi798_3
       have HC798_3 := Aside0.mk hl798_3
       clear hi798_3 hl798_3
       replace p798 := eq_true p798
       replace q798 := eq_true q798
       exact impl_IsValidLibrary.L1
     ·
      rw [if_neg c6] at H
      exact absurd H (by simp)
    ·
     rw [if_neg c5] at H
     exact absurd H (by simp)
   ·
    rw [if_neg c4] at H
    have c4b0 : decide (x8_1 < (l0_0.length : Int)) = false := decide_eq_false c4
    clear c4
    obtain rfl := Option.some.inj H
    have hcz38_0 : wr.cell? ⟨gb797, 0, none⟩ = some (.slice A0_0 l0_0.length c0_0) := (blk_cell BK797.out 0).trans rfl
    have hfz38_0 := blk_frozen BK797.out 0
    go_wp2
    go_ret
    exact ⟨by first | rfl | (simp [errW_none, errW_some] <;> rfl) | (simp [*, errW_none, errW_some] <;> rfl), by repeat (first | (with_reducible first | exact HB.out | apply below_alloc | apply pw_below_drewN | apply below_drew1 | refine below_set ?_ GE797.out) | exact HB.out)⟩


/-! ### laws_eqDate: function 108 -/
def laws_eqDate.f (a0_0 : Int) (a0_1 : Int) (a0_2 : Int) (a0_3 : Bool) (a1_0 : Int) (a1_1 : Int) (a1_2 : Int) (a1_3 : Bool) : Option (Bool) := if a0_0 = a1_0 then (if a0_1 = a1_1 then (if a0_2 = a1_2 then (if (a0_3 != a1_3) = true then (some false) else (some true)) else (some false)) else (some false)) else (some false)
set_option maxRecDepth 100000 in
theorem laws_eqDate.L0 {P : Prop} (h : P := by
  go_enter Tryd.func108, Tryd.ntmps108
  go_wp2_with (first | ((with_reducible refine gate_dst (N := 2) rfl ?_); refine box_event ?hg (N := 2) ?hd (cs := #[.int .i64 a0_0, .int .i64 a0_1, .int .i64 a0_2, .bool a0_3]) (t := 63) ?hr ?_; (case hd => rfl); (case hg => rfl); (case hr => first | (go_simp; done) | (go_simp; rfl)); intro gb690 hg w12 hbox hb; have n0_ := Aside0.mk (below_step au31 hb); have n1_ := Aside0.mk (hbox); have n2_ := Aside0.mk ((by rw [hg]; exact (below_size au31) : w.heap.size ≤ gb690)); have n3_ := Aside0.mk ((by rw [hg]; exact (below_size au31) : w.heap.size ≤ gb690)); clear HB; have HB := n0_; have BK690 := n1_; have GW690 := n2_; have GE690 := n3_; clear n0_ n1_ n2_ n3_; clear hb hbox hg) | ((with_reducible refine gate_dst (N := 3) rfl ?_); refine box_event ?hg (N := 3) ?hd (cs := #[.int .i64 a1_0, .int .i64 a1_1, .int .i64 a1_2, .bool a1_3]) (t := 63) ?hr ?_; (case hd => rfl); (case hg => rfl); (case hr => first | (go_simp; done) | (go_simp; rfl)); intro gb691 hg w13 hbox hb; have n0_ := Aside0.mk (blk_below (g := gb690) (o := .cells #[.int .i64 a0_0, .int .i64 a0_1, .int .i64 a0_2, .bool a0_3] 63 (0, 0)) au49 hb); have n1_ := Aside0.mk (below_step au25 hb); have n2_ := Aside0.mk (hbox); have n3_ := Aside0.mk ((by rw [hg]; exact (below_size au25) : w.heap.size ≤ gb691)); have n4_ := Aside0.mk ((by rw [hg]; exact (below_size au25) : w.heap.size ≤ gb691)); have n5_ := Aside0.mk ((by rw [hg]; exact Nat.ne_of_lt (blk_lt (g := gb690) (o := .cells #[.int .i64 a0_0, .int .i64 a0_1, .int .i64 a0_2, .bool a0_3] 63 (0, 0)) au49) : gb690 ≠ gb691)); have n6_ := Aside0.mk ((by rw [hg]; exact Nat.ne_of_gt (blk_lt (g := gb690) (o := .cells #[.int .i64 a0_0, .int .i64 a0_1, .int .i64 a0_2, .bool a0_3] 63 (0, 0)) au49) : gb691 ≠ gb690)); clear BK690; clear HB; have BK690 := n0_; have HB := n1_; have BK691 := n2_; have GW691 := n3_; have GE691 := n4_; have NB690_691 := n5_; have NB691_690 := n6_; clear n0_ n1_ n2_ n3_ n4_ n5_ n6_; clear hb hbox hg; have hnb14 := NB690_691.out; have hnc14 := NB691_690.out; have hcz15_0 : w13.cell? ⟨gb690, 0, none⟩ = some (.int .i64 a0_0) := (blk_cell BK690.out 0).trans rfl; have hcz15_1 : w13.cell? ⟨gb690, 1, none⟩ = some (.int .i64 a0_1) := (blk_cell BK690.out 1).trans rfl; have hcz15_2 : w13.cell? ⟨gb690, 2, none⟩ = some (.int .i64 a0_2) := (blk_cell BK690.out 2).trans rfl; have hcz15_3 : w13.cell? ⟨gb690, 3, none⟩ = some (.bool a0_3) := (blk_cell BK690.out 3).trans rfl; have hfz15_0 := blk_frozen BK690.out 0; have hfz15_1 := blk_frozen BK690.out 1; have hfz15_2 := blk_frozen BK690.out 2; have hfz15_3 := blk_frozen BK690.out 3; have hcz16_0 : w13.cell? ⟨gb691, 0, none⟩ = some (.int .i64 a1_0) := (blk_cell BK691.out 0).trans rfl; have hcz16_1 : w13.cell? ⟨gb691, 1, none⟩ = some (.int .i64 a1_1) := (blk_cell BK691.out 1).trans rfl; have hcz16_2 : w13.cell? ⟨gb691, 2, none⟩ = some (.int .i64 a1_2) := (blk_cell BK691.out 2).trans rfl; have hcz16_3 : w13.cell? ⟨gb691, 3, none⟩ = some (.bool a1_3) := (blk_cell BK691.out 3).trans rfl; have hfz16_0 := blk_frozen BK691.out 0; have hfz16_1 := blk_frozen BK691.out 1; have hfz16_2 := blk_frozen BK691.out 2; have hfz16_3 := blk_frozen BK691.out 3))
  go_ret
  exact ⟨by first | rfl | (simp [errW_none, errW_some] <;> rfl) | (simp [*, errW_none, errW_some] <;> rfl), by repeat (first | (with_reducible first | exact HB.out | apply below_alloc | apply pw_below_drewN | apply below_drew1 | refine below_set ?_ GE690.out | refine below_set ?_ GE691.out) | exact HB.out)⟩) : P := h
set_option maxHeartbeats 8000000 in
set_option maxRecDepth 100000 in
theorem laws_eqDate.calls (a0_0 : Int) (a0_1 : Int) (a0_2 : Int) (a0_3 : Bool) (a1_0 : Int) (a1_1 : Int) (a1_2 : Int) (a1_3 : Bool) (r : Bool) (w : World) (h : laws_eqDate.f a0_0 a0_1 a0_2 a0_3 a1_0 a1_1 a1_2 a1_3 = some r) :
  Calls Tryd.prog 108 #[.agg #[.int .i64 a0_0, .int .i64 a0_1, .int .i64 a0_2, .bool a0_3], .agg #[.int .i64 a1_0, .int .i64 a1_1, .int .i64 a1_2, .bool a1_3]] w fun e w' => e = .returned (.bool r) ∧ Below w.heap.size w w' := by
 have hu63 := Tryd.underlying63
 have HB := Aside0.mk (Below.refl w.heap.size w)
 have H : (if a0_0 = a1_0 then (if a0_1 = a1_1 then (if a0_2 = a1_2 then (if (a0_3 != a1_3) = true then (some false) else (some true)) else (some false)) else (some false)) else (some false)) = some r := h
 clear h
 by_cases c3 : a0_0 = a1_0
 ·
  rw [if_pos c3] at H
  have c3b0 : (a0_0 == a1_0) = true := beq_iff_eq.mpr c3
  have c3b1 : (a0_0 != a1_0) = false := bne_eq_false_iff_eq.mpr c3
  clear c3
  by_cases c4 : a0_1 = a1_1
  ·
   rw [if_pos c4] at H
   have c4b0 : (a0_1 == a1_1) = true := beq_iff_eq.mpr c4
   have c4b1 : (a0_1 != a1_1) = false := bne_eq_false_iff_eq.mpr c4
   clear c4
   by_cases c5 : a0_2 = a1_2
   ·
    rw [if_pos c5] at H
    have c5b0 : (a0_2 == a1_2) = true := beq_iff_eq.mpr c5
    have c5b1 : (a0_2 != a1_2) = false := bne_eq_false_iff_eq.mpr c5
    clear c5
    by_cases c6 : (a0_3 != a1_3) = true
    ·
     rw [if_pos c6] at H
     have c6b0 : (a0_3 != a1_3) = true := c6
     (try (have c6b1 : decide (a0_3 = a1_3) = false := by simpa using c6))
     (try (have c6b2 : (a0_3 == a1_3) = false := by simpa using c6))
     (try (have c6b3 : ¬ (a0_3 = a1_3) := by simpa using c6))
     clear c6
     obtain rfl := Option.some.inj H
     exact laws_eqDate.L0
    ·
     rw [if_neg c6] at H
     have c6b0 : (a0_3 != a1_3) = false := by simpa using c6
     (try (have c6b1 : decide (a0_3 = a1_3) = true := by simpa using c6))
     (try (have c6b2 : (a0_3 == a1_3) = true := by simpa using c6))
     clear c6
     obtain rfl := Option.some.inj H
     exact laws_eqDate.L0
   ·
    rw [if_neg c5] at H
    have c5b0 : (a0_2 == a1_2) = false := beq_eq_false_iff_ne.mpr c5
    have c5b1 : (a0_2 != a1_2) = true := bne_iff_ne.mpr c5
    obtain rfl := Option.some.inj H
    exact laws_eqDate.L0
  ·
   rw [if_neg c4] at H
   have c4b0 : (a0_1 == a1_1) = false := beq_eq_false_iff_ne.mpr c4
   have c4b1 : (a0_1 != a1_1) = true := bne_iff_ne.mpr c4
   obtain rfl := Option.some.inj H
   exact laws_eqDate.L0
 ·
  rw [if_neg c3] at H
  have c3b0 : (a0_0 == a1_0) = false := beq_eq_false_iff_ne.mpr c3
  have c3b1 : (a0_0 != a1_0) = true := bne_iff_ne.mpr c3
  obtain rfl := Option.some.inj H
  exact laws_eqDate.L0


/-! ### laws_eqStringS: function 55 -/
def laws_eqStringS.l0 : Nat → List ByteArray → List ByteArray → Int → Option (Bool)
 | 0, _, _, _ => none
 | k + 1, x0, x1, x5 => if x5 < (x0.length : Int) then (if 0 ≤ x5 then (if x5 < (x1.length : Int) then (if (rdOf ByteArray.empty x0 x5).toList = (rdOf ByteArray.empty x1 x5).toList then (laws_eqStringS.l0 k x0 x1 (wrap64 (x5 + 1))) else (some false)) else (none)) else (none)) else (some true)
def laws_eqStringS.f (k : Nat) (l0 : List ByteArray) (l1 : List ByteArray) : Option (Bool) := if (l0.length : Int) = (l1.length : Int) then (laws_eqStringS.l0 k l0 l1 0) else (some false)
theorem laws_eqStringS.mono_l : ∀ k, (∀ y0 y1 y2, LeO (laws_eqStringS.l0 k y0 y1 y2) (laws_eqStringS.l0 (k + 1) y0 y1 y2))
 | 0 => fun _ _ _ r h => by simp [laws_eqStringS.l0] at h
 | k + 1 => by
  have ih0 := laws_eqStringS.mono_l k
  ·
   intro y0 y1 y2
   unfold laws_eqStringS.l0
   repeat' first
   | (with_reducible exact ih0 _ _ _)
   | (with_reducible exact LeO.refl _)
   | (with_reducible exact LeO.none _)
   | (with_reducible refine LeO.ite ?_ ?_)
   | (with_reducible refine LeO.bind ?_ (fun _ => ?_))
   | exact ih0 _ _ _
   | exact LeO.none _
   | refine LeO.ite ?_ ?_
   | refine LeO.bind ?_ (fun _ => ?_)
theorem laws_eqStringS.mono : ∀ a0 a1 k, LeO (laws_eqStringS.f k a0 a1) (laws_eqStringS.f (k + 1) a0 a1) := by
 intro a0 a1 k
 have ih0 := laws_eqStringS.mono_l k
 unfold laws_eqStringS.f
 repeat' first
   | (with_reducible exact ih0 _ _ _)
   | (with_reducible exact LeO.refl _)
   | (with_reducible exact LeO.none _)
   | (with_reducible refine LeO.ite ?_ ?_)
   | (with_reducible refine LeO.bind ?_ (fun _ => ?_))
   | exact ih0 _ _ _
   | exact LeO.none _
   | refine LeO.ite ?_ ?_
   | refine LeO.bind ?_ (fun _ => ?_)
set_option maxHeartbeats 8000000 in
set_option maxRecDepth 100000 in
theorem laws_eqStringS.calls (k : Nat) (A0 : Option Addr) (c0 : Nat) (l0 : List ByteArray) (A1 : Option Addr) (c1 : Nat) (l1 : List ByteArray) (r : Bool) (w : World) (hr0 : Kd.C Kd.string w A0 l0.length l0) (hc0 : l0.length ≤ c0) (hr1 : Kd.C Kd.string w A1 l1.length l1) (hc1 : l1.length ≤ c1) (h : laws_eqStringS.f k l0 l1 = some r) :
  Calls Tryd.prog 55 #[.slice A0 l0.length c0, .slice A1 l1.length c1] w fun e w' => e = .returned (.bool r) ∧ Drawn0 w w' := by
 have HR0 := Aside0.mk hr0
 have HC0 := Aside0.mk hc0
 clear hr0 hc0
 have HR1 := Aside0.mk hr1
 have HC1 := Aside0.mk hc1
 clear hr1 hc1
 have H : (if (l0.length : Int) = (l1.length : Int) then (laws_eqStringS.l0 k l0 l1 0) else (some false)) = some r := h
 clear h
 by_cases c3 : (l0.length : Int) = (l1.length : Int)
 ·
  rw [if_pos c3] at H
  have c3b0 : ((l0.length : Int) == (l1.length : Int)) = true := beq_iff_eq.mpr c3
  have c3b1 : ((l0.length : Int) != (l1.length : Int)) = false := bne_eq_false_iff_eq.mpr c3
  have c3b2 : (l0.length == l1.length) = true := by first | simpa using c3 | (simp at c3 ⊢; omega)
  clear c3
  have H' := Aside0.mk H
  clear H
  go_enter Tryd.func55, Tryd.ntmps55
  go_wp2
  repeat (go_quiet (fail); try go_wp2)
  go_loopg [5] k (fun kq v5 w' => ∃ (x5_1 : Int), v5 = .int .i64 x5_1 ∧ Aside0 (laws_eqStringS.l0 kq l0 l1 x5_1 = some r) ∧ Aside0 (kq ≤ k) ∧ Drawn0 w w')
  case atStart => exact ⟨(0), au61, H', ⟨Nat.le_refl _⟩, by repeat (first | exact Drawn0.refl _ | apply Drawn0.step)⟩
  case round =>
   clear H'
   try clear c1
   try clear p2
   try clear c3
   try clear c3b0
   try clear c3b1
   try clear c3b2
   obtain ⟨x5_1, rfl, HA, HK1, ⟨m1, rfl⟩⟩ := hrel
   cases gk with
   | zero => exact absurd HA.out (by simp [laws_eqStringS.l0])
   | succ k1 =>
    have H := HA.out
    clear HA
    simp only [laws_eqStringS.l0] at H
    by_cases c4 : x5_1 < (l0.length : Int)
    ·
     rw [if_pos c4] at H
     have c4b0 : decide (x5_1 < (l0.length : Int)) = true := decide_eq_true c4
     clear c4
     by_cases c5 : 0 ≤ x5_1
     ·
      rw [if_pos c5] at H
      have c5b0 : decide (0 ≤ x5_1) = true := decide_eq_true c5
      clear c5
      by_cases c6 : x5_1 < (l1.length : Int)
      ·
       rw [if_pos c6] at H
       have c6b0 : decide (x5_1 < (l1.length : Int)) = true := decide_eq_true c6
       clear c6
       by_cases c7 : (rdOf ByteArray.empty l0 x5_1).toList = (rdOf ByteArray.empty l1 x5_1).toList
       ·
        rw [if_pos c7] at H
        have c7b0 : ((rdOf ByteArray.empty l0 x5_1).toList == (rdOf ByteArray.empty l1 x5_1).toList) = true := beq_iff_eq.mpr c7
        have c7b1 : ((rdOf ByteArray.empty l0 x5_1).toList != (rdOf ByteArray.empty l1 x5_1).toList) = false := bne_eq_false_iff_eq.mpr c7
        clear c7
        have H' := Aside0.mk H
        clear H
        have p241 : 0 ≤ (x5_1 : Int) := of_decide_eq_true au60
        have q241 : x5_1 < (l0.length : Int) := of_decide_eq_true au60
        obtain ⟨ad241, e241, hx241_0⟩ := Kd.at_string HR0.out x5_1 p241 q241
        cases e241
        replace p241 := eq_true p241
        replace q241 := eq_true q241
        have p242 : 0 ≤ (x5_1 : Int) := of_decide_eq_true au60
        have q242 : x5_1 < (l1.length : Int) := of_decide_eq_true au60
        obtain ⟨ad242, e242, hx242_0⟩ := Kd.at_string HR1.out x5_1 p242 q242
        cases e242
        replace p242 := eq_true p242
        replace q242 := eq_true q242
        go_wp2
        repeat (go_quiet (fail); try go_wp2)
        go_roundg k1
        case measure => have := HK1.out; omega
        case rel => exact ⟨(wrap64 (x5_1 + 1)), au61, H', ⟨by have := HK1.out; omega⟩, by repeat (first | exact Drawn0.refl _ | apply Drawn0.step)⟩
       ·
        rw [if_neg c7] at H
        have c7b0 : ((rdOf ByteArray.empty l0 x5_1).toList == (rdOf ByteArray.empty l1 x5_1).toList) = false := beq_eq_false_iff_ne.mpr c7
        have c7b1 : ((rdOf ByteArray.empty l0 x5_1).toList != (rdOf ByteArray.empty l1 x5_1).toList) = true := bne_iff_ne.mpr c7
        obtain rfl := Option.some.inj H
        have p241 : 0 ≤ (x5_1 : Int) := of_decide_eq_true au60
        have q241 : x5_1 < (l0.length : Int) := of_decide_eq_true au60
        obtain ⟨ad241, e241, hx241_0⟩ := Kd.at_string HR0.out x5_1 p241 q241
        cases e241
        replace p241 := eq_true p241
        replace q241 := eq_true q241
        have p242 : 0 ≤ (x5_1 : Int) := of_decide_eq_true au60
        have q242 : x5_1 < (l1.length : Int) := of_decide_eq_true au60
        obtain ⟨ad242, e242, hx242_0⟩ := Kd.at_string HR1.out x5_1 p242 q242
        cases e242
        replace p242 := eq_true p242
        replace q242 := eq_true q242
        go_wp2
        repeat (go_quiet (fail); try go_wp2)
        go_ret
        exact ax0
      ·
       rw [if_neg c6] at H
       exact absurd H (by simp)
     ·
      rw [if_neg c5] at H
      exact absurd H (by simp)
    ·
     rw [if_neg c4] at H
     have c4b0 : decide (x5_1 < (l0.length : Int)) = false := decide_eq_false c4
     clear c4
     obtain rfl := Option.some.inj H
     go_wp2
     repeat (go_quiet (fail); try go_wp2)
     go_ret
     exact ax0
 ·
  rw [if_neg c3] at H
  have c3b0 : ((l0.length : Int) == (l1.length : Int)) = false := beq_eq_false_iff_ne.mpr c3
  have c3b1 : ((l0.length : Int) != (l1.length : Int)) = true := bne_iff_ne.mpr c3
  have c3b2 : (l0.length == l1.length) = false := by first | simpa using c3 | (simp at c3 ⊢; omega)
  obtain rfl := Option.some.inj H
  go_enter Tryd.func55, Tryd.ntmps55
  go_wp2
  repeat (go_quiet (fail); try go_wp2)
  go_ret
  exact ax0


/-! ### laws_eqName: function 67 -/
def laws_eqName.f (k : Nat) (l0_0 : List ByteArray) (a0_1 : ByteArray) (a0_2 : ByteArray) (a0_3 : ByteArray) (l1_0 : List ByteArray) (a1_1 : ByteArray) (a1_2 : ByteArray) (a1_3 : ByteArray) : Option (Bool) := (laws_eqStringS.f k l0_0 l1_0).bind fun t245 => (if t245 = true then (if a0_1.toList = a1_1.toList then (if a0_2.toList = a1_2.toList then (if a0_3.toList = a1_3.toList then (some true) else (some false)) else (some false)) else (some false)) else (some false))
theorem laws_eqName.mono : ∀ a0 a1 a2 a3 a4 a5 a6 a7 k, LeO (laws_eqName.f k a0 a1 a2 a3 a4 a5 a6 a7) (laws_eqName.f (k + 1) a0 a1 a2 a3 a4 a5 a6 a7) := by
 intro a0 a1 a2 a3 a4 a5 a6 a7 k
 unfold laws_eqName.f
 repeat' first
   | (with_reducible exact laws_eqStringS.mono _ _ _)
   | (with_reducible exact LeO.refl _)
   | (with_reducible exact LeO.none _)
   | (with_reducible refine LeO.ite ?_ ?_)
   | (with_reducible refine LeO.bind ?_ (fun _ => ?_))
   | exact laws_eqStringS.mono _ _ _
   | exact LeO.none _
   | refine LeO.ite ?_ ?_
   | refine LeO.bind ?_ (fun _ => ?_)
set_option maxRecDepth 100000 in
theorem laws_eqName.L0 {P : Prop} (h : P := by
  go_enter Tryd.func67, Tryd.ntmps67
  go_wp2_with (first | ((with_reducible refine gate_dst (N := 2) rfl ?_); refine box_event ?hg (N := 2) ?hd (cs := #[.slice A0_0 l0_0.length c0_0, .string a0_1, .string a0_2, .string a0_3]) (t := 34) ?hr ?_; (case hd => rfl); (case hg => rfl); (case hr => first | (go_simp; done) | (go_simp; rfl)); intro gb243 hg w13 hbox hb; have n0_ := Aside0.mk (below_step au31 hb); have n1_ := Aside0.mk (hbox); have n2_ := Aside0.mk ((by rw [hg]; exact (below_size au31) : w.heap.size ≤ gb243)); have n3_ := Aside0.mk ((by rw [hg]; exact (below_size au31) : w.heap.size ≤ gb243)); clear HB; have HB := n0_; have BK243 := n1_; have GW243 := n2_; have GE243 := n3_; clear n0_ n1_ n2_ n3_; clear hb hbox hg) | ((with_reducible refine gate_dst (N := 3) rfl ?_); refine box_event ?hg (N := 3) ?hd (cs := #[.slice A1_0 l1_0.length c1_0, .string a1_1, .string a1_2, .string a1_3]) (t := 34) ?hr ?_; (case hd => rfl); (case hg => rfl); (case hr => first | (go_simp; done) | (go_simp; rfl)); intro gb244 hg w14 hbox hb; have n0_ := Aside0.mk (blk_below (g := gb243) (o := .cells #[.slice A0_0 l0_0.length c0_0, .string a0_1, .string a0_2, .string a0_3] 34 (0, 0)) au50 hb); have n1_ := Aside0.mk (below_step au26 hb); have n2_ := Aside0.mk (hbox); have n3_ := Aside0.mk ((by rw [hg]; exact (below_size au26) : w.heap.size ≤ gb244)); have n4_ := Aside0.mk ((by rw [hg]; exact (below_size au26) : w.heap.size ≤ gb244)); have n5_ := Aside0.mk ((by rw [hg]; exact Nat.ne_of_lt (blk_lt (g := gb243) (o := .cells #[.slice A0_0 l0_0.length c0_0, .string a0_1, .string a0_2, .string a0_3] 34 (0, 0)) au50) : gb243 ≠ gb244)); have n6_ := Aside0.mk ((by rw [hg]; exact Nat.ne_of_gt (blk_lt (g := gb243) (o := .cells #[.slice A0_0 l0_0.length c0_0, .string a0_1, .string a0_2, .string a0_3] 34 (0, 0)) au50) : gb244 ≠ gb243)); clear BK243; clear HB; have BK243 := n0_; have HB := n1_; have BK244 := n2_; have GW244 := n3_; have GE244 := n4_; have NB243_244 := n5_; have NB244_243 := n6_; clear n0_ n1_ n2_ n3_ n4_ n5_ n6_; clear hb hbox hg; have hnb15 := NB243_244.out; have hnc15 := NB244_243.out; have hcz16_0 : w14.cell? ⟨gb243, 0, none⟩ = some (.slice A0_0 l0_0.length c0_0) := (blk_cell BK243.out 0).trans rfl; have hcz16_1 : w14.cell? ⟨gb243, 1, none⟩ = some (.string a0_1) := (blk_cell BK243.out 1).trans rfl; have hcz16_2 : w14.cell? ⟨gb243, 2, none⟩ = some (.string a0_2) := (blk_cell BK243.out 2).trans rfl; have hcz16_3 : w14.cell? ⟨gb243, 3, none⟩ = some (.string a0_3) := (blk_cell BK243.out 3).trans rfl; have hfz16_0 := blk_frozen BK243.out 0; have hfz16_1 := blk_frozen BK243.out 1; have hfz16_2 := blk_frozen BK243.out 2; have hfz16_3 := blk_frozen BK243.out 3; have hcz17_0 : w14.cell? ⟨gb244, 0, none⟩ = some (.slice A1_0 l1_0.length c1_0) := (blk_cell BK244.out 0).trans rfl; have hcz17_1 : w14.cell? ⟨gb244, 1, none⟩ = some (.string a1_1) := (blk_cell BK244.out 1).trans rfl; have hcz17_2 : w14.cell? ⟨gb244, 2, none⟩ = some (.string a1_2) := (blk_cell BK244.out 2).trans rfl; have hcz17_3 : w14.cell? ⟨gb244, 3, none⟩ = some (.string a1_3) := (blk_cell BK244.out 3).trans rfl; have hfz17_0 := blk_frozen BK244.out 0; have hfz17_1 := blk_frozen BK244.out 1; have hfz17_2 := blk_frozen BK244.out 2; have hfz17_3 := blk_frozen BK244.out 3) | ((with_reducible refine gate_callee (f := 55) rfl ?_); refine goesL_ (some 9) rfl rfl Tryd.func55 (by kernel_rfl) rfl #[.slice A0_0 l0_0.length c0_0, .slice A1_0 l1_0.length c1_0] rfl au30 ?_; (with_reducible refine (laws_eqStringS.calls k _ _ l0_0 _ _ l1_0 _ _ ?side1 ?side2 ?side3 ?side4 A3.out).mono ?_); (case side1 => repeat (first | exact (Kd.C_below HR0_0.out HB.out) | (with_reducible refine Kd.C_alloc ?_ _) | (with_reducible refine Kd.C_drewN ?_ _) | (with_reducible refine Kd.C_drew ?_))); (case side2 => exact HC0_0.out); (case side3 => repeat (first | exact (Kd.C_below HR1_0.out HB.out) | (with_reducible refine Kd.C_alloc ?_ _) | (with_reducible refine Kd.C_drewN ?_ _) | (with_reducible refine Kd.C_drew ?_))); (case side4 => exact HC1_0.out); rintro e w' ⟨rfl, ⟨nd, rfl⟩⟩; refine ⟨_, rfl, ?_⟩))
  go_ret
  exact ⟨by first | rfl | (simp [errW_none, errW_some] <;> rfl) | (simp [*, errW_none, errW_some] <;> rfl), by repeat (first | (with_reducible first | exact HB.out | apply below_alloc | apply pw_below_drewN | apply below_drew1 | refine below_set ?_ GE243.out | refine below_set ?_ GE244.out) | exact HB.out)⟩) : P := h
set_option maxHeartbeats 8000000 in
set_option maxRecDepth 100000 in
theorem laws_eqName.calls (k : Nat) (A0_0 : Option Addr) (c0_0 : Nat) (l0_0 : List ByteArray) (a0_1 : ByteArray) (a0_2 : ByteArray) (a0_3 : ByteArray) (A1_0 : Option Addr) (c1_0 : Nat) (l1_0 : List ByteArray) (a1_1 : ByteArray) (a1_2 : ByteArray) (a1_3 : ByteArray) (r : Bool) (w : World) (hr0_0 : Kd.C Kd.string w A0_0 l0_0.length l0_0) (hc0_0 : l0_0.length ≤ c0_0) (hr1_0 : Kd.C Kd.string w A1_0 l1_0.length l1_0) (hc1_0 : l1_0.length ≤ c1_0) (h : laws_eqName.f k l0_0 a0_1 a0_2 a0_3 l1_0 a1_1 a1_2 a1_3 = some r) :
  Calls Tryd.prog 67 #[.agg #[.slice A0_0 l0_0.length c0_0, .string a0_1, .string a0_2, .string a0_3], .agg #[.slice A1_0 l1_0.length c1_0, .string a1_1, .string a1_2, .string a1_3]] w fun e w' => e = .returned (.bool r) ∧ Below w.heap.size w w' := by
 have hu34 := Tryd.underlying34
 have HR0_0 := Aside0.mk hr0_0
 have HC0_0 := Aside0.mk hc0_0
 clear hr0_0 hc0_0
 have HR1_0 := Aside0.mk hr1_0
 have HC1_0 := Aside0.mk hc1_0
 clear hr1_0 hc1_0
 have HB := Aside0.mk (Below.refl w.heap.size w)
 have H : ((laws_eqStringS.f k l0_0 l1_0).bind fun t245 => (if t245 = true then (if a0_1.toList = a1_1.toList then (if a0_2.toList = a1_2.toList then (if a0_3.toList = a1_3.toList then (some true) else (some false)) else (some false)) else (some false)) else (some false))) = some r := h
 clear h
 replace H := Option.bind_eq_some_iff.mp H
 obtain ⟨t245, A30, H⟩ := H
 try dsimp only at H
 have A3 := Aside0.mk A30
 clear A30
 by_cases c4 : t245 = true
 ·
  subst c4
  replace H := (if_pos rfl).symm.trans H
  by_cases c5 : a0_1.toList = a1_1.toList
  ·
   rw [if_pos c5] at H
   have c5b0 : (a0_1.toList == a1_1.toList) = true := beq_iff_eq.mpr c5
   have c5b1 : (a0_1.toList != a1_1.toList) = false := bne_eq_false_iff_eq.mpr c5
   clear c5
   by_cases c6 : a0_2.toList = a1_2.toList
   ·
    rw [if_pos c6] at H
    have c6b0 : (a0_2.toList == a1_2.toList) = true := beq_iff_eq.mpr c6
    have c6b1 : (a0_2.toList != a1_2.toList) = false := bne_eq_false_iff_eq.mpr c6
    clear c6
    by_cases c7 : a0_3.toList = a1_3.toList
    ·
     rw [if_pos c7] at H
     have c7b0 : (a0_3.toList == a1_3.toList) = true := beq_iff_eq.mpr c7
     have c7b1 : (a0_3.toList != a1_3.toList) = false := bne_eq_false_iff_eq.mpr c7
     clear c7
     obtain rfl := Option.some.inj H
     exact laws_eqName.L0
    ·
     rw [if_neg c7] at H
     have c7b0 : (a0_3.toList == a1_3.toList) = false := beq_eq_false_iff_ne.mpr c7
     have c7b1 : (a0_3.toList != a1_3.toList) = true := bne_iff_ne.mpr c7
     obtain rfl := Option.some.inj H
     exact laws_eqName.L0
   ·
    rw [if_neg c6] at H
    have c6b0 : (a0_2.toList == a1_2.toList) = false := beq_eq_false_iff_ne.mpr c6
    have c6b1 : (a0_2.toList != a1_2.toList) = true := bne_iff_ne.mpr c6
    obtain rfl := Option.some.inj H
    exact laws_eqName.L0
  ·
   rw [if_neg c5] at H
   have c5b0 : (a0_1.toList == a1_1.toList) = false := beq_eq_false_iff_ne.mpr c5
   have c5b1 : (a0_1.toList != a1_1.toList) = true := bne_iff_ne.mpr c5
   obtain rfl := Option.some.inj H
   exact laws_eqName.L0
 ·
  replace c4 := Bool.eq_false_iff.mpr c4
  subst c4
  replace H := (if_neg (show ¬ (false = true) by decide)).symm.trans H
  obtain rfl := Option.some.inj H
  exact laws_eqName.L0


/-! ### laws_eqNameS: function 16 -/
def laws_eqNameS.l0 : Nat → List (S34) → List (S34) → Int → Option (Bool)
 | 0, _, _, _ => none
 | k + 1, x0, x1, x5 => if x5 < (x0.length : Int) then (if 0 ≤ x5 then (if x5 < (x1.length : Int) then ((laws_eqName.f k ((rd_T34 x0 x5).f0) ((rd_T34 x0 x5).f1) ((rd_T34 x0 x5).f2) ((rd_T34 x0 x5).f3) ((rd_T34 x1 x5).f0) ((rd_T34 x1 x5).f1) ((rd_T34 x1 x5).f2) ((rd_T34 x1 x5).f3)).bind fun t248 => (if t248 = true then (laws_eqNameS.l0 k x0 x1 (wrap64 (x5 + 1))) else (some false))) else (none)) else (none)) else (some true)
def laws_eqNameS.f (k : Nat) (l0 : List (S34)) (l1 : List (S34)) : Option (Bool) := if (l0.length : Int) = (l1.length : Int) then (laws_eqNameS.l0 k l0 l1 0) else (some false)
theorem laws_eqNameS.mono_l : ∀ k, (∀ y0 y1 y2, LeO (laws_eqNameS.l0 k y0 y1 y2) (laws_eqNameS.l0 (k + 1) y0 y1 y2))
 | 0 => fun _ _ _ r h => by simp [laws_eqNameS.l0] at h
 | k + 1 => by
  have ih0 := laws_eqNameS.mono_l k
  ·
   intro y0 y1 y2
   unfold laws_eqNameS.l0
   repeat' first
   | (with_reducible exact ih0 _ _ _)
   | (with_reducible exact laws_eqName.mono _ _ _ _ _ _ _ _ _)
   | (with_reducible exact LeO.refl _)
   | (with_reducible exact LeO.none _)
   | (with_reducible refine LeO.ite ?_ ?_)
   | (with_reducible refine LeO.bind ?_ (fun _ => ?_))
   | exact ih0 _ _ _
   | exact laws_eqName.mono _ _ _ _ _ _ _ _ _
   | exact LeO.none _
   | refine LeO.ite ?_ ?_
   | refine LeO.bind ?_ (fun _ => ?_)
theorem laws_eqNameS.mono : ∀ a0 a1 k, LeO (laws_eqNameS.f k a0 a1) (laws_eqNameS.f (k + 1) a0 a1) := by
 intro a0 a1 k
 have ih0 := laws_eqNameS.mono_l k
 unfold laws_eqNameS.f
 repeat' first
   | (with_reducible exact ih0 _ _ _)
   | (with_reducible exact laws_eqName.mono _ _ _ _ _ _ _ _ _)
   | (with_reducible exact LeO.refl _)
   | (with_reducible exact LeO.none _)
   | (with_reducible refine LeO.ite ?_ ?_)
   | (with_reducible refine LeO.bind ?_ (fun _ => ?_))
   | exact ih0 _ _ _
   | exact laws_eqName.mono _ _ _ _ _ _ _ _ _
   | exact LeO.none _
   | refine LeO.ite ?_ ?_
   | refine LeO.bind ?_ (fun _ => ?_)
def laws_eqNameS.T6 : Bool × List (List Nat × List Nat) := (true, [([], []), ([], []), ([0, 1], [0, 1]), ([2], [2]), ([], []), ([], []), ([4, 5], [4, 5]), ([6], [6]), ([3, 7], [3, 7]), ([8], [8])])
def laws_eqNameS.B6 : List Nat := [0, 0, 3, 7, 0, 0, 48, 112, 255, 511]
theorem laws_eqNameS.tab6 : rtab .any (opsOf Tryd.f16 6) = laws_eqNameS.T6 := by kernel_rfl
theorem laws_eqNameS.bits6 : waitsOk laws_eqNameS.T6.2 laws_eqNameS.B6 = true := by kernel_rfl
set_option maxRecDepth 100000 in
theorem laws_eqNameS.L0 {P : Prop} (h : P := by
  try go_wp2
  have n0_ := Aside0.mk (below_drew1 HB.out)
  clear HB
  have HB := n0_
  clear n0_
  have p246 : 0 ≤ (x5_1 : Int) := of_decide_eq_true au60
  have q246 : x5_1 < (l0.length : Int) := of_decide_eq_true au60
  obtain ⟨ad246, A246_0, c246_0, e246, hx246_0, hx246_1, hx246_2, hx246_3, hl246_0, hi246_0⟩ := at_T34 HR0.out x5_1 p246 q246
  have hw246_3 := hx246_3
  have hw246_2 := hx246_2
  have hw246_1 := hx246_1
  have hw246_0 := hx246_0
  cases e246
  replace hx246_0 := (HB.out.cell (World.block_lt_of_cell? w _ hx246_0)).trans hx246_0
  replace hx246_1 := (HB.out.cell (World.block_lt_of_cell? w _ hx246_1)).trans hx246_1
  replace hx246_2 := (HB.out.cell (World.block_lt_of_cell? w _ hx246_2)).trans hx246_2
  replace hx246_3 := (HB.out.cell (World.block_lt_of_cell? w _ hx246_3)).trans hx246_3
  have HR246_0 := Aside0.mk hi246_0
  have HC246_0 := Aside0.mk hl246_0
  clear hi246_0 hl246_0
  replace p246 := eq_true p246
  replace q246 := eq_true q246
  have p247 : 0 ≤ (x5_1 : Int) := of_decide_eq_true au60
  have q247 : x5_1 < (l1.length : Int) := of_decide_eq_true au60
  obtain ⟨ad247, A247_0, c247_0, e247, hx247_0, hx247_1, hx247_2, hx247_3, hl247_0, hi247_0⟩ := at_T34 HR1.out x5_1 p247 q247
  have hw247_3 := hx247_3
  have hw247_2 := hx247_2
  have hw247_1 := hx247_1
  have hw247_0 := hx247_0
  cases e247
  replace hx247_0 := (HB.out.cell (World.block_lt_of_cell? w _ hx247_0)).trans hx247_0
  replace hx247_1 := (HB.out.cell (World.block_lt_of_cell? w _ hx247_1)).trans hx247_1
  replace hx247_2 := (HB.out.cell (World.block_lt_of_cell? w _ hx247_2)).trans hx247_2
  replace hx247_3 := (HB.out.cell (World.block_lt_of_cell? w _ hx247_3)).trans hx247_3
  have HR247_0 := Aside0.mk hi247_0
  have HC247_0 := Aside0.mk hl247_0
  clear hi247_0 hl247_0
  replace p247 := eq_true p247
  replace q247 := eq_true q247
  refine start_ (n := 10) (S := fun w' => w'.cell? (ad246.add ((x5_1).toNat * 4)) = some (.slice A246_0 ((rd_T34 l0 x5_1).f0).length c246_0) ∧ w'.cell? ⟨(ad246.add ((x5_1).toNat * 4)).block, (ad246.add ((x5_1).toNat * 4)).off + 1, none⟩ = some (.string ((rd_T34 l0 x5_1).f1)) ∧ w'.cell? ⟨(ad246.add ((x5_1).toNat * 4)).block, (ad246.add ((x5_1).toNat * 4)).off + 2, none⟩ = some (.string ((rd_T34 l0 x5_1).f2)) ∧ w'.cell? ⟨(ad246.add ((x5_1).toNat * 4)).block, (ad246.add ((x5_1).toNat * 4)).off + 3, none⟩ = some (.string ((rd_T34 l0 x5_1).f3)) ∧ w'.cell? (ad247.add ((x5_1).toNat * 4)) = some (.slice A247_0 ((rd_T34 l1 x5_1).f0).length c247_0) ∧ w'.cell? ⟨(ad247.add ((x5_1).toNat * 4)).block, (ad247.add ((x5_1).toNat * 4)).off + 1, none⟩ = some (.string ((rd_T34 l1 x5_1).f1)) ∧ w'.cell? ⟨(ad247.add ((x5_1).toNat * 4)).block, (ad247.add ((x5_1).toNat * 4)).off + 2, none⟩ = some (.string ((rd_T34 l1 x5_1).f2)) ∧ w'.cell? ⟨(ad247.add ((x5_1).toNat * 4)).block, (ad247.add ((x5_1).toNat * 4)).off + 3, none⟩ = some (.string ((rd_T34 l1 x5_1).f3))) (ds := []) #[false, false, false, false, false, false, false, false, false, false] (by kernel_rfl) rfl rfl ⟨((HB.out.cell (World.block_lt_of_cell? w _ hw246_0)).trans hw246_0), ((HB.out.cell (World.block_lt_of_cell? w _ hw246_1)).trans hw246_1), ((HB.out.cell (World.block_lt_of_cell? w _ hw246_2)).trans hw246_2), ((HB.out.cell (World.block_lt_of_cell? w _ hw246_3)).trans hw246_3), ((HB.out.cell (World.block_lt_of_cell? w _ hw247_0)).trans hw247_0), ((HB.out.cell (World.block_lt_of_cell? w _ hw247_1)).trans hw247_1), ((HB.out.cell (World.block_lt_of_cell? w _ hw247_2)).trans hw247_2), ((HB.out.cell (World.block_lt_of_cell? w _ hw247_3)).trans hw247_3)⟩ (fun hHeld => ?_); refine with_tabW laws_eqNameS.tab6 laws_eqNameS.bits6 (fun HT_ HW_ => ?_)
  generalize wr.drew = w9 at HB HR246_0 HR247_0 hx246_0 hx246_1 hx246_2 hx246_3 hx247_0 hx247_1 hx247_2 hx247_3 hHeld ⊢
  refine pure_ (i := 0) (N := some 17) (v := ?_) (a' := ?_) #[true, false, false, false, false, false, false, false, false, false] rfl rfl (any_of HT_.out (by kernel_rfl)) (fun _ _ _ h => h) (Or.inl ⟨by rfl, ?_⟩) ?_ ?_
  rotate_left
  ·
   intro w'
   go_simp
   with_reducible rfl
  rotate_left
  ·
   simp only [Act.put, List.setIfInBounds_toArray, List.set_cons_zero, List.set_cons_succ, i64_w, i32_w]
   rfl
  refine pure_ (i := 1) (N := some 18) (v := ?_) (a' := ?_) #[true, true, false, false, false, false, false, false, false, false] rfl rfl (any_of HT_.out (by kernel_rfl)) (fun _ _ _ h => h) (Or.inl ⟨by rfl, ?_⟩) ?_ ?_
  rotate_left
  ·
   intro w'
   go_simp
   with_reducible rfl
  rotate_left
  ·
   simp only [Act.put, List.setIfInBounds_toArray, List.set_cons_zero, List.set_cons_succ, i64_w, i32_w]
   rfl
  refine pure_ (i := 2) (N := some 19) (v := ?_) (a' := ?_) #[true, true, true, false, false, false, false, false, false, false] rfl rfl (any_of HT_.out (by kernel_rfl)) (fun _ _ _ h => h) (Or.inl ⟨by rfl, ?_⟩) ?_ ?_
  rotate_left
  ·
   intro w'
   go_simp
   with_reducible rfl
  rotate_left
  ·
   simp only [Act.put, List.setIfInBounds_toArray, List.set_cons_zero, List.set_cons_succ, i64_w, i32_w]
   rfl
  refine pure_ (i := 4) (N := some 21) (v := ?_) (a' := ?_) #[true, true, true, false, true, false, false, false, false, false] rfl rfl (any_of HT_.out (by kernel_rfl)) (fun _ _ _ h => h) (Or.inl ⟨by rfl, ?_⟩) ?_ ?_
  rotate_left
  ·
   intro w'
   go_simp
   with_reducible rfl
  rotate_left
  ·
   simp only [Act.put, List.setIfInBounds_toArray, List.set_cons_zero, List.set_cons_succ, i64_w, i32_w]
   rfl
  refine pure_ (i := 5) (N := some 22) (v := ?_) (a' := ?_) #[true, true, true, false, true, true, false, false, false, false] rfl rfl (any_of HT_.out (by kernel_rfl)) (fun _ _ _ h => h) (Or.inl ⟨by rfl, ?_⟩) ?_ ?_
  rotate_left
  ·
   intro w'
   go_simp
   with_reducible rfl
  rotate_left
  ·
   simp only [Act.put, List.setIfInBounds_toArray, List.set_cons_zero, List.set_cons_succ, i64_w, i32_w]
   rfl
  refine pure_ (i := 6) (N := some 23) (v := ?_) (a' := ?_) #[true, true, true, false, true, true, true, false, false, false] rfl rfl (any_of HT_.out (by kernel_rfl)) (fun _ _ _ h => h) (Or.inl ⟨by rfl, ?_⟩) ?_ ?_
  rotate_left
  ·
   intro w'
   go_simp
   with_reducible rfl
  rotate_left
  ·
   simp only [Act.put, List.setIfInBounds_toArray, List.set_cons_zero, List.set_cons_succ, i64_w, i32_w]
   rfl
  refine take_ (i := 3) (N := some 20) (v := ?_) (a' := ?_) #[true, true, true, true, true, true, true, false, false, false] rfl rfl (take_ofW HT_.out HW_.out (by kernel_rfl)) (fun _ _ _ h => h) (Or.inl ⟨by rfl, ?_⟩) hHeld ?_ ?_
  rotate_left
  ·
   rintro w' ⟨s0, s1, s2, s3, s4, s5, s6, s7⟩
   go_simp
   with_reducible rfl
  rotate_left
  ·
   simp only [Act.put, List.setIfInBounds_toArray, List.set_cons_zero, List.set_cons_succ, i64_w, i32_w]
   rfl
  refine take_ (i := 7) (N := some 24) (v := ?_) (a' := ?_) #[true, true, true, true, true, true, true, true, false, false] rfl rfl (take_ofW HT_.out HW_.out (by kernel_rfl)) (fun _ _ _ h => h) (Or.inl ⟨by rfl, ?_⟩) hHeld ?_ ?_
  rotate_left
  ·
   rintro w' ⟨s0, s1, s2, s3, s4, s5, s6, s7⟩
   go_simp
   with_reducible rfl
  rotate_left
  ·
   simp only [Act.put, List.setIfInBounds_toArray, List.set_cons_zero, List.set_cons_succ, i64_w, i32_w]
   rfl
  refine one_ (i := 8) (N := some 25) #[true, true, true, true, true, true, true, true, true, false] rfl rfl (one_of HT_.out (by kernel_rfl)) (by decide) (fun K hK => ?_)
  refine goes_ Tryd.func67 (by kernel_rfl) rfl #[.agg #[.slice A246_0 ((rd_T34 l0 x5_1).f0).length c246_0, .string ((rd_T34 l0 x5_1).f1), .string ((rd_T34 l0 x5_1).f2), .string ((rd_T34 l0 x5_1).f3)], .agg #[.slice A247_0 ((rd_T34 l1 x5_1).f0).length c247_0, .string ((rd_T34 l1 x5_1).f1), .string ((rd_T34 l1 x5_1).f2), .string ((rd_T34 l1 x5_1).f3)]] (by rfl) rfl rfl au30 ?_
  first
  |
   with_reducible refine (laws_eqName.calls k1 _ _ ((rd_T34 l0 x5_1).f0) ((rd_T34 l0 x5_1).f1) ((rd_T34 l0 x5_1).f2) ((rd_T34 l0 x5_1).f3) _ _ ((rd_T34 l1 x5_1).f0) ((rd_T34 l1 x5_1).f1) ((rd_T34 l1 x5_1).f2) ((rd_T34 l1 x5_1).f3) _ _ ?side1 ?side2 ?side3 ?side4 A7.out).mono ?_
   (case side1 => repeat (first | exact (Kd.C_below HR246_0.out HB.out) | (with_reducible refine Kd.C_alloc ?_ _) | (with_reducible refine Kd.C_drewN ?_ _) | (with_reducible refine Kd.C_drew ?_)))
   (case side2 => exact HC246_0.out)
   (case side3 => repeat (first | exact (Kd.C_below HR247_0.out HB.out) | (with_reducible refine Kd.C_alloc ?_ _) | (with_reducible refine Kd.C_drewN ?_ _) | (with_reducible refine Kd.C_drew ?_)))
   (case side4 => exact HC247_0.out)
   rintro e w10 ⟨rfl, hb⟩
   refine ⟨_, rfl, ?_⟩
   have n0_ := Aside0.mk (below_step au31 hb)
   clear HB
   have HB := n0_
   clear n0_
   (try clear hb)
   (try clear hb2)
   (try clear hk)
   (try clear hi)
   refine hK.out _ _ ⟨((HB.out.cell (World.block_lt_of_cell? w _ hw246_0)).trans hw246_0), ((HB.out.cell (World.block_lt_of_cell? w _ hw246_1)).trans hw246_1), ((HB.out.cell (World.block_lt_of_cell? w _ hw246_2)).trans hw246_2), ((HB.out.cell (World.block_lt_of_cell? w _ hw246_3)).trans hw246_3), ((HB.out.cell (World.block_lt_of_cell? w _ hw247_0)).trans hw247_0), ((HB.out.cell (World.block_lt_of_cell? w _ hw247_1)).trans hw247_1), ((HB.out.cell (World.block_lt_of_cell? w _ hw247_2)).trans hw247_2), ((HB.out.cell (World.block_lt_of_cell? w _ hw247_3)).trans hw247_3)⟩ (fun hHeld => ?_)
   clear hK K
   refine norm_ (a' := ?_) ?_ ?_
   rotate_left
   ·
    show Act.put _ (some 25) _ = _
    simp only [Act.put, List.setIfInBounds_toArray, List.set_cons_zero, List.set_cons_succ, i64_w, i32_w]
    rfl
   refine pure_ (i := 9) (N := some 26) (v := ?_) (a' := ?_) #[true, true, true, true, true, true, true, true, true, true] rfl rfl (any_of HT_.out (by kernel_rfl)) (fun _ _ _ h => h) (Or.inl ⟨by rfl, ?_⟩) ?_ ?_
   rotate_left
   ·
    intro w'
    go_simp
    with_reducible rfl
   rotate_left
   ·
    simp only [Act.put, List.setIfInBounds_toArray, List.set_cons_zero, List.set_cons_succ, i64_w, i32_w]
    rfl
   refine done_ (done_of HT_.out (by kernel_rfl)) ?_
   try go_wp2
   go_roundg k1
   case measure => have := HK1.out; omega
   case rel => exact ⟨(wrap64 (x5_1 + 1)), au61, H', ⟨by have := HK1.out; omega⟩, ⟨by repeat (first | (with_reducible first | exact HB.out | apply below_alloc | apply pw_below_drewN | apply below_drew1) | exact HB.out)⟩⟩
  |
   with_reducible refine (laws_eqName.calls k1 _ _ ((rd_T34 l0 x5_1).f0) ((rd_T34 l0 x5_1).f1) ((rd_T34 l0 x5_1).f2) ((rd_T34 l0 x5_1).f3) _ _ ((rd_T34 l1 x5_1).f0) ((rd_T34 l1 x5_1).f1) ((rd_T34 l1 x5_1).f2) ((rd_T34 l1 x5_1).f3) _ _ ?side1 ?side2 ?side3 ?side4 A7.out).mono ?_
   (case side1 => repeat (first | exact (Kd.C_below HR246_0.out HB.out) | (with_reducible refine Kd.C_alloc ?_ _) | (with_reducible refine Kd.C_drewN ?_ _) | (with_reducible refine Kd.C_drew ?_)))
   (case side2 => exact HC246_0.out)
   (case side3 => repeat (first | exact (Kd.C_below HR247_0.out HB.out) | (with_reducible refine Kd.C_alloc ?_ _) | (with_reducible refine Kd.C_drewN ?_ _) | (with_reducible refine Kd.C_drew ?_)))
   (case side4 => exact HC247_0.out)
   rintro e w12 ⟨rfl, hb⟩
   refine ⟨_, rfl, ?_⟩
   have n0_ := Aside0.mk (below_step au31 hb)
   clear HB
   have HB := n0_
   clear n0_
   (try clear hb)
   (try clear hb2)
   (try clear hk)
   (try clear hi)
   refine hK.out _ _ ⟨((HB.out.cell (World.block_lt_of_cell? w _ hw246_0)).trans hw246_0), ((HB.out.cell (World.block_lt_of_cell? w _ hw246_1)).trans hw246_1), ((HB.out.cell (World.block_lt_of_cell? w _ hw246_2)).trans hw246_2), ((HB.out.cell (World.block_lt_of_cell? w _ hw246_3)).trans hw246_3), ((HB.out.cell (World.block_lt_of_cell? w _ hw247_0)).trans hw247_0), ((HB.out.cell (World.block_lt_of_cell? w _ hw247_1)).trans hw247_1), ((HB.out.cell (World.block_lt_of_cell? w _ hw247_2)).trans hw247_2), ((HB.out.cell (World.block_lt_of_cell? w _ hw247_3)).trans hw247_3)⟩ (fun hHeld => ?_)
   clear hK K
   refine norm_ (a' := ?_) ?_ ?_
   rotate_left
   ·
    show Act.put _ (some 25) _ = _
    simp only [Act.put, List.setIfInBounds_toArray, List.set_cons_zero, List.set_cons_succ, i64_w, i32_w]
    rfl
   refine pure_ (i := 9) (N := some 26) (v := ?_) (a' := ?_) #[true, true, true, true, true, true, true, true, true, true] rfl rfl (any_of HT_.out (by kernel_rfl)) (fun _ _ _ h => h) (Or.inl ⟨by rfl, ?_⟩) ?_ ?_
   rotate_left
   ·
    intro w'
    go_simp
    with_reducible rfl
   rotate_left
   ·
    simp only [Act.put, List.setIfInBounds_toArray, List.set_cons_zero, List.set_cons_succ, i64_w, i32_w]
    rfl
   refine done_ (done_of HT_.out (by kernel_rfl)) ?_
   try go_wp2
   go_ret
   exact ax1) : P := h
set_option maxHeartbeats 8000000 in
set_option maxRecDepth 100000 in
theorem laws_eqNameS.calls (k : Nat) (A0 : Option Addr) (c0 : Nat) (l0 : List (S34)) (A1 : Option Addr) (c1 : Nat) (l1 : List (S34)) (r : Bool) (w : World) (hr0 : Kd.C k34 w A0 l0.length l0) (hc0 : l0.length ≤ c0) (hr1 : Kd.C k34 w A1 l1.length l1) (hc1 : l1.length ≤ c1) (h : laws_eqNameS.f k l0 l1 = some r) :
  Calls Tryd.prog 16 #[.slice A0 l0.length c0, .slice A1 l1.length c1] w fun e w' => e = .returned (.bool r) ∧ Below w.heap.size w w' := by
 have hu34 := Tryd.underlying34
 have HR0 := Aside0.mk hr0
 have HC0 := Aside0.mk hc0
 clear hr0 hc0
 have HR1 := Aside0.mk hr1
 have HC1 := Aside0.mk hc1
 clear hr1 hc1
 have HB := Aside0.mk (Below.refl w.heap.size w)
 have H : (if (l0.length : Int) = (l1.length : Int) then (laws_eqNameS.l0 k l0 l1 0) else (some false)) = some r := h
 clear h
 by_cases c3 : (l0.length : Int) = (l1.length : Int)
 ·
  rw [if_pos c3] at H
  have c3b0 : ((l0.length : Int) == (l1.length : Int)) = true := beq_iff_eq.mpr c3
  have c3b1 : ((l0.length : Int) != (l1.length : Int)) = false := bne_eq_false_iff_eq.mpr c3
  have c3b2 : (l0.length == l1.length) = true := by first | simpa using c3 | (simp at c3 ⊢; omega)
  clear c3
  have H' := Aside0.mk H
  clear H
  go_enter Tryd.func16, Tryd.ntmps16
  go_wp2
  go_loopg [5] k (fun kq v5 w' => ∃ (x5_1 : Int), v5 = .int .i64 x5_1 ∧ Aside0 (laws_eqNameS.l0 kq l0 l1 x5_1 = some r) ∧ Aside0 (kq ≤ k) ∧ Aside0 (Below w.heap.size w w'))
  case atStart => exact ⟨(0), au61, H', ⟨Nat.le_refl _⟩, ⟨by repeat (first | (with_reducible first | exact HB.out | apply below_alloc | apply pw_below_drewN | apply below_drew1) | exact HB.out)⟩⟩
  case round =>
   clear H'
   try clear c1
   try clear p2
   try clear c3
   try clear c3b0
   try clear c3b1
   try clear c3b2
   obtain ⟨x5_1, rfl, HA, HK1, HB⟩ := hrel
   cases gk with
   | zero => exact absurd HA.out (by simp [laws_eqNameS.l0])
   | succ k1 =>
    have H := HA.out
    clear HA
    simp only [laws_eqNameS.l0] at H
    by_cases c4 : x5_1 < (l0.length : Int)
    ·
     rw [if_pos c4] at H
     have c4b0 : decide (x5_1 < (l0.length : Int)) = true := decide_eq_true c4
     clear c4
     by_cases c5 : 0 ≤ x5_1
     ·
      rw [if_pos c5] at H
      have c5b0 : decide (0 ≤ x5_1) = true := decide_eq_true c5
      clear c5
      by_cases c6 : x5_1 < (l1.length : Int)
      ·
       rw [if_pos c6] at H
       have c6b0 : decide (x5_1 < (l1.length : Int)) = true := decide_eq_true c6
       clear c6
       replace H := Option.bind_eq_some_iff.mp H
       obtain ⟨t248, A70, H⟩ := H
       try dsimp only at H
       have A7 := Aside0.mk A70
       clear A70
       by_cases c8 : t248 = true
       ·
        subst c8
        replace H := (if_pos rfl).symm.trans H
        have H' := Aside0.mk H
        clear H
        exact laws_eqNameS.L0
       ·
        replace c8 := Bool.eq_false_iff.mpr c8
        subst c8
        replace H := (if_neg (show ¬ (false = true) by decide)).symm.trans H
        obtain rfl := Option.some.inj H
        exact laws_eqNameS.L0
      ·
       rw [if_neg c6] at H
       exact absurd H (by simp)
     ·
      rw [if_neg c5] at H
      exact absurd H (by simp)
    ·
     rw [if_neg c4] at H
     have c4b0 : decide (x5_1 < (l0.length : Int)) = false := decide_eq_false c4
     clear c4
     obtain rfl := Option.some.inj H
     go_wp2
     go_ret
     exact ax1
 ·
  rw [if_neg c3] at H
  have c3b0 : ((l0.length : Int) == (l1.length : Int)) = false := beq_eq_false_iff_ne.mpr c3
  have c3b1 : ((l0.length : Int) != (l1.length : Int)) = true := bne_iff_ne.mpr c3
  have c3b2 : (l0.length == l1.length) = false := by first | simpa using c3 | (simp at c3 ⊢; omega)
  obtain rfl := Option.some.inj H
  go_enter Tryd.func16, Tryd.ntmps16
  go_wp2
  go_ret
  exact ax1

end Go.Proofs.YtcckamdpncbkoabDoor.G
