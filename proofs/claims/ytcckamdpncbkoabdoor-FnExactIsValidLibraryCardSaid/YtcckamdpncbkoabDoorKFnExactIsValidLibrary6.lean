/- Texts of this session for the law FnExactIsValidLibrary, put together by a program (merge.py): each ends with its namespace; conditions stand with each theorem. -/
import Derived.Test.YtcckamdpncbkoabDoorKFnExactIsValidLibrary2
import Derived.Test.YtcckamdpncbkoabDoorKFnExactIsValidLibrary5
import Derived.Test.YtcckamdpncbkoabDoorKFnExactIsValidLibrary3
import Derived.Test.YtcckamdpncbkoabDoorKFnExactIsValidLibrary4
import Derived.Test.YtcckamdpncbkoabDoorKFnExactIsValidLibrary1
import Derived.Deep.Slices
import Derived.Lib.Strings
import Derived.Lib.SplitLaws
import Derived.Lib.IndexBytes
import Derived.Lib.IndexLaws
namespace Go.Proofs.YtcckamdpncbkoabDoor.G
open Go.RowKit Go.Proofs.YtcckamdpncbkoabDoorW.PrintWords Go.Proofs.YtcckamdpncbkoabDoorW.PrintLast Go.Proofs.YtcckamdpncbkoabDoorW.PrintMore
open Go.Proofs.YtcckamdpncbkoabDoor.Gl Go.Proofs.YtcckamdpncbkoabDoor.Ext
attribute [local go_sem] max2_int min2_int max_two min_two max_three min_three max_four min_four   -- for this text's walks alone
set_option linter.unusedVariables false
set_option linter.unusedSimpArgs false

/-! ### laws_eqEntry: function 45 -/
def laws_eqEntry.f (k : Nat) (a0_0 : ByteArray) (a0_1 : Int) (l0_2 : List (S34)) (l0_3 : List (S34)) (a0_4 : ByteArray) (a0_5 : ByteArray) (a0_6 : ByteArray) (a0_7 : Int) (a0_8 : Int) (a0_9 : Int) (a0_10 : Bool) (a0_11 : Int) (a0_12 : ByteArray) (a0_13 : ByteArray) (a1_0 : ByteArray) (a1_1 : Int) (l1_2 : List (S34)) (l1_3 : List (S34)) (a1_4 : ByteArray) (a1_5 : ByteArray) (a1_6 : ByteArray) (a1_7 : Int) (a1_8 : Int) (a1_9 : Int) (a1_10 : Bool) (a1_11 : Int) (a1_12 : ByteArray) (a1_13 : ByteArray) : Option (Bool) := if a0_0.toList = a1_0.toList then (if a0_1 = a1_1 then ((laws_eqNameS.f k l0_2 l1_2).bind fun t694 => (if t694 = true then ((laws_eqNameS.f k l0_3 l1_3).bind fun t695 => (if t695 = true then (if a0_4.toList = a1_4.toList then (if a0_5.toList = a1_5.toList then (if a0_6.toList = a1_6.toList then ((laws_eqDate.f a0_7 a0_8 a0_9 a0_10 a1_7 a1_8 a1_9 a1_10).bind fun t696 => (if t696 = true then (if a0_11 = a1_11 then (if a0_12.toList = a1_12.toList then (if a0_13.toList = a1_13.toList then (some true) else (some false)) else (some false)) else (some false)) else (some false))) else (some false)) else (some false)) else (some false)) else (some false))) else (some false))) else (some false)) else (some false)
theorem laws_eqEntry.mono : ∀ a0 a1 a2 a3 a4 a5 a6 a7 a8 a9 a10 a11 a12 a13 a14 a15 a16 a17 a18 a19 a20 a21 a22 a23 a24 a25 a26 a27 k, LeO (laws_eqEntry.f k a0 a1 a2 a3 a4 a5 a6 a7 a8 a9 a10 a11 a12 a13 a14 a15 a16 a17 a18 a19 a20 a21 a22 a23 a24 a25 a26 a27) (laws_eqEntry.f (k + 1) a0 a1 a2 a3 a4 a5 a6 a7 a8 a9 a10 a11 a12 a13 a14 a15 a16 a17 a18 a19 a20 a21 a22 a23 a24 a25 a26 a27) := by
 intro a0 a1 a2 a3 a4 a5 a6 a7 a8 a9 a10 a11 a12 a13 a14 a15 a16 a17 a18 a19 a20 a21 a22 a23 a24 a25 a26 a27 k
 unfold laws_eqEntry.f
 repeat' first
   | (with_reducible exact laws_eqNameS.mono _ _ _)
   | (with_reducible exact LeO.refl _)
   | (with_reducible exact LeO.none _)
   | (with_reducible refine LeO.ite ?_ ?_)
   | (with_reducible refine LeO.bind ?_ (fun _ => ?_))
   | exact laws_eqNameS.mono _ _ _
   | exact LeO.none _
   | refine LeO.ite ?_ ?_
   | refine LeO.bind ?_ (fun _ => ?_)
set_option maxRecDepth 100000 in
theorem laws_eqEntry.L0 {P : Prop} (h : P := by
  go_enter Tryd.func45, Tryd.ntmps45
  go_wp2_with (first | ((with_reducible refine gate_dst (N := 2) rfl ?_); refine box_event ?hg (N := 2) ?hd (cs := #[.string a0_0, .int .i64 a0_1, .slice A0_2 l0_2.length c0_2, .slice A0_3 l0_3.length c0_3, .string a0_4, .string a0_5, .string a0_6, .int .i64 a0_7, .int .i64 a0_8, .int .i64 a0_9, .bool a0_10, .int .i64 a0_11, .string a0_12, .string a0_13]) (t := 65) ?hr ?_; (case hd => rfl); (case hg => rfl); (case hr => first | (go_simp; done) | (go_simp; rfl)); intro gb692 hg w17 hbox hb; have n0_ := Aside0.mk (below_step au31 hb); have n1_ := Aside0.mk (hbox); have n2_ := Aside0.mk ((by rw [hg]; exact (below_size au31) : w.heap.size ≤ gb692)); have n3_ := Aside0.mk ((by rw [hg]; exact (below_size au31) : w.heap.size ≤ gb692)); clear HB; have HB := n0_; have BK692 := n1_; have GW692 := n2_; have GE692 := n3_; clear n0_ n1_ n2_ n3_; clear hb hbox hg) | ((with_reducible refine gate_dst (N := 3) rfl ?_); refine box_event ?hg (N := 3) ?hd (cs := #[.string a1_0, .int .i64 a1_1, .slice A1_2 l1_2.length c1_2, .slice A1_3 l1_3.length c1_3, .string a1_4, .string a1_5, .string a1_6, .int .i64 a1_7, .int .i64 a1_8, .int .i64 a1_9, .bool a1_10, .int .i64 a1_11, .string a1_12, .string a1_13]) (t := 65) ?hr ?_; (case hd => rfl); (case hg => rfl); (case hr => first | (go_simp; done) | (go_simp; rfl)); intro gb693 hg w18 hbox hb; have n0_ := Aside0.mk (blk_below (g := gb692) (o := .cells #[.string a0_0, .int .i64 a0_1, .slice A0_2 l0_2.length c0_2, .slice A0_3 l0_3.length c0_3, .string a0_4, .string a0_5, .string a0_6, .int .i64 a0_7, .int .i64 a0_8, .int .i64 a0_9, .bool a0_10, .int .i64 a0_11, .string a0_12, .string a0_13] 65 (0, 0)) au51 hb); have n1_ := Aside0.mk (below_step au27 hb); have n2_ := Aside0.mk (hbox); have n3_ := Aside0.mk ((by rw [hg]; exact (below_size au27) : w.heap.size ≤ gb693)); have n4_ := Aside0.mk ((by rw [hg]; exact (below_size au27) : w.heap.size ≤ gb693)); have n5_ := Aside0.mk ((by rw [hg]; exact Nat.ne_of_lt (blk_lt (g := gb692) (o := .cells #[.string a0_0, .int .i64 a0_1, .slice A0_2 l0_2.length c0_2, .slice A0_3 l0_3.length c0_3, .string a0_4, .string a0_5, .string a0_6, .int .i64 a0_7, .int .i64 a0_8, .int .i64 a0_9, .bool a0_10, .int .i64 a0_11, .string a0_12, .string a0_13] 65 (0, 0)) au51) : gb692 ≠ gb693)); have n6_ := Aside0.mk ((by rw [hg]; exact Nat.ne_of_gt (blk_lt (g := gb692) (o := .cells #[.string a0_0, .int .i64 a0_1, .slice A0_2 l0_2.length c0_2, .slice A0_3 l0_3.length c0_3, .string a0_4, .string a0_5, .string a0_6, .int .i64 a0_7, .int .i64 a0_8, .int .i64 a0_9, .bool a0_10, .int .i64 a0_11, .string a0_12, .string a0_13] 65 (0, 0)) au51) : gb693 ≠ gb692)); clear BK692; clear HB; have BK692 := n0_; have HB := n1_; have BK693 := n2_; have GW693 := n3_; have GE693 := n4_; have NB692_693 := n5_; have NB693_692 := n6_; clear n0_ n1_ n2_ n3_ n4_ n5_ n6_; clear hb hbox hg; have hnb19 := NB692_693.out; have hnc19 := NB693_692.out; have hcz20_0 : w18.cell? ⟨gb692, 0, none⟩ = some (.string a0_0) := (blk_cell BK692.out 0).trans rfl; have hcz20_1 : w18.cell? ⟨gb692, 1, none⟩ = some (.int .i64 a0_1) := (blk_cell BK692.out 1).trans rfl; have hcz20_2 : w18.cell? ⟨gb692, 2, none⟩ = some (.slice A0_2 l0_2.length c0_2) := (blk_cell BK692.out 2).trans rfl; have hcz20_3 : w18.cell? ⟨gb692, 3, none⟩ = some (.slice A0_3 l0_3.length c0_3) := (blk_cell BK692.out 3).trans rfl; have hcz20_4 : w18.cell? ⟨gb692, 4, none⟩ = some (.string a0_4) := (blk_cell BK692.out 4).trans rfl; have hcz20_5 : w18.cell? ⟨gb692, 5, none⟩ = some (.string a0_5) := (blk_cell BK692.out 5).trans rfl; have hcz20_6 : w18.cell? ⟨gb692, 6, none⟩ = some (.string a0_6) := (blk_cell BK692.out 6).trans rfl; have hcz20_7 : w18.cell? ⟨gb692, 7, none⟩ = some (.int .i64 a0_7) := (blk_cell BK692.out 7).trans rfl; have hcz20_8 : w18.cell? ⟨gb692, 8, none⟩ = some (.int .i64 a0_8) := (blk_cell BK692.out 8).trans rfl; have hcz20_9 : w18.cell? ⟨gb692, 9, none⟩ = some (.int .i64 a0_9) := (blk_cell BK692.out 9).trans rfl; have hcz20_10 : w18.cell? ⟨gb692, 10, none⟩ = some (.bool a0_10) := (blk_cell BK692.out 10).trans rfl; have hcz20_11 : w18.cell? ⟨gb692, 11, none⟩ = some (.int .i64 a0_11) := (blk_cell BK692.out 11).trans rfl; have hcz20_12 : w18.cell? ⟨gb692, 12, none⟩ = some (.string a0_12) := (blk_cell BK692.out 12).trans rfl; have hcz20_13 : w18.cell? ⟨gb692, 13, none⟩ = some (.string a0_13) := (blk_cell BK692.out 13).trans rfl; have hfz20_0 := blk_frozen BK692.out 0; have hfz20_1 := blk_frozen BK692.out 1; have hfz20_2 := blk_frozen BK692.out 2; have hfz20_3 := blk_frozen BK692.out 3; have hfz20_4 := blk_frozen BK692.out 4; have hfz20_5 := blk_frozen BK692.out 5; have hfz20_6 := blk_frozen BK692.out 6; have hfz20_7 := blk_frozen BK692.out 7; have hfz20_8 := blk_frozen BK692.out 8; have hfz20_9 := blk_frozen BK692.out 9; have hfz20_10 := blk_frozen BK692.out 10; have hfz20_11 := blk_frozen BK692.out 11; have hfz20_12 := blk_frozen BK692.out 12; have hfz20_13 := blk_frozen BK692.out 13; have hcz21_0 : w18.cell? ⟨gb693, 0, none⟩ = some (.string a1_0) := (blk_cell BK693.out 0).trans rfl; have hcz21_1 : w18.cell? ⟨gb693, 1, none⟩ = some (.int .i64 a1_1) := (blk_cell BK693.out 1).trans rfl; have hcz21_2 : w18.cell? ⟨gb693, 2, none⟩ = some (.slice A1_2 l1_2.length c1_2) := (blk_cell BK693.out 2).trans rfl; have hcz21_3 : w18.cell? ⟨gb693, 3, none⟩ = some (.slice A1_3 l1_3.length c1_3) := (blk_cell BK693.out 3).trans rfl; have hcz21_4 : w18.cell? ⟨gb693, 4, none⟩ = some (.string a1_4) := (blk_cell BK693.out 4).trans rfl; have hcz21_5 : w18.cell? ⟨gb693, 5, none⟩ = some (.string a1_5) := (blk_cell BK693.out 5).trans rfl; have hcz21_6 : w18.cell? ⟨gb693, 6, none⟩ = some (.string a1_6) := (blk_cell BK693.out 6).trans rfl; have hcz21_7 : w18.cell? ⟨gb693, 7, none⟩ = some (.int .i64 a1_7) := (blk_cell BK693.out 7).trans rfl; have hcz21_8 : w18.cell? ⟨gb693, 8, none⟩ = some (.int .i64 a1_8) := (blk_cell BK693.out 8).trans rfl; have hcz21_9 : w18.cell? ⟨gb693, 9, none⟩ = some (.int .i64 a1_9) := (blk_cell BK693.out 9).trans rfl; have hcz21_10 : w18.cell? ⟨gb693, 10, none⟩ = some (.bool a1_10) := (blk_cell BK693.out 10).trans rfl; have hcz21_11 : w18.cell? ⟨gb693, 11, none⟩ = some (.int .i64 a1_11) := (blk_cell BK693.out 11).trans rfl; have hcz21_12 : w18.cell? ⟨gb693, 12, none⟩ = some (.string a1_12) := (blk_cell BK693.out 12).trans rfl; have hcz21_13 : w18.cell? ⟨gb693, 13, none⟩ = some (.string a1_13) := (blk_cell BK693.out 13).trans rfl; have hfz21_0 := blk_frozen BK693.out 0; have hfz21_1 := blk_frozen BK693.out 1; have hfz21_2 := blk_frozen BK693.out 2; have hfz21_3 := blk_frozen BK693.out 3; have hfz21_4 := blk_frozen BK693.out 4; have hfz21_5 := blk_frozen BK693.out 5; have hfz21_6 := blk_frozen BK693.out 6; have hfz21_7 := blk_frozen BK693.out 7; have hfz21_8 := blk_frozen BK693.out 8; have hfz21_9 := blk_frozen BK693.out 9; have hfz21_10 := blk_frozen BK693.out 10; have hfz21_11 := blk_frozen BK693.out 11; have hfz21_12 := blk_frozen BK693.out 12; have hfz21_13 := blk_frozen BK693.out 13) | ((with_reducible refine gate_callee (f := 16) rfl ?_); refine goesL_ (some 19) rfl rfl Tryd.func16 (by kernel_rfl) rfl #[.slice A0_2 l0_2.length c0_2, .slice A1_2 l1_2.length c1_2] rfl au30 ?_; (with_reducible refine (laws_eqNameS.calls k _ _ l0_2 _ _ l1_2 _ _ ?side1 ?side2 ?side3 ?side4 A5.out).mono ?_); (case side1 => repeat (first | exact (Kd.C_below HR0_2.out HB.out) | (with_reducible refine Kd.C_alloc ?_ _) | (with_reducible refine Kd.C_drewN ?_ _) | (with_reducible refine Kd.C_drew ?_))); (case side2 => exact HC0_2.out); (case side3 => repeat (first | exact (Kd.C_below HR1_2.out HB.out) | (with_reducible refine Kd.C_alloc ?_ _) | (with_reducible refine Kd.C_drewN ?_ _) | (with_reducible refine Kd.C_drew ?_))); (case side4 => exact HC1_2.out); rintro e w22 ⟨rfl, hb⟩; refine ⟨_, rfl, ?_⟩; have n0_ := Aside0.mk (blk_below (g := gb692) (o := .cells #[.string a0_0, .int .i64 a0_1, .slice A0_2 l0_2.length c0_2, .slice A0_3 l0_3.length c0_3, .string a0_4, .string a0_5, .string a0_6, .int .i64 a0_7, .int .i64 a0_8, .int .i64 a0_9, .bool a0_10, .int .i64 a0_11, .string a0_12, .string a0_13] 65 (0, 0)) au51 hb); have n1_ := Aside0.mk (blk_below (g := gb693) (o := .cells #[.string a1_0, .int .i64 a1_1, .slice A1_2 l1_2.length c1_2, .slice A1_3 l1_3.length c1_3, .string a1_4, .string a1_5, .string a1_6, .int .i64 a1_7, .int .i64 a1_8, .int .i64 a1_9, .bool a1_10, .int .i64 a1_11, .string a1_12, .string a1_13] 65 (0, 0)) au52 hb); have n2_ := Aside0.mk (below_step au11 hb); clear BK692; clear BK693; clear HB; have BK692 := n0_; have BK693 := n1_; have HB := n2_; clear n0_ n1_ n2_; (try clear hb); (try clear hb2); (try clear hk); (try clear hi); have hcz23_0 : w22.cell? ⟨gb692, 0, none⟩ = some (.string a0_0) := (blk_cell BK692.out 0).trans rfl; have hcz23_1 : w22.cell? ⟨gb692, 1, none⟩ = some (.int .i64 a0_1) := (blk_cell BK692.out 1).trans rfl; have hcz23_2 : w22.cell? ⟨gb692, 2, none⟩ = some (.slice A0_2 l0_2.length c0_2) := (blk_cell BK692.out 2).trans rfl; have hcz23_3 : w22.cell? ⟨gb692, 3, none⟩ = some (.slice A0_3 l0_3.length c0_3) := (blk_cell BK692.out 3).trans rfl; have hcz23_4 : w22.cell? ⟨gb692, 4, none⟩ = some (.string a0_4) := (blk_cell BK692.out 4).trans rfl; have hcz23_5 : w22.cell? ⟨gb692, 5, none⟩ = some (.string a0_5) := (blk_cell BK692.out 5).trans rfl; have hcz23_6 : w22.cell? ⟨gb692, 6, none⟩ = some (.string a0_6) := (blk_cell BK692.out 6).trans rfl; have hcz23_7 : w22.cell? ⟨gb692, 7, none⟩ = some (.int .i64 a0_7) := (blk_cell BK692.out 7).trans rfl; have hcz23_8 : w22.cell? ⟨gb692, 8, none⟩ = some (.int .i64 a0_8) := (blk_cell BK692.out 8).trans rfl; have hcz23_9 : w22.cell? ⟨gb692, 9, none⟩ = some (.int .i64 a0_9) := (blk_cell BK692.out 9).trans rfl; have hcz23_10 : w22.cell? ⟨gb692, 10, none⟩ = some (.bool a0_10) := (blk_cell BK692.out 10).trans rfl; have hcz23_11 : w22.cell? ⟨gb692, 11, none⟩ = some (.int .i64 a0_11) := (blk_cell BK692.out 11).trans rfl; have hcz23_12 : w22.cell? ⟨gb692, 12, none⟩ = some (.string a0_12) := (blk_cell BK692.out 12).trans rfl; have hcz23_13 : w22.cell? ⟨gb692, 13, none⟩ = some (.string a0_13) := (blk_cell BK692.out 13).trans rfl; have hfz23_0 := blk_frozen BK692.out 0; have hfz23_1 := blk_frozen BK692.out 1; have hfz23_2 := blk_frozen BK692.out 2; have hfz23_3 := blk_frozen BK692.out 3; have hfz23_4 := blk_frozen BK692.out 4; have hfz23_5 := blk_frozen BK692.out 5; have hfz23_6 := blk_frozen BK692.out 6; have hfz23_7 := blk_frozen BK692.out 7; have hfz23_8 := blk_frozen BK692.out 8; have hfz23_9 := blk_frozen BK692.out 9; have hfz23_10 := blk_frozen BK692.out 10; have hfz23_11 := blk_frozen BK692.out 11; have hfz23_12 := blk_frozen BK692.out 12; have hfz23_13 := blk_frozen BK692.out 13; have hcz24_0 : w22.cell? ⟨gb693, 0, none⟩ = some (.string a1_0) := (blk_cell BK693.out 0).trans rfl; have hcz24_1 : w22.cell? ⟨gb693, 1, none⟩ = some (.int .i64 a1_1) := (blk_cell BK693.out 1).trans rfl; have hcz24_2 : w22.cell? ⟨gb693, 2, none⟩ = some (.slice A1_2 l1_2.length c1_2) := (blk_cell BK693.out 2).trans rfl; have hcz24_3 : w22.cell? ⟨gb693, 3, none⟩ = some (.slice A1_3 l1_3.length c1_3) := (blk_cell BK693.out 3).trans rfl; have hcz24_4 : w22.cell? ⟨gb693, 4, none⟩ = some (.string a1_4) := (blk_cell BK693.out 4).trans rfl; have hcz24_5 : w22.cell? ⟨gb693, 5, none⟩ = some (.string a1_5) := (blk_cell BK693.out 5).trans rfl; have hcz24_6 : w22.cell? ⟨gb693, 6, none⟩ = some (.string a1_6) := (blk_cell BK693.out 6).trans rfl; have hcz24_7 : w22.cell? ⟨gb693, 7, none⟩ = some (.int .i64 a1_7) := (blk_cell BK693.out 7).trans rfl; have hcz24_8 : w22.cell? ⟨gb693, 8, none⟩ = some (.int .i64 a1_8) := (blk_cell BK693.out 8).trans rfl; have hcz24_9 : w22.cell? ⟨gb693, 9, none⟩ = some (.int .i64 a1_9) := (blk_cell BK693.out 9).trans rfl; have hcz24_10 : w22.cell? ⟨gb693, 10, none⟩ = some (.bool a1_10) := (blk_cell BK693.out 10).trans rfl; have hcz24_11 : w22.cell? ⟨gb693, 11, none⟩ = some (.int .i64 a1_11) := (blk_cell BK693.out 11).trans rfl; have hcz24_12 : w22.cell? ⟨gb693, 12, none⟩ = some (.string a1_12) := (blk_cell BK693.out 12).trans rfl; have hcz24_13 : w22.cell? ⟨gb693, 13, none⟩ = some (.string a1_13) := (blk_cell BK693.out 13).trans rfl; have hfz24_0 := blk_frozen BK693.out 0; have hfz24_1 := blk_frozen BK693.out 1; have hfz24_2 := blk_frozen BK693.out 2; have hfz24_3 := blk_frozen BK693.out 3; have hfz24_4 := blk_frozen BK693.out 4; have hfz24_5 := blk_frozen BK693.out 5; have hfz24_6 := blk_frozen BK693.out 6; have hfz24_7 := blk_frozen BK693.out 7; have hfz24_8 := blk_frozen BK693.out 8; have hfz24_9 := blk_frozen BK693.out 9; have hfz24_10 := blk_frozen BK693.out 10; have hfz24_11 := blk_frozen BK693.out 11; have hfz24_12 := blk_frozen BK693.out 12; have hfz24_13 := blk_frozen BK693.out 13) | ((with_reducible refine gate_callee (f := 16) rfl ?_); refine goesL_ (some 25) rfl rfl Tryd.func16 (by kernel_rfl) rfl #[.slice A0_3 l0_3.length c0_3, .slice A1_3 l1_3.length c1_3] rfl au30 ?_; (with_reducible refine (laws_eqNameS.calls k _ _ l0_3 _ _ l1_3 _ _ ?side1 ?side2 ?side3 ?side4 A7.out).mono ?_); (case side1 => repeat (first | exact (Kd.C_below HR0_3.out HB.out) | (with_reducible refine Kd.C_alloc ?_ _) | (with_reducible refine Kd.C_drewN ?_ _) | (with_reducible refine Kd.C_drew ?_))); (case side2 => exact HC0_3.out); (case side3 => repeat (first | exact (Kd.C_below HR1_3.out HB.out) | (with_reducible refine Kd.C_alloc ?_ _) | (with_reducible refine Kd.C_drewN ?_ _) | (with_reducible refine Kd.C_drew ?_))); (case side4 => exact HC1_3.out); rintro e w25 ⟨rfl, hb⟩; refine ⟨_, rfl, ?_⟩; have n0_ := Aside0.mk (blk_below (g := gb692) (o := .cells #[.string a0_0, .int .i64 a0_1, .slice A0_2 l0_2.length c0_2, .slice A0_3 l0_3.length c0_3, .string a0_4, .string a0_5, .string a0_6, .int .i64 a0_7, .int .i64 a0_8, .int .i64 a0_9, .bool a0_10, .int .i64 a0_11, .string a0_12, .string a0_13] 65 (0, 0)) au51 hb); have n1_ := Aside0.mk (blk_below (g := gb693) (o := .cells #[.string a1_0, .int .i64 a1_1, .slice A1_2 l1_2.length c1_2, .slice A1_3 l1_3.length c1_3, .string a1_4, .string a1_5, .string a1_6, .int .i64 a1_7, .int .i64 a1_8, .int .i64 a1_9, .bool a1_10, .int .i64 a1_11, .string a1_12, .string a1_13] 65 (0, 0)) au52 hb); have n2_ := Aside0.mk (below_step au11 hb); clear BK692; clear BK693; clear HB; have BK692 := n0_; have BK693 := n1_; have HB := n2_; clear n0_ n1_ n2_; (try clear hb); (try clear hb2); (try clear hk); (try clear hi); have hcz26_0 : w25.cell? ⟨gb692, 0, none⟩ = some (.string a0_0) := (blk_cell BK692.out 0).trans rfl; have hcz26_1 : w25.cell? ⟨gb692, 1, none⟩ = some (.int .i64 a0_1) := (blk_cell BK692.out 1).trans rfl; have hcz26_2 : w25.cell? ⟨gb692, 2, none⟩ = some (.slice A0_2 l0_2.length c0_2) := (blk_cell BK692.out 2).trans rfl; have hcz26_3 : w25.cell? ⟨gb692, 3, none⟩ = some (.slice A0_3 l0_3.length c0_3) := (blk_cell BK692.out 3).trans rfl; have hcz26_4 : w25.cell? ⟨gb692, 4, none⟩ = some (.string a0_4) := (blk_cell BK692.out 4).trans rfl; have hcz26_5 : w25.cell? ⟨gb692, 5, none⟩ = some (.string a0_5) := (blk_cell BK692.out 5).trans rfl; have hcz26_6 : w25.cell? ⟨gb692, 6, none⟩ = some (.string a0_6) := (blk_cell BK692.out 6).trans rfl; have hcz26_7 : w25.cell? ⟨gb692, 7, none⟩ = some (.int .i64 a0_7) := (blk_cell BK692.out 7).trans rfl; have hcz26_8 : w25.cell? ⟨gb692, 8, none⟩ = some (.int .i64 a0_8) := (blk_cell BK692.out 8).trans rfl; have hcz26_9 : w25.cell? ⟨gb692, 9, none⟩ = some (.int .i64 a0_9) := (blk_cell BK692.out 9).trans rfl; have hcz26_10 : w25.cell? ⟨gb692, 10, none⟩ = some (.bool a0_10) := (blk_cell BK692.out 10).trans rfl; have hcz26_11 : w25.cell? ⟨gb692, 11, none⟩ = some (.int .i64 a0_11) := (blk_cell BK692.out 11).trans rfl; have hcz26_12 : w25.cell? ⟨gb692, 12, none⟩ = some (.string a0_12) := (blk_cell BK692.out 12).trans rfl; have hcz26_13 : w25.cell? ⟨gb692, 13, none⟩ = some (.string a0_13) := (blk_cell BK692.out 13).trans rfl; have hfz26_0 := blk_frozen BK692.out 0; have hfz26_1 := blk_frozen BK692.out 1; have hfz26_2 := blk_frozen BK692.out 2; have hfz26_3 := blk_frozen BK692.out 3; have hfz26_4 := blk_frozen BK692.out 4; have hfz26_5 := blk_frozen BK692.out 5; have hfz26_6 := blk_frozen BK692.out 6; have hfz26_7 := blk_frozen BK692.out 7; have hfz26_8 := blk_frozen BK692.out 8; have hfz26_9 := blk_frozen BK692.out 9; have hfz26_10 := blk_frozen BK692.out 10; have hfz26_11 := blk_frozen BK692.out 11; have hfz26_12 := blk_frozen BK692.out 12; have hfz26_13 := blk_frozen BK692.out 13; have hcz27_0 : w25.cell? ⟨gb693, 0, none⟩ = some (.string a1_0) := (blk_cell BK693.out 0).trans rfl; have hcz27_1 : w25.cell? ⟨gb693, 1, none⟩ = some (.int .i64 a1_1) := (blk_cell BK693.out 1).trans rfl; have hcz27_2 : w25.cell? ⟨gb693, 2, none⟩ = some (.slice A1_2 l1_2.length c1_2) := (blk_cell BK693.out 2).trans rfl; have hcz27_3 : w25.cell? ⟨gb693, 3, none⟩ = some (.slice A1_3 l1_3.length c1_3) := (blk_cell BK693.out 3).trans rfl; have hcz27_4 : w25.cell? ⟨gb693, 4, none⟩ = some (.string a1_4) := (blk_cell BK693.out 4).trans rfl; have hcz27_5 : w25.cell? ⟨gb693, 5, none⟩ = some (.string a1_5) := (blk_cell BK693.out 5).trans rfl; have hcz27_6 : w25.cell? ⟨gb693, 6, none⟩ = some (.string a1_6) := (blk_cell BK693.out 6).trans rfl; have hcz27_7 : w25.cell? ⟨gb693, 7, none⟩ = some (.int .i64 a1_7) := (blk_cell BK693.out 7).trans rfl; have hcz27_8 : w25.cell? ⟨gb693, 8, none⟩ = some (.int .i64 a1_8) := (blk_cell BK693.out 8).trans rfl; have hcz27_9 : w25.cell? ⟨gb693, 9, none⟩ = some (.int .i64 a1_9) := (blk_cell BK693.out 9).trans rfl; have hcz27_10 : w25.cell? ⟨gb693, 10, none⟩ = some (.bool a1_10) := (blk_cell BK693.out 10).trans rfl; have hcz27_11 : w25.cell? ⟨gb693, 11, none⟩ = some (.int .i64 a1_11) := (blk_cell BK693.out 11).trans rfl; have hcz27_12 : w25.cell? ⟨gb693, 12, none⟩ = some (.string a1_12) := (blk_cell BK693.out 12).trans rfl; have hcz27_13 : w25.cell? ⟨gb693, 13, none⟩ = some (.string a1_13) := (blk_cell BK693.out 13).trans rfl; have hfz27_0 := blk_frozen BK693.out 0; have hfz27_1 := blk_frozen BK693.out 1; have hfz27_2 := blk_frozen BK693.out 2; have hfz27_3 := blk_frozen BK693.out 3; have hfz27_4 := blk_frozen BK693.out 4; have hfz27_5 := blk_frozen BK693.out 5; have hfz27_6 := blk_frozen BK693.out 6; have hfz27_7 := blk_frozen BK693.out 7; have hfz27_8 := blk_frozen BK693.out 8; have hfz27_9 := blk_frozen BK693.out 9; have hfz27_10 := blk_frozen BK693.out 10; have hfz27_11 := blk_frozen BK693.out 11; have hfz27_12 := blk_frozen BK693.out 12; have hfz27_13 := blk_frozen BK693.out 13) | ((with_reducible refine gate_callee (f := 108) rfl ?_); refine goesL_ (some 46) rfl rfl Tryd.func108 (by kernel_rfl) rfl #[.agg #[.int .i64 a0_7, .int .i64 a0_8, .int .i64 a0_9, .bool a0_10], .agg #[.int .i64 a1_7, .int .i64 a1_8, .int .i64 a1_9, .bool a1_10]] rfl au30 ?_; (with_reducible refine (laws_eqDate.calls a0_7 a0_8 a0_9 a0_10 a1_7 a1_8 a1_9 a1_10 _ _ A12.out).mono ?_); rintro e w28 ⟨rfl, hb⟩; refine ⟨_, rfl, ?_⟩; have n0_ := Aside0.mk (blk_below (g := gb692) (o := .cells #[.string a0_0, .int .i64 a0_1, .slice A0_2 l0_2.length c0_2, .slice A0_3 l0_3.length c0_3, .string a0_4, .string a0_5, .string a0_6, .int .i64 a0_7, .int .i64 a0_8, .int .i64 a0_9, .bool a0_10, .int .i64 a0_11, .string a0_12, .string a0_13] 65 (0, 0)) au51 hb); have n1_ := Aside0.mk (blk_below (g := gb693) (o := .cells #[.string a1_0, .int .i64 a1_1, .slice A1_2 l1_2.length c1_2, .slice A1_3 l1_3.length c1_3, .string a1_4, .string a1_5, .string a1_6, .int .i64 a1_7, .int .i64 a1_8, .int .i64 a1_9, .bool a1_10, .int .i64 a1_11, .string a1_12, .string a1_13] 65 (0, 0)) au52 hb); have n2_ := Aside0.mk (below_step au11 hb); clear BK692; clear BK693; clear HB; have BK692 := n0_; have BK693 := n1_; have HB := n2_; clear n0_ n1_ n2_; (try clear hb); (try clear hb2); (try clear hk); (try clear hi); have hcz29_0 : w28.cell? ⟨gb692, 0, none⟩ = some (.string a0_0) := (blk_cell BK692.out 0).trans rfl; have hcz29_1 : w28.cell? ⟨gb692, 1, none⟩ = some (.int .i64 a0_1) := (blk_cell BK692.out 1).trans rfl; have hcz29_2 : w28.cell? ⟨gb692, 2, none⟩ = some (.slice A0_2 l0_2.length c0_2) := (blk_cell BK692.out 2).trans rfl; have hcz29_3 : w28.cell? ⟨gb692, 3, none⟩ = some (.slice A0_3 l0_3.length c0_3) := (blk_cell BK692.out 3).trans rfl; have hcz29_4 : w28.cell? ⟨gb692, 4, none⟩ = some (.string a0_4) := (blk_cell BK692.out 4).trans rfl; have hcz29_5 : w28.cell? ⟨gb692, 5, none⟩ = some (.string a0_5) := (blk_cell BK692.out 5).trans rfl; have hcz29_6 : w28.cell? ⟨gb692, 6, none⟩ = some (.string a0_6) := (blk_cell BK692.out 6).trans rfl; have hcz29_7 : w28.cell? ⟨gb692, 7, none⟩ = some (.int .i64 a0_7) := (blk_cell BK692.out 7).trans rfl; have hcz29_8 : w28.cell? ⟨gb692, 8, none⟩ = some (.int .i64 a0_8) := (blk_cell BK692.out 8).trans rfl; have hcz29_9 : w28.cell? ⟨gb692, 9, none⟩ = some (.int .i64 a0_9) := (blk_cell BK692.out 9).trans rfl; have hcz29_10 : w28.cell? ⟨gb692, 10, none⟩ = some (.bool a0_10) := (blk_cell BK692.out 10).trans rfl; have hcz29_11 : w28.cell? ⟨gb692, 11, none⟩ = some (.int .i64 a0_11) := (blk_cell BK692.out 11).trans rfl; have hcz29_12 : w28.cell? ⟨gb692, 12, none⟩ = some (.string a0_12) := (blk_cell BK692.out 12).trans rfl; have hcz29_13 : w28.cell? ⟨gb692, 13, none⟩ = some (.string a0_13) := (blk_cell BK692.out 13).trans rfl; have hfz29_0 := blk_frozen BK692.out 0; have hfz29_1 := blk_frozen BK692.out 1; have hfz29_2 := blk_frozen BK692.out 2; have hfz29_3 := blk_frozen BK692.out 3; have hfz29_4 := blk_frozen BK692.out 4; have hfz29_5 := blk_frozen BK692.out 5; have hfz29_6 := blk_frozen BK692.out 6; have hfz29_7 := blk_frozen BK692.out 7; have hfz29_8 := blk_frozen BK692.out 8; have hfz29_9 := blk_frozen BK692.out 9; have hfz29_10 := blk_frozen BK692.out 10; have hfz29_11 := blk_frozen BK692.out 11; have hfz29_12 := blk_frozen BK692.out 12; have hfz29_13 := blk_frozen BK692.out 13; have hcz30_0 : w28.cell? ⟨gb693, 0, none⟩ = some (.string a1_0) := (blk_cell BK693.out 0).trans rfl; have hcz30_1 : w28.cell? ⟨gb693, 1, none⟩ = some (.int .i64 a1_1) := (blk_cell BK693.out 1).trans rfl; have hcz30_2 : w28.cell? ⟨gb693, 2, none⟩ = some (.slice A1_2 l1_2.length c1_2) := (blk_cell BK693.out 2).trans rfl; have hcz30_3 : w28.cell? ⟨gb693, 3, none⟩ = some (.slice A1_3 l1_3.length c1_3) := (blk_cell BK693.out 3).trans rfl; have hcz30_4 : w28.cell? ⟨gb693, 4, none⟩ = some (.string a1_4) := (blk_cell BK693.out 4).trans rfl; have hcz30_5 : w28.cell? ⟨gb693, 5, none⟩ = some (.string a1_5) := (blk_cell BK693.out 5).trans rfl; have hcz30_6 : w28.cell? ⟨gb693, 6, none⟩ = some (.string a1_6) := (blk_cell BK693.out 6).trans rfl; have hcz30_7 : w28.cell? ⟨gb693, 7, none⟩ = some (.int .i64 a1_7) := (blk_cell BK693.out 7).trans rfl; have hcz30_8 : w28.cell? ⟨gb693, 8, none⟩ = some (.int .i64 a1_8) := (blk_cell BK693.out 8).trans rfl; have hcz30_9 : w28.cell? ⟨gb693, 9, none⟩ = some (.int .i64 a1_9) := (blk_cell BK693.out 9).trans rfl; have hcz30_10 : w28.cell? ⟨gb693, 10, none⟩ = some (.bool a1_10) := (blk_cell BK693.out 10).trans rfl; have hcz30_11 : w28.cell? ⟨gb693, 11, none⟩ = some (.int .i64 a1_11) := (blk_cell BK693.out 11).trans rfl; have hcz30_12 : w28.cell? ⟨gb693, 12, none⟩ = some (.string a1_12) := (blk_cell BK693.out 12).trans rfl; have hcz30_13 : w28.cell? ⟨gb693, 13, none⟩ = some (.string a1_13) := (blk_cell BK693.out 13).trans rfl; have hfz30_0 := blk_frozen BK693.out 0; have hfz30_1 := blk_frozen BK693.out 1; have hfz30_2 := blk_frozen BK693.out 2; have hfz30_3 := blk_frozen BK693.out 3; have hfz30_4 := blk_frozen BK693.out 4; have hfz30_5 := blk_frozen BK693.out 5; have hfz30_6 := blk_frozen BK693.out 6; have hfz30_7 := blk_frozen BK693.out 7; have hfz30_8 := blk_frozen BK693.out 8; have hfz30_9 := blk_frozen BK693.out 9; have hfz30_10 := blk_frozen BK693.out 10; have hfz30_11 := blk_frozen BK693.out 11; have hfz30_12 := blk_frozen BK693.out 12; have hfz30_13 := blk_frozen BK693.out 13))
  go_ret
  exact ax12) : P := h
set_option maxHeartbeats 8000000 in
set_option maxRecDepth 100000 in
theorem laws_eqEntry.calls (k : Nat) (a0_0 : ByteArray) (a0_1 : Int) (A0_2 : Option Addr) (c0_2 : Nat) (l0_2 : List (S34)) (A0_3 : Option Addr) (c0_3 : Nat) (l0_3 : List (S34)) (a0_4 : ByteArray) (a0_5 : ByteArray) (a0_6 : ByteArray) (a0_7 : Int) (a0_8 : Int) (a0_9 : Int) (a0_10 : Bool) (a0_11 : Int) (a0_12 : ByteArray) (a0_13 : ByteArray) (a1_0 : ByteArray) (a1_1 : Int) (A1_2 : Option Addr) (c1_2 : Nat) (l1_2 : List (S34)) (A1_3 : Option Addr) (c1_3 : Nat) (l1_3 : List (S34)) (a1_4 : ByteArray) (a1_5 : ByteArray) (a1_6 : ByteArray) (a1_7 : Int) (a1_8 : Int) (a1_9 : Int) (a1_10 : Bool) (a1_11 : Int) (a1_12 : ByteArray) (a1_13 : ByteArray) (r : Bool) (w : World) (hr0_2 : Kd.C k34 w A0_2 l0_2.length l0_2) (hc0_2 : l0_2.length ≤ c0_2) (hr0_3 : Kd.C k34 w A0_3 l0_3.length l0_3) (hc0_3 : l0_3.length ≤ c0_3) (hr1_2 : Kd.C k34 w A1_2 l1_2.length l1_2) (hc1_2 : l1_2.length ≤ c1_2) (hr1_3 : Kd.C k34 w A1_3 l1_3.length l1_3) (hc1_3 : l1_3.length ≤ c1_3) (h : laws_eqEntry.f k a0_0 a0_1 l0_2 l0_3 a0_4 a0_5 a0_6 a0_7 a0_8 a0_9 a0_10 a0_11 a0_12 a0_13 a1_0 a1_1 l1_2 l1_3 a1_4 a1_5 a1_6 a1_7 a1_8 a1_9 a1_10 a1_11 a1_12 a1_13 = some r) :
  Calls Tryd.prog 45 #[.agg #[.string a0_0, .int .i64 a0_1, .slice A0_2 l0_2.length c0_2, .slice A0_3 l0_3.length c0_3, .string a0_4, .string a0_5, .string a0_6, .int .i64 a0_7, .int .i64 a0_8, .int .i64 a0_9, .bool a0_10, .int .i64 a0_11, .string a0_12, .string a0_13], .agg #[.string a1_0, .int .i64 a1_1, .slice A1_2 l1_2.length c1_2, .slice A1_3 l1_3.length c1_3, .string a1_4, .string a1_5, .string a1_6, .int .i64 a1_7, .int .i64 a1_8, .int .i64 a1_9, .bool a1_10, .int .i64 a1_11, .string a1_12, .string a1_13]] w fun e w' => e = .returned (.bool r) ∧ Below w.heap.size w w' := by
 have hu65 := Tryd.underlying65
 have hu63 := Tryd.underlying63
 have HR0_2 := Aside0.mk hr0_2
 have HC0_2 := Aside0.mk hc0_2
 clear hr0_2 hc0_2
 have HR0_3 := Aside0.mk hr0_3
 have HC0_3 := Aside0.mk hc0_3
 clear hr0_3 hc0_3
 have HR1_2 := Aside0.mk hr1_2
 have HC1_2 := Aside0.mk hc1_2
 clear hr1_2 hc1_2
 have HR1_3 := Aside0.mk hr1_3
 have HC1_3 := Aside0.mk hc1_3
 clear hr1_3 hc1_3
 have HB := Aside0.mk (Below.refl w.heap.size w)
 have H : (if a0_0.toList = a1_0.toList then (if a0_1 = a1_1 then ((laws_eqNameS.f k l0_2 l1_2).bind fun t694 => (if t694 = true then ((laws_eqNameS.f k l0_3 l1_3).bind fun t695 => (if t695 = true then (if a0_4.toList = a1_4.toList then (if a0_5.toList = a1_5.toList then (if a0_6.toList = a1_6.toList then ((laws_eqDate.f a0_7 a0_8 a0_9 a0_10 a1_7 a1_8 a1_9 a1_10).bind fun t696 => (if t696 = true then (if a0_11 = a1_11 then (if a0_12.toList = a1_12.toList then (if a0_13.toList = a1_13.toList then (some true) else (some false)) else (some false)) else (some false)) else (some false))) else (some false)) else (some false)) else (some false)) else (some false))) else (some false))) else (some false)) else (some false)) = some r := h
 clear h
 by_cases c3 : a0_0.toList = a1_0.toList
 ·
  rw [if_pos c3] at H
  have c3b0 : (a0_0.toList == a1_0.toList) = true := beq_iff_eq.mpr c3
  have c3b1 : (a0_0.toList != a1_0.toList) = false := bne_eq_false_iff_eq.mpr c3
  clear c3
  by_cases c4 : a0_1 = a1_1
  ·
   rw [if_pos c4] at H
   have c4b0 : (a0_1 == a1_1) = true := beq_iff_eq.mpr c4
   have c4b1 : (a0_1 != a1_1) = false := bne_eq_false_iff_eq.mpr c4
   clear c4
   replace H := Option.bind_eq_some_iff.mp H
   obtain ⟨t694, A50, H⟩ := H
   try dsimp only at H
   have A5 := Aside0.mk A50
   clear A50
   by_cases c6 : t694 = true
   ·
    subst c6
    replace H := (if_pos rfl).symm.trans H
    replace H := Option.bind_eq_some_iff.mp H
    obtain ⟨t695, A70, H⟩ := H
    try dsimp only at H
    have A7 := Aside0.mk A70
    clear A70
    by_cases c8 : t695 = true
    ·
     subst c8
     replace H := (if_pos rfl).symm.trans H
     by_cases c9 : a0_4.toList = a1_4.toList
     ·
      rw [if_pos c9] at H
      have c9b0 : (a0_4.toList == a1_4.toList) = true := beq_iff_eq.mpr c9
      have c9b1 : (a0_4.toList != a1_4.toList) = false := bne_eq_false_iff_eq.mpr c9
      clear c9
      by_cases c10 : a0_5.toList = a1_5.toList
      ·
       rw [if_pos c10] at H
       have c10b0 : (a0_5.toList == a1_5.toList) = true := beq_iff_eq.mpr c10
       have c10b1 : (a0_5.toList != a1_5.toList) = false := bne_eq_false_iff_eq.mpr c10
       clear c10
       by_cases c11 : a0_6.toList = a1_6.toList
       ·
        rw [if_pos c11] at H
        have c11b0 : (a0_6.toList == a1_6.toList) = true := beq_iff_eq.mpr c11
        have c11b1 : (a0_6.toList != a1_6.toList) = false := bne_eq_false_iff_eq.mpr c11
        clear c11
        replace H := Option.bind_eq_some_iff.mp H
        obtain ⟨t696, A120, H⟩ := H
        try dsimp only at H
        have A12 := Aside0.mk A120
        clear A120
        by_cases c13 : t696 = true
        ·
         subst c13
         replace H := (if_pos rfl).symm.trans H
         by_cases c14 : a0_11 = a1_11
         ·
          rw [if_pos c14] at H
          have c14b0 : (a0_11 == a1_11) = true := beq_iff_eq.mpr c14
          have c14b1 : (a0_11 != a1_11) = false := bne_eq_false_iff_eq.mpr c14
          clear c14
          by_cases c15 : a0_12.toList = a1_12.toList
          ·
           rw [if_pos c15] at H
           have c15b0 : (a0_12.toList == a1_12.toList) = true := beq_iff_eq.mpr c15
           have c15b1 : (a0_12.toList != a1_12.toList) = false := bne_eq_false_iff_eq.mpr c15
           clear c15
           by_cases c16 : a0_13.toList = a1_13.toList
           ·
            rw [if_pos c16] at H
            have c16b0 : (a0_13.toList == a1_13.toList) = true := beq_iff_eq.mpr c16
            have c16b1 : (a0_13.toList != a1_13.toList) = false := bne_eq_false_iff_eq.mpr c16
            clear c16
            obtain rfl := Option.some.inj H
            exact laws_eqEntry.L0
           ·
            rw [if_neg c16] at H
            have c16b0 : (a0_13.toList == a1_13.toList) = false := beq_eq_false_iff_ne.mpr c16
            have c16b1 : (a0_13.toList != a1_13.toList) = true := bne_iff_ne.mpr c16
            obtain rfl := Option.some.inj H
            exact laws_eqEntry.L0
          ·
           rw [if_neg c15] at H
           have c15b0 : (a0_12.toList == a1_12.toList) = false := beq_eq_false_iff_ne.mpr c15
           have c15b1 : (a0_12.toList != a1_12.toList) = true := bne_iff_ne.mpr c15
           obtain rfl := Option.some.inj H
           exact laws_eqEntry.L0
         ·
          rw [if_neg c14] at H
          have c14b0 : (a0_11 == a1_11) = false := beq_eq_false_iff_ne.mpr c14
          have c14b1 : (a0_11 != a1_11) = true := bne_iff_ne.mpr c14
          obtain rfl := Option.some.inj H
          exact laws_eqEntry.L0
        ·
         replace c13 := Bool.eq_false_iff.mpr c13
         subst c13
         replace H := (if_neg (show ¬ (false = true) by decide)).symm.trans H
         obtain rfl := Option.some.inj H
         go_enter Tryd.func45, Tryd.ntmps45
         go_wp2_with (first | ((with_reducible refine gate_dst (N := 2) rfl ?_); refine box_event ?hg (N := 2) ?hd (cs := #[.string a0_0, .int .i64 a0_1, .slice A0_2 l0_2.length c0_2, .slice A0_3 l0_3.length c0_3, .string a0_4, .string a0_5, .string a0_6, .int .i64 a0_7, .int .i64 a0_8, .int .i64 a0_9, .bool a0_10, .int .i64 a0_11, .string a0_12, .string a0_13]) (t := 65) ?hr ?_; (case hd => rfl); (case hg => rfl); (case hr => first | (go_simp; done) | (go_simp; rfl)); intro gb692 hg w73 hbox hb; have n0_ := Aside0.mk (below_step au31 hb); have n1_ := Aside0.mk (hbox); have n2_ := Aside0.mk ((by rw [hg]; exact (below_size au31) : w.heap.size ≤ gb692)); have n3_ := Aside0.mk ((by rw [hg]; exact (below_size au31) : w.heap.size ≤ gb692)); clear HB; have HB := n0_; have BK692 := n1_; have GW692 := n2_; have GE692 := n3_; clear n0_ n1_ n2_ n3_; clear hb hbox hg) | ((with_reducible refine gate_dst (N := 3) rfl ?_); refine box_event ?hg (N := 3) ?hd (cs := #[.string a1_0, .int .i64 a1_1, .slice A1_2 l1_2.length c1_2, .slice A1_3 l1_3.length c1_3, .string a1_4, .string a1_5, .string a1_6, .int .i64 a1_7, .int .i64 a1_8, .int .i64 a1_9, .bool a1_10, .int .i64 a1_11, .string a1_12, .string a1_13]) (t := 65) ?hr ?_; (case hd => rfl); (case hg => rfl); (case hr => first | (go_simp; done) | (go_simp; rfl)); intro gb693 hg w74 hbox hb; have n0_ := Aside0.mk (blk_below (g := gb692) (o := .cells #[.string a0_0, .int .i64 a0_1, .slice A0_2 l0_2.length c0_2, .slice A0_3 l0_3.length c0_3, .string a0_4, .string a0_5, .string a0_6, .int .i64 a0_7, .int .i64 a0_8, .int .i64 a0_9, .bool a0_10, .int .i64 a0_11, .string a0_12, .string a0_13] 65 (0, 0)) au51 hb); have n1_ := Aside0.mk (below_step au27 hb); have n2_ := Aside0.mk (hbox); have n3_ := Aside0.mk ((by rw [hg]; exact (below_size au27) : w.heap.size ≤ gb693)); have n4_ := Aside0.mk ((by rw [hg]; exact (below_size au27) : w.heap.size ≤ gb693)); have n5_ := Aside0.mk ((by rw [hg]; exact Nat.ne_of_lt (blk_lt (g := gb692) (o := .cells #[.string a0_0, .int .i64 a0_1, .slice A0_2 l0_2.length c0_2, .slice A0_3 l0_3.length c0_3, .string a0_4, .string a0_5, .string a0_6, .int .i64 a0_7, .int .i64 a0_8, .int .i64 a0_9, .bool a0_10, .int .i64 a0_11, .string a0_12, .string a0_13] 65 (0, 0)) au51) : gb692 ≠ gb693)); have n6_ := Aside0.mk ((by rw [hg]; exact Nat.ne_of_gt (blk_lt (g := gb692) (o := .cells #[.string a0_0, .int .i64 a0_1, .slice A0_2 l0_2.length c0_2, .slice A0_3 l0_3.length c0_3, .string a0_4, .string a0_5, .string a0_6, .int .i64 a0_7, .int .i64 a0_8, .int .i64 a0_9, .bool a0_10, .int .i64 a0_11, .string a0_12, .string a0_13] 65 (0, 0)) au51) : gb693 ≠ gb692)); clear BK692; clear HB; have BK692 := n0_; have HB := n1_; have BK693 := n2_; have GW693 := n3_; have GE693 := n4_; have NB692_693 := n5_; have NB693_692 := n6_; clear n0_ n1_ n2_ n3_ n4_ n5_ n6_; clear hb hbox hg; have hnb75 := NB692_693.out; have hnc75 := NB693_692.out; have hcz76_0 : w74.cell? ⟨gb692, 0, none⟩ = some (.string a0_0) := (blk_cell BK692.out 0).trans rfl; have hcz76_1 : w74.cell? ⟨gb692, 1, none⟩ = some (.int .i64 a0_1) := (blk_cell BK692.out 1).trans rfl; have hcz76_2 : w74.cell? ⟨gb692, 2, none⟩ = some (.slice A0_2 l0_2.length c0_2) := (blk_cell BK692.out 2).trans rfl; have hcz76_3 : w74.cell? ⟨gb692, 3, none⟩ = some (.slice A0_3 l0_3.length c0_3) := (blk_cell BK692.out 3).trans rfl; have hcz76_4 : w74.cell? ⟨gb692, 4, none⟩ = some (.string a0_4) := (blk_cell BK692.out 4).trans rfl; have hcz76_5 : w74.cell? ⟨gb692, 5, none⟩ = some (.string a0_5) := (blk_cell BK692.out 5).trans rfl; have hcz76_6 : w74.cell? ⟨gb692, 6, none⟩ = some (.string a0_6) := (blk_cell BK692.out 6).trans rfl; have hcz76_7 : w74.cell? ⟨gb692, 7, none⟩ = some (.int .i64 a0_7) := (blk_cell BK692.out 7).trans rfl; have hcz76_8 : w74.cell? ⟨gb692, 8, none⟩ = some (.int .i64 a0_8) := (blk_cell BK692.out 8).trans rfl; have hcz76_9 : w74.cell? ⟨gb692, 9, none⟩ = some (.int .i64 a0_9) := (blk_cell BK692.out 9).trans rfl; have hcz76_10 : w74.cell? ⟨gb692, 10, none⟩ = some (.bool a0_10) := (blk_cell BK692.out 10).trans rfl; have hcz76_11 : w74.cell? ⟨gb692, 11, none⟩ = some (.int .i64 a0_11) := (blk_cell BK692.out 11).trans rfl; have hcz76_12 : w74.cell? ⟨gb692, 12, none⟩ = some (.string a0_12) := (blk_cell BK692.out 12).trans rfl; have hcz76_13 : w74.cell? ⟨gb692, 13, none⟩ = some (.string a0_13) := (blk_cell BK692.out 13).trans rfl; have hfz76_0 := blk_frozen BK692.out 0; have hfz76_1 := blk_frozen BK692.out 1; have hfz76_2 := blk_frozen BK692.out 2; have hfz76_3 := blk_frozen BK692.out 3; have hfz76_4 := blk_frozen BK692.out 4; have hfz76_5 := blk_frozen BK692.out 5; have hfz76_6 := blk_frozen BK692.out 6; have hfz76_7 := blk_frozen BK692.out 7; have hfz76_8 := blk_frozen BK692.out 8; have hfz76_9 := blk_frozen BK692.out 9; have hfz76_10 := blk_frozen BK692.out 10; have hfz76_11 := blk_frozen BK692.out 11; have hfz76_12 := blk_frozen BK692.out 12; have hfz76_13 := blk_frozen BK692.out 13; have hcz77_0 : w74.cell? ⟨gb693, 0, none⟩ = some (.string a1_0) := (blk_cell BK693.out 0).trans rfl; have hcz77_1 : w74.cell? ⟨gb693, 1, none⟩ = some (.int .i64 a1_1) := (blk_cell BK693.out 1).trans rfl; have hcz77_2 : w74.cell? ⟨gb693, 2, none⟩ = some (.slice A1_2 l1_2.length c1_2) := (blk_cell BK693.out 2).trans rfl; have hcz77_3 : w74.cell? ⟨gb693, 3, none⟩ = some (.slice A1_3 l1_3.length c1_3) := (blk_cell BK693.out 3).trans rfl; have hcz77_4 : w74.cell? ⟨gb693, 4, none⟩ = some (.string a1_4) := (blk_cell BK693.out 4).trans rfl; have hcz77_5 : w74.cell? ⟨gb693, 5, none⟩ = some (.string a1_5) := (blk_cell BK693.out 5).trans rfl; have hcz77_6 : w74.cell? ⟨gb693, 6, none⟩ = some (.string a1_6) := (blk_cell BK693.out 6).trans rfl; have hcz77_7 : w74.cell? ⟨gb693, 7, none⟩ = some (.int .i64 a1_7) := (blk_cell BK693.out 7).trans rfl; have hcz77_8 : w74.cell? ⟨gb693, 8, none⟩ = some (.int .i64 a1_8) := (blk_cell BK693.out 8).trans rfl; have hcz77_9 : w74.cell? ⟨gb693, 9, none⟩ = some (.int .i64 a1_9) := (blk_cell BK693.out 9).trans rfl; have hcz77_10 : w74.cell? ⟨gb693, 10, none⟩ = some (.bool a1_10) := (blk_cell BK693.out 10).trans rfl; have hcz77_11 : w74.cell? ⟨gb693, 11, none⟩ = some (.int .i64 a1_11) := (blk_cell BK693.out 11).trans rfl; have hcz77_12 : w74.cell? ⟨gb693, 12, none⟩ = some (.string a1_12) := (blk_cell BK693.out 12).trans rfl; have hcz77_13 : w74.cell? ⟨gb693, 13, none⟩ = some (.string a1_13) := (blk_cell BK693.out 13).trans rfl; have hfz77_0 := blk_frozen BK693.out 0; have hfz77_1 := blk_frozen BK693.out 1; have hfz77_2 := blk_frozen BK693.out 2; have hfz77_3 := blk_frozen BK693.out 3; have hfz77_4 := blk_frozen BK693.out 4; have hfz77_5 := blk_frozen BK693.out 5; have hfz77_6 := blk_frozen BK693.out 6; have hfz77_7 := blk_frozen BK693.out 7; have hfz77_8 := blk_frozen BK693.out 8; have hfz77_9 := blk_frozen BK693.out 9; have hfz77_10 := blk_frozen BK693.out 10; have hfz77_11 := blk_frozen BK693.out 11; have hfz77_12 := blk_frozen BK693.out 12; have hfz77_13 := blk_frozen BK693.out 13) | ((with_reducible refine gate_callee (f := 16) rfl ?_); refine goesL_ (some 19) rfl rfl Tryd.func16 (by kernel_rfl) rfl #[.slice A0_2 l0_2.length c0_2, .slice A1_2 l1_2.length c1_2] rfl au30 ?_; (with_reducible refine (laws_eqNameS.calls k _ _ l0_2 _ _ l1_2 _ _ ?side1 ?side2 ?side3 ?side4 A5.out).mono ?_); (case side1 => repeat (first | exact (Kd.C_below HR0_2.out HB.out) | (with_reducible refine Kd.C_alloc ?_ _) | (with_reducible refine Kd.C_drewN ?_ _) | (with_reducible refine Kd.C_drew ?_))); (case side2 => exact HC0_2.out); (case side3 => repeat (first | exact (Kd.C_below HR1_2.out HB.out) | (with_reducible refine Kd.C_alloc ?_ _) | (with_reducible refine Kd.C_drewN ?_ _) | (with_reducible refine Kd.C_drew ?_))); (case side4 => exact HC1_2.out); rintro e w78 ⟨rfl, hb⟩; refine ⟨_, rfl, ?_⟩; have n0_ := Aside0.mk (blk_below (g := gb692) (o := .cells #[.string a0_0, .int .i64 a0_1, .slice A0_2 l0_2.length c0_2, .slice A0_3 l0_3.length c0_3, .string a0_4, .string a0_5, .string a0_6, .int .i64 a0_7, .int .i64 a0_8, .int .i64 a0_9, .bool a0_10, .int .i64 a0_11, .string a0_12, .string a0_13] 65 (0, 0)) au51 hb); have n1_ := Aside0.mk (blk_below (g := gb693) (o := .cells #[.string a1_0, .int .i64 a1_1, .slice A1_2 l1_2.length c1_2, .slice A1_3 l1_3.length c1_3, .string a1_4, .string a1_5, .string a1_6, .int .i64 a1_7, .int .i64 a1_8, .int .i64 a1_9, .bool a1_10, .int .i64 a1_11, .string a1_12, .string a1_13] 65 (0, 0)) au52 hb); have n2_ := Aside0.mk (below_step au11 hb); clear BK692; clear BK693; clear HB; have BK692 := n0_; have BK693 := n1_; have HB := n2_; clear n0_ n1_ n2_; (try clear hb); (try clear hb2); (try clear hk); (try clear hi); have hcz79_0 : w78.cell? ⟨gb692, 0, none⟩ = some (.string a0_0) := (blk_cell BK692.out 0).trans rfl; have hcz79_1 : w78.cell? ⟨gb692, 1, none⟩ = some (.int .i64 a0_1) := (blk_cell BK692.out 1).trans rfl; have hcz79_2 : w78.cell? ⟨gb692, 2, none⟩ = some (.slice A0_2 l0_2.length c0_2) := (blk_cell BK692.out 2).trans rfl; have hcz79_3 : w78.cell? ⟨gb692, 3, none⟩ = some (.slice A0_3 l0_3.length c0_3) := (blk_cell BK692.out 3).trans rfl; have hcz79_4 : w78.cell? ⟨gb692, 4, none⟩ = some (.string a0_4) := (blk_cell BK692.out 4).trans rfl; have hcz79_5 : w78.cell? ⟨gb692, 5, none⟩ = some (.string a0_5) := (blk_cell BK692.out 5).trans rfl; have hcz79_6 : w78.cell? ⟨gb692, 6, none⟩ = some (.string a0_6) := (blk_cell BK692.out 6).trans rfl; have hcz79_7 : w78.cell? ⟨gb692, 7, none⟩ = some (.int .i64 a0_7) := (blk_cell BK692.out 7).trans rfl; have hcz79_8 : w78.cell? ⟨gb692, 8, none⟩ = some (.int .i64 a0_8) := (blk_cell BK692.out 8).trans rfl; have hcz79_9 : w78.cell? ⟨gb692, 9, none⟩ = some (.int .i64 a0_9) := (blk_cell BK692.out 9).trans rfl; have hcz79_10 : w78.cell? ⟨gb692, 10, none⟩ = some (.bool a0_10) := (blk_cell BK692.out 10).trans rfl; have hcz79_11 : w78.cell? ⟨gb692, 11, none⟩ = some (.int .i64 a0_11) := (blk_cell BK692.out 11).trans rfl; have hcz79_12 : w78.cell? ⟨gb692, 12, none⟩ = some (.string a0_12) := (blk_cell BK692.out 12).trans rfl; have hcz79_13 : w78.cell? ⟨gb692, 13, none⟩ = some (.string a0_13) := (blk_cell BK692.out 13).trans rfl; have hfz79_0 := blk_frozen BK692.out 0; have hfz79_1 := blk_frozen BK692.out 1; have hfz79_2 := blk_frozen BK692.out 2; have hfz79_3 := blk_frozen BK692.out 3; have hfz79_4 := blk_frozen BK692.out 4; have hfz79_5 := blk_frozen BK692.out 5; have hfz79_6 := blk_frozen BK692.out 6; have hfz79_7 := blk_frozen BK692.out 7; have hfz79_8 := blk_frozen BK692.out 8; have hfz79_9 := blk_frozen BK692.out 9; have hfz79_10 := blk_frozen BK692.out 10; have hfz79_11 := blk_frozen BK692.out 11; have hfz79_12 := blk_frozen BK692.out 12; have hfz79_13 := blk_frozen BK692.out 13; have hcz80_0 : w78.cell? ⟨gb693, 0, none⟩ = some (.string a1_0) := (blk_cell BK693.out 0).trans rfl; have hcz80_1 : w78.cell? ⟨gb693, 1, none⟩ = some (.int .i64 a1_1) := (blk_cell BK693.out 1).trans rfl; have hcz80_2 : w78.cell? ⟨gb693, 2, none⟩ = some (.slice A1_2 l1_2.length c1_2) := (blk_cell BK693.out 2).trans rfl; have hcz80_3 : w78.cell? ⟨gb693, 3, none⟩ = some (.slice A1_3 l1_3.length c1_3) := (blk_cell BK693.out 3).trans rfl; have hcz80_4 : w78.cell? ⟨gb693, 4, none⟩ = some (.string a1_4) := (blk_cell BK693.out 4).trans rfl; have hcz80_5 : w78.cell? ⟨gb693, 5, none⟩ = some (.string a1_5) := (blk_cell BK693.out 5).trans rfl; have hcz80_6 : w78.cell? ⟨gb693, 6, none⟩ = some (.string a1_6) := (blk_cell BK693.out 6).trans rfl; have hcz80_7 : w78.cell? ⟨gb693, 7, none⟩ = some (.int .i64 a1_7) := (blk_cell BK693.out 7).trans rfl; have hcz80_8 : w78.cell? ⟨gb693, 8, none⟩ = some (.int .i64 a1_8) := (blk_cell BK693.out 8).trans rfl; have hcz80_9 : w78.cell? ⟨gb693, 9, none⟩ = some (.int .i64 a1_9) := (blk_cell BK693.out 9).trans rfl; have hcz80_10 : w78.cell? ⟨gb693, 10, none⟩ = some (.bool a1_10) := (blk_cell BK693.out 10).trans rfl; have hcz80_11 : w78.cell? ⟨gb693, 11, none⟩ = some (.int .i64 a1_11) := (blk_cell BK693.out 11).trans rfl; have hcz80_12 : w78.cell? ⟨gb693, 12, none⟩ = some (.string a1_12) := (blk_cell BK693.out 12).trans rfl; have hcz80_13 : w78.cell? ⟨gb693, 13, none⟩ = some (.string a1_13) := (blk_cell BK693.out 13).trans rfl; have hfz80_0 := blk_frozen BK693.out 0; have hfz80_1 := blk_frozen BK693.out 1; have hfz80_2 := blk_frozen BK693.out 2; have hfz80_3 := blk_frozen BK693.out 3; have hfz80_4 := blk_frozen BK693.out 4; have hfz80_5 := blk_frozen BK693.out 5; have hfz80_6 := blk_frozen BK693.out 6; have hfz80_7 := blk_frozen BK693.out 7; have hfz80_8 := blk_frozen BK693.out 8; have hfz80_9 := blk_frozen BK693.out 9; have hfz80_10 := blk_frozen BK693.out 10; have hfz80_11 := blk_frozen BK693.out 11; have hfz80_12 := blk_frozen BK693.out 12; have hfz80_13 := blk_frozen BK693.out 13) | ((with_reducible refine gate_callee (f := 16) rfl ?_); refine goesL_ (some 25) rfl rfl Tryd.func16 (by kernel_rfl) rfl #[.slice A0_3 l0_3.length c0_3, .slice A1_3 l1_3.length c1_3] rfl au30 ?_; (with_reducible refine (laws_eqNameS.calls k _ _ l0_3 _ _ l1_3 _ _ ?side1 ?side2 ?side3 ?side4 A7.out).mono ?_); (case side1 => repeat (first | exact (Kd.C_below HR0_3.out HB.out) | (with_reducible refine Kd.C_alloc ?_ _) | (with_reducible refine Kd.C_drewN ?_ _) | (with_reducible refine Kd.C_drew ?_))); (case side2 => exact HC0_3.out); (case side3 => repeat (first | exact (Kd.C_below HR1_3.out HB.out) | (with_reducible refine Kd.C_alloc ?_ _) | (with_reducible refine Kd.C_drewN ?_ _) | (with_reducible refine Kd.C_drew ?_))); (case side4 => exact HC1_3.out); rintro e w81 ⟨rfl, hb⟩; refine ⟨_, rfl, ?_⟩; have n0_ := Aside0.mk (blk_below (g := gb692) (o := .cells #[.string a0_0, .int .i64 a0_1, .slice A0_2 l0_2.length c0_2, .slice A0_3 l0_3.length c0_3, .string a0_4, .string a0_5, .string a0_6, .int .i64 a0_7, .int .i64 a0_8, .int .i64 a0_9, .bool a0_10, .int .i64 a0_11, .string a0_12, .string a0_13] 65 (0, 0)) au51 hb); have n1_ := Aside0.mk (blk_below (g := gb693) (o := .cells #[.string a1_0, .int .i64 a1_1, .slice A1_2 l1_2.length c1_2, .slice A1_3 l1_3.length c1_3, .string a1_4, .string a1_5, .string a1_6, .int .i64 a1_7, .int .i64 a1_8, .int .i64 a1_9, .bool a1_10, .int .i64 a1_11, .string a1_12, .string a1_13] 65 (0, 0)) au52 hb); have n2_ := Aside0.mk (below_step au11 hb); clear BK692; clear BK693; clear HB; have BK692 := n0_; have BK693 := n1_; have HB := n2_; clear n0_ n1_ n2_; (try clear hb); (try clear hb2); (try clear hk); (try clear hi); have hcz82_0 : w81.cell? ⟨gb692, 0, none⟩ = some (.string a0_0) := (blk_cell BK692.out 0).trans rfl; have hcz82_1 : w81.cell? ⟨gb692, 1, none⟩ = some (.int .i64 a0_1) := (blk_cell BK692.out 1).trans rfl; have hcz82_2 : w81.cell? ⟨gb692, 2, none⟩ = some (.slice A0_2 l0_2.length c0_2) := (blk_cell BK692.out 2).trans rfl; have hcz82_3 : w81.cell? ⟨gb692, 3, none⟩ = some (.slice A0_3 l0_3.length c0_3) := (blk_cell BK692.out 3).trans rfl; have hcz82_4 : w81.cell? ⟨gb692, 4, none⟩ = some (.string a0_4) := (blk_cell BK692.out 4).trans rfl; have hcz82_5 : w81.cell? ⟨gb692, 5, none⟩ = some (.string a0_5) := (blk_cell BK692.out 5).trans rfl; have hcz82_6 : w81.cell? ⟨gb692, 6, none⟩ = some (.string a0_6) := (blk_cell BK692.out 6).trans rfl; have hcz82_7 : w81.cell? ⟨gb692, 7, none⟩ = some (.int .i64 a0_7) := (blk_cell BK692.out 7).trans rfl; have hcz82_8 : w81.cell? ⟨gb692, 8, none⟩ = some (.int .i64 a0_8) := (blk_cell BK692.out 8).trans rfl; have hcz82_9 : w81.cell? ⟨gb692, 9, none⟩ = some (.int .i64 a0_9) := (blk_cell BK692.out 9).trans rfl; have hcz82_10 : w81.cell? ⟨gb692, 10, none⟩ = some (.bool a0_10) := (blk_cell BK692.out 10).trans rfl; have hcz82_11 : w81.cell? ⟨gb692, 11, none⟩ = some (.int .i64 a0_11) := (blk_cell BK692.out 11).trans rfl; have hcz82_12 : w81.cell? ⟨gb692, 12, none⟩ = some (.string a0_12) := (blk_cell BK692.out 12).trans rfl; have hcz82_13 : w81.cell? ⟨gb692, 13, none⟩ = some (.string a0_13) := (blk_cell BK692.out 13).trans rfl; have hfz82_0 := blk_frozen BK692.out 0; have hfz82_1 := blk_frozen BK692.out 1; have hfz82_2 := blk_frozen BK692.out 2; have hfz82_3 := blk_frozen BK692.out 3; have hfz82_4 := blk_frozen BK692.out 4; have hfz82_5 := blk_frozen BK692.out 5; have hfz82_6 := blk_frozen BK692.out 6; have hfz82_7 := blk_frozen BK692.out 7; have hfz82_8 := blk_frozen BK692.out 8; have hfz82_9 := blk_frozen BK692.out 9; have hfz82_10 := blk_frozen BK692.out 10; have hfz82_11 := blk_frozen BK692.out 11; have hfz82_12 := blk_frozen BK692.out 12; have hfz82_13 := blk_frozen BK692.out 13; have hcz83_0 : w81.cell? ⟨gb693, 0, none⟩ = some (.string a1_0) := (blk_cell BK693.out 0).trans rfl; have hcz83_1 : w81.cell? ⟨gb693, 1, none⟩ = some (.int .i64 a1_1) := (blk_cell BK693.out 1).trans rfl; have hcz83_2 : w81.cell? ⟨gb693, 2, none⟩ = some (.slice A1_2 l1_2.length c1_2) := (blk_cell BK693.out 2).trans rfl; have hcz83_3 : w81.cell? ⟨gb693, 3, none⟩ = some (.slice A1_3 l1_3.length c1_3) := (blk_cell BK693.out 3).trans rfl; have hcz83_4 : w81.cell? ⟨gb693, 4, none⟩ = some (.string a1_4) := (blk_cell BK693.out 4).trans rfl; have hcz83_5 : w81.cell? ⟨gb693, 5, none⟩ = some (.string a1_5) := (blk_cell BK693.out 5).trans rfl; have hcz83_6 : w81.cell? ⟨gb693, 6, none⟩ = some (.string a1_6) := (blk_cell BK693.out 6).trans rfl; have hcz83_7 : w81.cell? ⟨gb693, 7, none⟩ = some (.int .i64 a1_7) := (blk_cell BK693.out 7).trans rfl; have hcz83_8 : w81.cell? ⟨gb693, 8, none⟩ = some (.int .i64 a1_8) := (blk_cell BK693.out 8).trans rfl; have hcz83_9 : w81.cell? ⟨gb693, 9, none⟩ = some (.int .i64 a1_9) := (blk_cell BK693.out 9).trans rfl; have hcz83_10 : w81.cell? ⟨gb693, 10, none⟩ = some (.bool a1_10) := (blk_cell BK693.out 10).trans rfl; have hcz83_11 : w81.cell? ⟨gb693, 11, none⟩ = some (.int .i64 a1_11) := (blk_cell BK693.out 11).trans rfl; have hcz83_12 : w81.cell? ⟨gb693, 12, none⟩ = some (.string a1_12) := (blk_cell BK693.out 12).trans rfl; have hcz83_13 : w81.cell? ⟨gb693, 13, none⟩ = some (.string a1_13) := (blk_cell BK693.out 13).trans rfl; have hfz83_0 := blk_frozen BK693.out 0; have hfz83_1 := blk_frozen BK693.out 1; have hfz83_2 := blk_frozen BK693.out 2; have hfz83_3 := blk_frozen BK693.out 3; have hfz83_4 := blk_frozen BK693.out 4; have hfz83_5 := blk_frozen BK693.out 5; have hfz83_6 := blk_frozen BK693.out 6; have hfz83_7 := blk_frozen BK693.out 7; have hfz83_8 := blk_frozen BK693.out 8; have hfz83_9 := blk_frozen BK693.out 9; have hfz83_10 := blk_frozen BK693.out 10; have hfz83_11 := blk_frozen BK693.out 11; have hfz83_12 := blk_frozen BK693.out 12; have hfz83_13 := blk_frozen BK693.out 13) | ((with_reducible refine gate_callee (f := 108) rfl ?_); refine goesL_ (some 46) rfl rfl Tryd.func108 (by kernel_rfl) rfl #[.agg #[.int .i64 a0_7, .int .i64 a0_8, .int .i64 a0_9, .bool a0_10], .agg #[.int .i64 a1_7, .int .i64 a1_8, .int .i64 a1_9, .bool a1_10]] rfl au30 ?_; (with_reducible refine (laws_eqDate.calls a0_7 a0_8 a0_9 a0_10 a1_7 a1_8 a1_9 a1_10 _ _ A12.out).mono ?_); rintro e w84 ⟨rfl, hb⟩; refine ⟨_, rfl, ?_⟩; have n0_ := Aside0.mk (blk_below (g := gb692) (o := .cells #[.string a0_0, .int .i64 a0_1, .slice A0_2 l0_2.length c0_2, .slice A0_3 l0_3.length c0_3, .string a0_4, .string a0_5, .string a0_6, .int .i64 a0_7, .int .i64 a0_8, .int .i64 a0_9, .bool a0_10, .int .i64 a0_11, .string a0_12, .string a0_13] 65 (0, 0)) au51 hb); have n1_ := Aside0.mk (blk_below (g := gb693) (o := .cells #[.string a1_0, .int .i64 a1_1, .slice A1_2 l1_2.length c1_2, .slice A1_3 l1_3.length c1_3, .string a1_4, .string a1_5, .string a1_6, .int .i64 a1_7, .int .i64 a1_8, .int .i64 a1_9, .bool a1_10, .int .i64 a1_11, .string a1_12, .string a1_13] 65 (0, 0)) au52 hb); have n2_ := Aside0.mk (below_step au11 hb); clear BK692; clear BK693; clear HB; have BK692 := n0_; have BK693 := n1_; have HB := n2_; clear n0_ n1_ n2_; (try clear hb); (try clear hb2); (try clear hk); (try clear hi)))
         go_ret
         exact ax12
       ·
        rw [if_neg c11] at H
        have c11b0 : (a0_6.toList == a1_6.toList) = false := beq_eq_false_iff_ne.mpr c11
        have c11b1 : (a0_6.toList != a1_6.toList) = true := bne_iff_ne.mpr c11
        obtain rfl := Option.some.inj H
        exact laws_eqEntry.L0
      ·
       rw [if_neg c10] at H
       have c10b0 : (a0_5.toList == a1_5.toList) = false := beq_eq_false_iff_ne.mpr c10
       have c10b1 : (a0_5.toList != a1_5.toList) = true := bne_iff_ne.mpr c10
       obtain rfl := Option.some.inj H
       exact laws_eqEntry.L0
     ·
      rw [if_neg c9] at H
      have c9b0 : (a0_4.toList == a1_4.toList) = false := beq_eq_false_iff_ne.mpr c9
      have c9b1 : (a0_4.toList != a1_4.toList) = true := bne_iff_ne.mpr c9
      obtain rfl := Option.some.inj H
      exact laws_eqEntry.L0
    ·
     replace c8 := Bool.eq_false_iff.mpr c8
     subst c8
     replace H := (if_neg (show ¬ (false = true) by decide)).symm.trans H
     obtain rfl := Option.some.inj H
     go_enter Tryd.func45, Tryd.ntmps45
     go_wp2_with (first | ((with_reducible refine gate_dst (N := 2) rfl ?_); refine box_event ?hg (N := 2) ?hd (cs := #[.string a0_0, .int .i64 a0_1, .slice A0_2 l0_2.length c0_2, .slice A0_3 l0_3.length c0_3, .string a0_4, .string a0_5, .string a0_6, .int .i64 a0_7, .int .i64 a0_8, .int .i64 a0_9, .bool a0_10, .int .i64 a0_11, .string a0_12, .string a0_13]) (t := 65) ?hr ?_; (case hd => rfl); (case hg => rfl); (case hr => first | (go_simp; done) | (go_simp; rfl)); intro gb692 hg w118 hbox hb; have n0_ := Aside0.mk (below_step au31 hb); have n1_ := Aside0.mk (hbox); have n2_ := Aside0.mk ((by rw [hg]; exact (below_size au31) : w.heap.size ≤ gb692)); have n3_ := Aside0.mk ((by rw [hg]; exact (below_size au31) : w.heap.size ≤ gb692)); clear HB; have HB := n0_; have BK692 := n1_; have GW692 := n2_; have GE692 := n3_; clear n0_ n1_ n2_ n3_; clear hb hbox hg) | ((with_reducible refine gate_dst (N := 3) rfl ?_); refine box_event ?hg (N := 3) ?hd (cs := #[.string a1_0, .int .i64 a1_1, .slice A1_2 l1_2.length c1_2, .slice A1_3 l1_3.length c1_3, .string a1_4, .string a1_5, .string a1_6, .int .i64 a1_7, .int .i64 a1_8, .int .i64 a1_9, .bool a1_10, .int .i64 a1_11, .string a1_12, .string a1_13]) (t := 65) ?hr ?_; (case hd => rfl); (case hg => rfl); (case hr => first | (go_simp; done) | (go_simp; rfl)); intro gb693 hg w119 hbox hb; have n0_ := Aside0.mk (blk_below (g := gb692) (o := .cells #[.string a0_0, .int .i64 a0_1, .slice A0_2 l0_2.length c0_2, .slice A0_3 l0_3.length c0_3, .string a0_4, .string a0_5, .string a0_6, .int .i64 a0_7, .int .i64 a0_8, .int .i64 a0_9, .bool a0_10, .int .i64 a0_11, .string a0_12, .string a0_13] 65 (0, 0)) au51 hb); have n1_ := Aside0.mk (below_step au27 hb); have n2_ := Aside0.mk (hbox); have n3_ := Aside0.mk ((by rw [hg]; exact (below_size au27) : w.heap.size ≤ gb693)); have n4_ := Aside0.mk ((by rw [hg]; exact (below_size au27) : w.heap.size ≤ gb693)); have n5_ := Aside0.mk ((by rw [hg]; exact Nat.ne_of_lt (blk_lt (g := gb692) (o := .cells #[.string a0_0, .int .i64 a0_1, .slice A0_2 l0_2.length c0_2, .slice A0_3 l0_3.length c0_3, .string a0_4, .string a0_5, .string a0_6, .int .i64 a0_7, .int .i64 a0_8, .int .i64 a0_9, .bool a0_10, .int .i64 a0_11, .string a0_12, .string a0_13] 65 (0, 0)) au51) : gb692 ≠ gb693)); have n6_ := Aside0.mk ((by rw [hg]; exact Nat.ne_of_gt (blk_lt (g := gb692) (o := .cells #[.string a0_0, .int .i64 a0_1, .slice A0_2 l0_2.length c0_2, .slice A0_3 l0_3.length c0_3, .string a0_4, .string a0_5, .string a0_6, .int .i64 a0_7, .int .i64 a0_8, .int .i64 a0_9, .bool a0_10, .int .i64 a0_11, .string a0_12, .string a0_13] 65 (0, 0)) au51) : gb693 ≠ gb692)); clear BK692; clear HB; have BK692 := n0_; have HB := n1_; have BK693 := n2_; have GW693 := n3_; have GE693 := n4_; have NB692_693 := n5_; have NB693_692 := n6_; clear n0_ n1_ n2_ n3_ n4_ n5_ n6_; clear hb hbox hg; have hnb120 := NB692_693.out; have hnc120 := NB693_692.out; have hcz121_0 : w119.cell? ⟨gb692, 0, none⟩ = some (.string a0_0) := (blk_cell BK692.out 0).trans rfl; have hcz121_1 : w119.cell? ⟨gb692, 1, none⟩ = some (.int .i64 a0_1) := (blk_cell BK692.out 1).trans rfl; have hcz121_2 : w119.cell? ⟨gb692, 2, none⟩ = some (.slice A0_2 l0_2.length c0_2) := (blk_cell BK692.out 2).trans rfl; have hcz121_3 : w119.cell? ⟨gb692, 3, none⟩ = some (.slice A0_3 l0_3.length c0_3) := (blk_cell BK692.out 3).trans rfl; have hcz121_4 : w119.cell? ⟨gb692, 4, none⟩ = some (.string a0_4) := (blk_cell BK692.out 4).trans rfl; have hcz121_5 : w119.cell? ⟨gb692, 5, none⟩ = some (.string a0_5) := (blk_cell BK692.out 5).trans rfl; have hcz121_6 : w119.cell? ⟨gb692, 6, none⟩ = some (.string a0_6) := (blk_cell BK692.out 6).trans rfl; have hcz121_7 : w119.cell? ⟨gb692, 7, none⟩ = some (.int .i64 a0_7) := (blk_cell BK692.out 7).trans rfl; have hcz121_8 : w119.cell? ⟨gb692, 8, none⟩ = some (.int .i64 a0_8) := (blk_cell BK692.out 8).trans rfl; have hcz121_9 : w119.cell? ⟨gb692, 9, none⟩ = some (.int .i64 a0_9) := (blk_cell BK692.out 9).trans rfl; have hcz121_10 : w119.cell? ⟨gb692, 10, none⟩ = some (.bool a0_10) := (blk_cell BK692.out 10).trans rfl; have hcz121_11 : w119.cell? ⟨gb692, 11, none⟩ = some (.int .i64 a0_11) := (blk_cell BK692.out 11).trans rfl; have hcz121_12 : w119.cell? ⟨gb692, 12, none⟩ = some (.string a0_12) := (blk_cell BK692.out 12).trans rfl; have hcz121_13 : w119.cell? ⟨gb692, 13, none⟩ = some (.string a0_13) := (blk_cell BK692.out 13).trans rfl; have hfz121_0 := blk_frozen BK692.out 0; have hfz121_1 := blk_frozen BK692.out 1; have hfz121_2 := blk_frozen BK692.out 2; have hfz121_3 := blk_frozen BK692.out 3; have hfz121_4 := blk_frozen BK692.out 4; have hfz121_5 := blk_frozen BK692.out 5; have hfz121_6 := blk_frozen BK692.out 6; have hfz121_7 := blk_frozen BK692.out 7; have hfz121_8 := blk_frozen BK692.out 8; have hfz121_9 := blk_frozen BK692.out 9; have hfz121_10 := blk_frozen BK692.out 10; have hfz121_11 := blk_frozen BK692.out 11; have hfz121_12 := blk_frozen BK692.out 12; have hfz121_13 := blk_frozen BK692.out 13; have hcz122_0 : w119.cell? ⟨gb693, 0, none⟩ = some (.string a1_0) := (blk_cell BK693.out 0).trans rfl; have hcz122_1 : w119.cell? ⟨gb693, 1, none⟩ = some (.int .i64 a1_1) := (blk_cell BK693.out 1).trans rfl; have hcz122_2 : w119.cell? ⟨gb693, 2, none⟩ = some (.slice A1_2 l1_2.length c1_2) := (blk_cell BK693.out 2).trans rfl; have hcz122_3 : w119.cell? ⟨gb693, 3, none⟩ = some (.slice A1_3 l1_3.length c1_3) := (blk_cell BK693.out 3).trans rfl; have hcz122_4 : w119.cell? ⟨gb693, 4, none⟩ = some (.string a1_4) := (blk_cell BK693.out 4).trans rfl; have hcz122_5 : w119.cell? ⟨gb693, 5, none⟩ = some (.string a1_5) := (blk_cell BK693.out 5).trans rfl; have hcz122_6 : w119.cell? ⟨gb693, 6, none⟩ = some (.string a1_6) := (blk_cell BK693.out 6).trans rfl; have hcz122_7 : w119.cell? ⟨gb693, 7, none⟩ = some (.int .i64 a1_7) := (blk_cell BK693.out 7).trans rfl; have hcz122_8 : w119.cell? ⟨gb693, 8, none⟩ = some (.int .i64 a1_8) := (blk_cell BK693.out 8).trans rfl; have hcz122_9 : w119.cell? ⟨gb693, 9, none⟩ = some (.int .i64 a1_9) := (blk_cell BK693.out 9).trans rfl; have hcz122_10 : w119.cell? ⟨gb693, 10, none⟩ = some (.bool a1_10) := (blk_cell BK693.out 10).trans rfl; have hcz122_11 : w119.cell? ⟨gb693, 11, none⟩ = some (.int .i64 a1_11) := (blk_cell BK693.out 11).trans rfl; have hcz122_12 : w119.cell? ⟨gb693, 12, none⟩ = some (.string a1_12) := (blk_cell BK693.out 12).trans rfl; have hcz122_13 : w119.cell? ⟨gb693, 13, none⟩ = some (.string a1_13) := (blk_cell BK693.out 13).trans rfl; have hfz122_0 := blk_frozen BK693.out 0; have hfz122_1 := blk_frozen BK693.out 1; have hfz122_2 := blk_frozen BK693.out 2; have hfz122_3 := blk_frozen BK693.out 3; have hfz122_4 := blk_frozen BK693.out 4; have hfz122_5 := blk_frozen BK693.out 5; have hfz122_6 := blk_frozen BK693.out 6; have hfz122_7 := blk_frozen BK693.out 7; have hfz122_8 := blk_frozen BK693.out 8; have hfz122_9 := blk_frozen BK693.out 9; have hfz122_10 := blk_frozen BK693.out 10; have hfz122_11 := blk_frozen BK693.out 11; have hfz122_12 := blk_frozen BK693.out 12; have hfz122_13 := blk_frozen BK693.out 13) | ((with_reducible refine gate_callee (f := 16) rfl ?_); refine goesL_ (some 19) rfl rfl Tryd.func16 (by kernel_rfl) rfl #[.slice A0_2 l0_2.length c0_2, .slice A1_2 l1_2.length c1_2] rfl au30 ?_; (with_reducible refine (laws_eqNameS.calls k _ _ l0_2 _ _ l1_2 _ _ ?side1 ?side2 ?side3 ?side4 A5.out).mono ?_); (case side1 => repeat (first | exact (Kd.C_below HR0_2.out HB.out) | (with_reducible refine Kd.C_alloc ?_ _) | (with_reducible refine Kd.C_drewN ?_ _) | (with_reducible refine Kd.C_drew ?_))); (case side2 => exact HC0_2.out); (case side3 => repeat (first | exact (Kd.C_below HR1_2.out HB.out) | (with_reducible refine Kd.C_alloc ?_ _) | (with_reducible refine Kd.C_drewN ?_ _) | (with_reducible refine Kd.C_drew ?_))); (case side4 => exact HC1_2.out); rintro e w123 ⟨rfl, hb⟩; refine ⟨_, rfl, ?_⟩; have n0_ := Aside0.mk (blk_below (g := gb692) (o := .cells #[.string a0_0, .int .i64 a0_1, .slice A0_2 l0_2.length c0_2, .slice A0_3 l0_3.length c0_3, .string a0_4, .string a0_5, .string a0_6, .int .i64 a0_7, .int .i64 a0_8, .int .i64 a0_9, .bool a0_10, .int .i64 a0_11, .string a0_12, .string a0_13] 65 (0, 0)) au51 hb); have n1_ := Aside0.mk (blk_below (g := gb693) (o := .cells #[.string a1_0, .int .i64 a1_1, .slice A1_2 l1_2.length c1_2, .slice A1_3 l1_3.length c1_3, .string a1_4, .string a1_5, .string a1_6, .int .i64 a1_7, .int .i64 a1_8, .int .i64 a1_9, .bool a1_10, .int .i64 a1_11, .string a1_12, .string a1_13] 65 (0, 0)) au52 hb); have n2_ := Aside0.mk (below_step au11 hb); clear BK692; clear BK693; clear HB; have BK692 := n0_; have BK693 := n1_; have HB := n2_; clear n0_ n1_ n2_; (try clear hb); (try clear hb2); (try clear hk); (try clear hi); have hcz124_0 : w123.cell? ⟨gb692, 0, none⟩ = some (.string a0_0) := (blk_cell BK692.out 0).trans rfl; have hcz124_1 : w123.cell? ⟨gb692, 1, none⟩ = some (.int .i64 a0_1) := (blk_cell BK692.out 1).trans rfl; have hcz124_2 : w123.cell? ⟨gb692, 2, none⟩ = some (.slice A0_2 l0_2.length c0_2) := (blk_cell BK692.out 2).trans rfl; have hcz124_3 : w123.cell? ⟨gb692, 3, none⟩ = some (.slice A0_3 l0_3.length c0_3) := (blk_cell BK692.out 3).trans rfl; have hcz124_4 : w123.cell? ⟨gb692, 4, none⟩ = some (.string a0_4) := (blk_cell BK692.out 4).trans rfl; have hcz124_5 : w123.cell? ⟨gb692, 5, none⟩ = some (.string a0_5) := (blk_cell BK692.out 5).trans rfl; have hcz124_6 : w123.cell? ⟨gb692, 6, none⟩ = some (.string a0_6) := (blk_cell BK692.out 6).trans rfl; have hcz124_7 : w123.cell? ⟨gb692, 7, none⟩ = some (.int .i64 a0_7) := (blk_cell BK692.out 7).trans rfl; have hcz124_8 : w123.cell? ⟨gb692, 8, none⟩ = some (.int .i64 a0_8) := (blk_cell BK692.out 8).trans rfl; have hcz124_9 : w123.cell? ⟨gb692, 9, none⟩ = some (.int .i64 a0_9) := (blk_cell BK692.out 9).trans rfl; have hcz124_10 : w123.cell? ⟨gb692, 10, none⟩ = some (.bool a0_10) := (blk_cell BK692.out 10).trans rfl; have hcz124_11 : w123.cell? ⟨gb692, 11, none⟩ = some (.int .i64 a0_11) := (blk_cell BK692.out 11).trans rfl; have hcz124_12 : w123.cell? ⟨gb692, 12, none⟩ = some (.string a0_12) := (blk_cell BK692.out 12).trans rfl; have hcz124_13 : w123.cell? ⟨gb692, 13, none⟩ = some (.string a0_13) := (blk_cell BK692.out 13).trans rfl; have hfz124_0 := blk_frozen BK692.out 0; have hfz124_1 := blk_frozen BK692.out 1; have hfz124_2 := blk_frozen BK692.out 2; have hfz124_3 := blk_frozen BK692.out 3; have hfz124_4 := blk_frozen BK692.out 4; have hfz124_5 := blk_frozen BK692.out 5; have hfz124_6 := blk_frozen BK692.out 6; have hfz124_7 := blk_frozen BK692.out 7; have hfz124_8 := blk_frozen BK692.out 8; have hfz124_9 := blk_frozen BK692.out 9; have hfz124_10 := blk_frozen BK692.out 10; have hfz124_11 := blk_frozen BK692.out 11; have hfz124_12 := blk_frozen BK692.out 12; have hfz124_13 := blk_frozen BK692.out 13; have hcz125_0 : w123.cell? ⟨gb693, 0, none⟩ = some (.string a1_0) := (blk_cell BK693.out 0).trans rfl; have hcz125_1 : w123.cell? ⟨gb693, 1, none⟩ = some (.int .i64 a1_1) := (blk_cell BK693.out 1).trans rfl; have hcz125_2 : w123.cell? ⟨gb693, 2, none⟩ = some (.slice A1_2 l1_2.length c1_2) := (blk_cell BK693.out 2).trans rfl; have hcz125_3 : w123.cell? ⟨gb693, 3, none⟩ = some (.slice A1_3 l1_3.length c1_3) := (blk_cell BK693.out 3).trans rfl; have hcz125_4 : w123.cell? ⟨gb693, 4, none⟩ = some (.string a1_4) := (blk_cell BK693.out 4).trans rfl; have hcz125_5 : w123.cell? ⟨gb693, 5, none⟩ = some (.string a1_5) := (blk_cell BK693.out 5).trans rfl; have hcz125_6 : w123.cell? ⟨gb693, 6, none⟩ = some (.string a1_6) := (blk_cell BK693.out 6).trans rfl; have hcz125_7 : w123.cell? ⟨gb693, 7, none⟩ = some (.int .i64 a1_7) := (blk_cell BK693.out 7).trans rfl; have hcz125_8 : w123.cell? ⟨gb693, 8, none⟩ = some (.int .i64 a1_8) := (blk_cell BK693.out 8).trans rfl; have hcz125_9 : w123.cell? ⟨gb693, 9, none⟩ = some (.int .i64 a1_9) := (blk_cell BK693.out 9).trans rfl; have hcz125_10 : w123.cell? ⟨gb693, 10, none⟩ = some (.bool a1_10) := (blk_cell BK693.out 10).trans rfl; have hcz125_11 : w123.cell? ⟨gb693, 11, none⟩ = some (.int .i64 a1_11) := (blk_cell BK693.out 11).trans rfl; have hcz125_12 : w123.cell? ⟨gb693, 12, none⟩ = some (.string a1_12) := (blk_cell BK693.out 12).trans rfl; have hcz125_13 : w123.cell? ⟨gb693, 13, none⟩ = some (.string a1_13) := (blk_cell BK693.out 13).trans rfl; have hfz125_0 := blk_frozen BK693.out 0; have hfz125_1 := blk_frozen BK693.out 1; have hfz125_2 := blk_frozen BK693.out 2; have hfz125_3 := blk_frozen BK693.out 3; have hfz125_4 := blk_frozen BK693.out 4; have hfz125_5 := blk_frozen BK693.out 5; have hfz125_6 := blk_frozen BK693.out 6; have hfz125_7 := blk_frozen BK693.out 7; have hfz125_8 := blk_frozen BK693.out 8; have hfz125_9 := blk_frozen BK693.out 9; have hfz125_10 := blk_frozen BK693.out 10; have hfz125_11 := blk_frozen BK693.out 11; have hfz125_12 := blk_frozen BK693.out 12; have hfz125_13 := blk_frozen BK693.out 13) | ((with_reducible refine gate_callee (f := 16) rfl ?_); refine goesL_ (some 25) rfl rfl Tryd.func16 (by kernel_rfl) rfl #[.slice A0_3 l0_3.length c0_3, .slice A1_3 l1_3.length c1_3] rfl au30 ?_; (with_reducible refine (laws_eqNameS.calls k _ _ l0_3 _ _ l1_3 _ _ ?side1 ?side2 ?side3 ?side4 A7.out).mono ?_); (case side1 => repeat (first | exact (Kd.C_below HR0_3.out HB.out) | (with_reducible refine Kd.C_alloc ?_ _) | (with_reducible refine Kd.C_drewN ?_ _) | (with_reducible refine Kd.C_drew ?_))); (case side2 => exact HC0_3.out); (case side3 => repeat (first | exact (Kd.C_below HR1_3.out HB.out) | (with_reducible refine Kd.C_alloc ?_ _) | (with_reducible refine Kd.C_drewN ?_ _) | (with_reducible refine Kd.C_drew ?_))); (case side4 => exact HC1_3.out); rintro e w126 ⟨rfl, hb⟩; refine ⟨_, rfl, ?_⟩; have n0_ := Aside0.mk (blk_below (g := gb692) (o := .cells #[.string a0_0, .int .i64 a0_1, .slice A0_2 l0_2.length c0_2, .slice A0_3 l0_3.length c0_3, .string a0_4, .string a0_5, .string a0_6, .int .i64 a0_7, .int .i64 a0_8, .int .i64 a0_9, .bool a0_10, .int .i64 a0_11, .string a0_12, .string a0_13] 65 (0, 0)) au51 hb); have n1_ := Aside0.mk (blk_below (g := gb693) (o := .cells #[.string a1_0, .int .i64 a1_1, .slice A1_2 l1_2.length c1_2, .slice A1_3 l1_3.length c1_3, .string a1_4, .string a1_5, .string a1_6, .int .i64 a1_7, .int .i64 a1_8, .int .i64 a1_9, .bool a1_10, .int .i64 a1_11, .string a1_12, .string a1_13] 65 (0, 0)) au52 hb); have n2_ := Aside0.mk (below_step au11 hb); clear BK692; clear BK693; clear HB; have BK692 := n0_; have BK693 := n1_; have HB := n2_; clear n0_ n1_ n2_; (try clear hb); (try clear hb2); (try clear hk); (try clear hi)))
     go_ret
     exact ax12
   ·
    replace c6 := Bool.eq_false_iff.mpr c6
    subst c6
    replace H := (if_neg (show ¬ (false = true) by decide)).symm.trans H
    obtain rfl := Option.some.inj H
    go_enter Tryd.func45, Tryd.ntmps45
    go_wp2_with (first | ((with_reducible refine gate_dst (N := 2) rfl ?_); refine box_event ?hg (N := 2) ?hd (cs := #[.string a0_0, .int .i64 a0_1, .slice A0_2 l0_2.length c0_2, .slice A0_3 l0_3.length c0_3, .string a0_4, .string a0_5, .string a0_6, .int .i64 a0_7, .int .i64 a0_8, .int .i64 a0_9, .bool a0_10, .int .i64 a0_11, .string a0_12, .string a0_13]) (t := 65) ?hr ?_; (case hd => rfl); (case hg => rfl); (case hr => first | (go_simp; done) | (go_simp; rfl)); intro gb692 hg w127 hbox hb; have n0_ := Aside0.mk (below_step au31 hb); have n1_ := Aside0.mk (hbox); have n2_ := Aside0.mk ((by rw [hg]; exact (below_size au31) : w.heap.size ≤ gb692)); have n3_ := Aside0.mk ((by rw [hg]; exact (below_size au31) : w.heap.size ≤ gb692)); clear HB; have HB := n0_; have BK692 := n1_; have GW692 := n2_; have GE692 := n3_; clear n0_ n1_ n2_ n3_; clear hb hbox hg) | ((with_reducible refine gate_dst (N := 3) rfl ?_); refine box_event ?hg (N := 3) ?hd (cs := #[.string a1_0, .int .i64 a1_1, .slice A1_2 l1_2.length c1_2, .slice A1_3 l1_3.length c1_3, .string a1_4, .string a1_5, .string a1_6, .int .i64 a1_7, .int .i64 a1_8, .int .i64 a1_9, .bool a1_10, .int .i64 a1_11, .string a1_12, .string a1_13]) (t := 65) ?hr ?_; (case hd => rfl); (case hg => rfl); (case hr => first | (go_simp; done) | (go_simp; rfl)); intro gb693 hg w128 hbox hb; have n0_ := Aside0.mk (blk_below (g := gb692) (o := .cells #[.string a0_0, .int .i64 a0_1, .slice A0_2 l0_2.length c0_2, .slice A0_3 l0_3.length c0_3, .string a0_4, .string a0_5, .string a0_6, .int .i64 a0_7, .int .i64 a0_8, .int .i64 a0_9, .bool a0_10, .int .i64 a0_11, .string a0_12, .string a0_13] 65 (0, 0)) au51 hb); have n1_ := Aside0.mk (below_step au27 hb); have n2_ := Aside0.mk (hbox); have n3_ := Aside0.mk ((by rw [hg]; exact (below_size au27) : w.heap.size ≤ gb693)); have n4_ := Aside0.mk ((by rw [hg]; exact (below_size au27) : w.heap.size ≤ gb693)); have n5_ := Aside0.mk ((by rw [hg]; exact Nat.ne_of_lt (blk_lt (g := gb692) (o := .cells #[.string a0_0, .int .i64 a0_1, .slice A0_2 l0_2.length c0_2, .slice A0_3 l0_3.length c0_3, .string a0_4, .string a0_5, .string a0_6, .int .i64 a0_7, .int .i64 a0_8, .int .i64 a0_9, .bool a0_10, .int .i64 a0_11, .string a0_12, .string a0_13] 65 (0, 0)) au51) : gb692 ≠ gb693)); have n6_ := Aside0.mk ((by rw [hg]; exact Nat.ne_of_gt (blk_lt (g := gb692) (o := .cells #[.string a0_0, .int .i64 a0_1, .slice A0_2 l0_2.length c0_2, .slice A0_3 l0_3.length c0_3, .string a0_4, .string a0_5, .string a0_6, .int .i64 a0_7, .int .i64 a0_8, .int .i64 a0_9, .bool a0_10, .int .i64 a0_11, .string a0_12, .string a0_13] 65 (0, 0)) au51) : gb693 ≠ gb692)); clear BK692; clear HB; have BK692 := n0_; have HB := n1_; have BK693 := n2_; have GW693 := n3_; have GE693 := n4_; have NB692_693 := n5_; have NB693_692 := n6_; clear n0_ n1_ n2_ n3_ n4_ n5_ n6_; clear hb hbox hg; have hnb129 := NB692_693.out; have hnc129 := NB693_692.out; have hcz130_0 : w128.cell? ⟨gb692, 0, none⟩ = some (.string a0_0) := (blk_cell BK692.out 0).trans rfl; have hcz130_1 : w128.cell? ⟨gb692, 1, none⟩ = some (.int .i64 a0_1) := (blk_cell BK692.out 1).trans rfl; have hcz130_2 : w128.cell? ⟨gb692, 2, none⟩ = some (.slice A0_2 l0_2.length c0_2) := (blk_cell BK692.out 2).trans rfl; have hcz130_3 : w128.cell? ⟨gb692, 3, none⟩ = some (.slice A0_3 l0_3.length c0_3) := (blk_cell BK692.out 3).trans rfl; have hcz130_4 : w128.cell? ⟨gb692, 4, none⟩ = some (.string a0_4) := (blk_cell BK692.out 4).trans rfl; have hcz130_5 : w128.cell? ⟨gb692, 5, none⟩ = some (.string a0_5) := (blk_cell BK692.out 5).trans rfl; have hcz130_6 : w128.cell? ⟨gb692, 6, none⟩ = some (.string a0_6) := (blk_cell BK692.out 6).trans rfl; have hcz130_7 : w128.cell? ⟨gb692, 7, none⟩ = some (.int .i64 a0_7) := (blk_cell BK692.out 7).trans rfl; have hcz130_8 : w128.cell? ⟨gb692, 8, none⟩ = some (.int .i64 a0_8) := (blk_cell BK692.out 8).trans rfl; have hcz130_9 : w128.cell? ⟨gb692, 9, none⟩ = some (.int .i64 a0_9) := (blk_cell BK692.out 9).trans rfl; have hcz130_10 : w128.cell? ⟨gb692, 10, none⟩ = some (.bool a0_10) := (blk_cell BK692.out 10).trans rfl; have hcz130_11 : w128.cell? ⟨gb692, 11, none⟩ = some (.int .i64 a0_11) := (blk_cell BK692.out 11).trans rfl; have hcz130_12 : w128.cell? ⟨gb692, 12, none⟩ = some (.string a0_12) := (blk_cell BK692.out 12).trans rfl; have hcz130_13 : w128.cell? ⟨gb692, 13, none⟩ = some (.string a0_13) := (blk_cell BK692.out 13).trans rfl; have hfz130_0 := blk_frozen BK692.out 0; have hfz130_1 := blk_frozen BK692.out 1; have hfz130_2 := blk_frozen BK692.out 2; have hfz130_3 := blk_frozen BK692.out 3; have hfz130_4 := blk_frozen BK692.out 4; have hfz130_5 := blk_frozen BK692.out 5; have hfz130_6 := blk_frozen BK692.out 6; have hfz130_7 := blk_frozen BK692.out 7; have hfz130_8 := blk_frozen BK692.out 8; have hfz130_9 := blk_frozen BK692.out 9; have hfz130_10 := blk_frozen BK692.out 10; have hfz130_11 := blk_frozen BK692.out 11; have hfz130_12 := blk_frozen BK692.out 12; have hfz130_13 := blk_frozen BK692.out 13; have hcz131_0 : w128.cell? ⟨gb693, 0, none⟩ = some (.string a1_0) := (blk_cell BK693.out 0).trans rfl; have hcz131_1 : w128.cell? ⟨gb693, 1, none⟩ = some (.int .i64 a1_1) := (blk_cell BK693.out 1).trans rfl; have hcz131_2 : w128.cell? ⟨gb693, 2, none⟩ = some (.slice A1_2 l1_2.length c1_2) := (blk_cell BK693.out 2).trans rfl; have hcz131_3 : w128.cell? ⟨gb693, 3, none⟩ = some (.slice A1_3 l1_3.length c1_3) := (blk_cell BK693.out 3).trans rfl; have hcz131_4 : w128.cell? ⟨gb693, 4, none⟩ = some (.string a1_4) := (blk_cell BK693.out 4).trans rfl; have hcz131_5 : w128.cell? ⟨gb693, 5, none⟩ = some (.string a1_5) := (blk_cell BK693.out 5).trans rfl; have hcz131_6 : w128.cell? ⟨gb693, 6, none⟩ = some (.string a1_6) := (blk_cell BK693.out 6).trans rfl; have hcz131_7 : w128.cell? ⟨gb693, 7, none⟩ = some (.int .i64 a1_7) := (blk_cell BK693.out 7).trans rfl; have hcz131_8 : w128.cell? ⟨gb693, 8, none⟩ = some (.int .i64 a1_8) := (blk_cell BK693.out 8).trans rfl; have hcz131_9 : w128.cell? ⟨gb693, 9, none⟩ = some (.int .i64 a1_9) := (blk_cell BK693.out 9).trans rfl; have hcz131_10 : w128.cell? ⟨gb693, 10, none⟩ = some (.bool a1_10) := (blk_cell BK693.out 10).trans rfl; have hcz131_11 : w128.cell? ⟨gb693, 11, none⟩ = some (.int .i64 a1_11) := (blk_cell BK693.out 11).trans rfl; have hcz131_12 : w128.cell? ⟨gb693, 12, none⟩ = some (.string a1_12) := (blk_cell BK693.out 12).trans rfl; have hcz131_13 : w128.cell? ⟨gb693, 13, none⟩ = some (.string a1_13) := (blk_cell BK693.out 13).trans rfl; have hfz131_0 := blk_frozen BK693.out 0; have hfz131_1 := blk_frozen BK693.out 1; have hfz131_2 := blk_frozen BK693.out 2; have hfz131_3 := blk_frozen BK693.out 3; have hfz131_4 := blk_frozen BK693.out 4; have hfz131_5 := blk_frozen BK693.out 5; have hfz131_6 := blk_frozen BK693.out 6; have hfz131_7 := blk_frozen BK693.out 7; have hfz131_8 := blk_frozen BK693.out 8; have hfz131_9 := blk_frozen BK693.out 9; have hfz131_10 := blk_frozen BK693.out 10; have hfz131_11 := blk_frozen BK693.out 11; have hfz131_12 := blk_frozen BK693.out 12; have hfz131_13 := blk_frozen BK693.out 13) | ((with_reducible refine gate_callee (f := 16) rfl ?_); refine goesL_ (some 19) rfl rfl Tryd.func16 (by kernel_rfl) rfl #[.slice A0_2 l0_2.length c0_2, .slice A1_2 l1_2.length c1_2] rfl au30 ?_; (with_reducible refine (laws_eqNameS.calls k _ _ l0_2 _ _ l1_2 _ _ ?side1 ?side2 ?side3 ?side4 A5.out).mono ?_); (case side1 => repeat (first | exact (Kd.C_below HR0_2.out HB.out) | (with_reducible refine Kd.C_alloc ?_ _) | (with_reducible refine Kd.C_drewN ?_ _) | (with_reducible refine Kd.C_drew ?_))); (case side2 => exact HC0_2.out); (case side3 => repeat (first | exact (Kd.C_below HR1_2.out HB.out) | (with_reducible refine Kd.C_alloc ?_ _) | (with_reducible refine Kd.C_drewN ?_ _) | (with_reducible refine Kd.C_drew ?_))); (case side4 => exact HC1_2.out); rintro e w132 ⟨rfl, hb⟩; refine ⟨_, rfl, ?_⟩; have n0_ := Aside0.mk (blk_below (g := gb692) (o := .cells #[.string a0_0, .int .i64 a0_1, .slice A0_2 l0_2.length c0_2, .slice A0_3 l0_3.length c0_3, .string a0_4, .string a0_5, .string a0_6, .int .i64 a0_7, .int .i64 a0_8, .int .i64 a0_9, .bool a0_10, .int .i64 a0_11, .string a0_12, .string a0_13] 65 (0, 0)) au51 hb); have n1_ := Aside0.mk (blk_below (g := gb693) (o := .cells #[.string a1_0, .int .i64 a1_1, .slice A1_2 l1_2.length c1_2, .slice A1_3 l1_3.length c1_3, .string a1_4, .string a1_5, .string a1_6, .int .i64 a1_7, .int .i64 a1_8, .int .i64 a1_9, .bool a1_10, .int .i64 a1_11, .string a1_12, .string a1_13] 65 (0, 0)) au52 hb); have n2_ := Aside0.mk (below_step au11 hb); clear BK692; clear BK693; clear HB; have BK692 := n0_; have BK693 := n1_; have HB := n2_; clear n0_ n1_ n2_; (try clear hb); (try clear hb2); (try clear hk); (try clear hi)))
    go_ret
    exact ax12
  ·
   rw [if_neg c4] at H
   have c4b0 : (a0_1 == a1_1) = false := beq_eq_false_iff_ne.mpr c4
   have c4b1 : (a0_1 != a1_1) = true := bne_iff_ne.mpr c4
   obtain rfl := Option.some.inj H
   exact laws_eqEntry.L0
 ·
  rw [if_neg c3] at H
  have c3b0 : (a0_0.toList == a1_0.toList) = false := beq_eq_false_iff_ne.mpr c3
  have c3b1 : (a0_0.toList != a1_0.toList) = true := bne_iff_ne.mpr c3
  obtain rfl := Option.some.inj H
  exact laws_eqEntry.L0


/-! ### laws_eqEntryS: function 112 -/
def laws_eqEntryS.l0 : Nat → List (S65) → List (S65) → Int → Option (Bool)
 | 0, _, _, _ => none
 | k + 1, x0, x1, x5 => if x5 < (x0.length : Int) then (if 0 ≤ x5 then (if x5 < (x1.length : Int) then ((laws_eqEntry.f k ((rd_T65 x0 x5).f0) ((rd_T65 x0 x5).f1) ((rd_T65 x0 x5).f2) ((rd_T65 x0 x5).f3) ((rd_T65 x0 x5).f4) ((rd_T65 x0 x5).f5) ((rd_T65 x0 x5).f6) ((rd_T65 x0 x5).f7.f0) ((rd_T65 x0 x5).f7.f1) ((rd_T65 x0 x5).f7.f2) ((rd_T65 x0 x5).f7.f3) ((rd_T65 x0 x5).f8) ((rd_T65 x0 x5).f9) ((rd_T65 x0 x5).f10) ((rd_T65 x1 x5).f0) ((rd_T65 x1 x5).f1) ((rd_T65 x1 x5).f2) ((rd_T65 x1 x5).f3) ((rd_T65 x1 x5).f4) ((rd_T65 x1 x5).f5) ((rd_T65 x1 x5).f6) ((rd_T65 x1 x5).f7.f0) ((rd_T65 x1 x5).f7.f1) ((rd_T65 x1 x5).f7.f2) ((rd_T65 x1 x5).f7.f3) ((rd_T65 x1 x5).f8) ((rd_T65 x1 x5).f9) ((rd_T65 x1 x5).f10)).bind fun t804 => (if t804 = true then (laws_eqEntryS.l0 k x0 x1 (wrap64 (x5 + 1))) else (some false))) else (none)) else (none)) else (some true)
def laws_eqEntryS.f (k : Nat) (l0 : List (S65)) (l1 : List (S65)) : Option (Bool) := if (l0.length : Int) = (l1.length : Int) then (laws_eqEntryS.l0 k l0 l1 0) else (some false)
theorem laws_eqEntryS.mono_l : ∀ k, (∀ y0 y1 y2, LeO (laws_eqEntryS.l0 k y0 y1 y2) (laws_eqEntryS.l0 (k + 1) y0 y1 y2))
 | 0 => fun _ _ _ r h => by simp [laws_eqEntryS.l0] at h
 | k + 1 => by
  have ih0 := laws_eqEntryS.mono_l k
  ·
   intro y0 y1 y2
   unfold laws_eqEntryS.l0
   repeat' first
   | (with_reducible exact ih0 _ _ _)
   | (with_reducible exact laws_eqEntry.mono _ _ _ _ _ _ _ _ _ _ _ _ _ _ _ _ _ _ _ _ _ _ _ _ _ _ _ _ _)
   | (with_reducible exact LeO.refl _)
   | (with_reducible exact LeO.none _)
   | (with_reducible refine LeO.ite ?_ ?_)
   | (with_reducible refine LeO.bind ?_ (fun _ => ?_))
   | exact ih0 _ _ _
   | exact laws_eqEntry.mono _ _ _ _ _ _ _ _ _ _ _ _ _ _ _ _ _ _ _ _ _ _ _ _ _ _ _ _ _
   | exact LeO.none _
   | refine LeO.ite ?_ ?_
   | refine LeO.bind ?_ (fun _ => ?_)
theorem laws_eqEntryS.mono : ∀ a0 a1 k, LeO (laws_eqEntryS.f k a0 a1) (laws_eqEntryS.f (k + 1) a0 a1) := by
 intro a0 a1 k
 have ih0 := laws_eqEntryS.mono_l k
 unfold laws_eqEntryS.f
 repeat' first
   | (with_reducible exact ih0 _ _ _)
   | (with_reducible exact laws_eqEntry.mono _ _ _ _ _ _ _ _ _ _ _ _ _ _ _ _ _ _ _ _ _ _ _ _ _ _ _ _ _)
   | (with_reducible exact LeO.refl _)
   | (with_reducible exact LeO.none _)
   | (with_reducible refine LeO.ite ?_ ?_)
   | (with_reducible refine LeO.bind ?_ (fun _ => ?_))
   | exact ih0 _ _ _
   | exact laws_eqEntry.mono _ _ _ _ _ _ _ _ _ _ _ _ _ _ _ _ _ _ _ _ _ _ _ _ _ _ _ _ _
   | exact LeO.none _
   | refine LeO.ite ?_ ?_
   | refine LeO.bind ?_ (fun _ => ?_)
def laws_eqEntryS.T6 : Bool × List (List Nat × List Nat) := (true, [([], []), ([], []), ([0, 1], [0, 1]), ([2], [2]), ([], []), ([], []), ([4, 5], [4, 5]), ([6], [6]), ([3, 7], [3, 7]), ([8], [8])])
def laws_eqEntryS.B6 : List Nat := [0, 0, 3, 7, 0, 0, 48, 112, 255, 511]
theorem laws_eqEntryS.tab6 : rtab .any (opsOf Tryd.f112 6) = laws_eqEntryS.T6 := by kernel_rfl
theorem laws_eqEntryS.bits6 : waitsOk laws_eqEntryS.T6.2 laws_eqEntryS.B6 = true := by kernel_rfl
set_option maxRecDepth 100000 in
theorem laws_eqEntryS.L0 {P : Prop} (h : P := by
  try go_wp2
  have n0_ := Aside0.mk (below_drew1 HB.out)
  clear HB
  have HB := n0_
  clear n0_
  have p802 : 0 ≤ (x5_1 : Int) := of_decide_eq_true au60
  have q802 : x5_1 < (l0.length : Int) := of_decide_eq_true au60
  obtain ⟨ad802, A802_2, c802_2, A802_3, c802_3, e802, hx802_0, hx802_1, hx802_2, hx802_3, hx802_4, hx802_5, hx802_6, hx802_7, hx802_8, hx802_9, hx802_10, hx802_11, hx802_12, hx802_13, hl802_2, hi802_2, hl802_3, hi802_3⟩ := at_T65 HR0.out x5_1 p802 q802
  have hw802_13 := hx802_13
  have hw802_12 := hx802_12
  have hw802_11 := hx802_11
  have hw802_10 := hx802_10
  have hw802_9 := hx802_9
  have hw802_8 := hx802_8
  have hw802_7 := hx802_7
  have hw802_6 := hx802_6
  have hw802_5 := hx802_5
  have hw802_4 := hx802_4
  have hw802_3 := hx802_3
  have hw802_2 := hx802_2
  have hw802_1 := hx802_1
  have hw802_0 := hx802_0
  cases e802
  replace hx802_0 := (HB.out.cell (World.block_lt_of_cell? w _ hx802_0)).trans hx802_0
  replace hx802_1 := (HB.out.cell (World.block_lt_of_cell? w _ hx802_1)).trans hx802_1
  replace hx802_2 := (HB.out.cell (World.block_lt_of_cell? w _ hx802_2)).trans hx802_2
  replace hx802_3 := (HB.out.cell (World.block_lt_of_cell? w _ hx802_3)).trans hx802_3
  replace hx802_4 := (HB.out.cell (World.block_lt_of_cell? w _ hx802_4)).trans hx802_4
  replace hx802_5 := (HB.out.cell (World.block_lt_of_cell? w _ hx802_5)).trans hx802_5
  replace hx802_6 := (HB.out.cell (World.block_lt_of_cell? w _ hx802_6)).trans hx802_6
  replace hx802_7 := (HB.out.cell (World.block_lt_of_cell? w _ hx802_7)).trans hx802_7
  replace hx802_8 := (HB.out.cell (World.block_lt_of_cell? w _ hx802_8)).trans hx802_8
  replace hx802_9 := (HB.out.cell (World.block_lt_of_cell? w _ hx802_9)).trans hx802_9
  replace hx802_10 := (HB.out.cell (World.block_lt_of_cell? w _ hx802_10)).trans hx802_10
  replace hx802_11 := (HB.out.cell (World.block_lt_of_cell? w _ hx802_11)).trans hx802_11
  replace hx802_12 := (HB.out.cell (World.block_lt_of_cell? w _ hx802_12)).trans hx802_12
  replace hx802_13 := (HB.out.cell (World.block_lt_of_cell? w _ hx802_13)).trans hx802_13
  have HR802_2 := Aside0.mk hi802_2
  have HC802_2 := Aside0.mk hl802_2
  clear hi802_2 hl802_2
  have HR802_3 := Aside0.mk hi802_3
  have HC802_3 := Aside0.mk hl802_3
  clear hi802_3 hl802_3
  replace p802 := eq_true p802
  replace q802 := eq_true q802
  have p803 : 0 ≤ (x5_1 : Int) := of_decide_eq_true au60
  have q803 : x5_1 < (l1.length : Int) := of_decide_eq_true au60
  obtain ⟨ad803, A803_2, c803_2, A803_3, c803_3, e803, hx803_0, hx803_1, hx803_2, hx803_3, hx803_4, hx803_5, hx803_6, hx803_7, hx803_8, hx803_9, hx803_10, hx803_11, hx803_12, hx803_13, hl803_2, hi803_2, hl803_3, hi803_3⟩ := at_T65 HR1.out x5_1 p803 q803
  have hw803_13 := hx803_13
  have hw803_12 := hx803_12
  have hw803_11 := hx803_11
  have hw803_10 := hx803_10
  have hw803_9 := hx803_9
  have hw803_8 := hx803_8
  have hw803_7 := hx803_7
  have hw803_6 := hx803_6
  have hw803_5 := hx803_5
  have hw803_4 := hx803_4
  have hw803_3 := hx803_3
  have hw803_2 := hx803_2
  have hw803_1 := hx803_1
  have hw803_0 := hx803_0
  cases e803
  replace hx803_0 := (HB.out.cell (World.block_lt_of_cell? w _ hx803_0)).trans hx803_0
  replace hx803_1 := (HB.out.cell (World.block_lt_of_cell? w _ hx803_1)).trans hx803_1
  replace hx803_2 := (HB.out.cell (World.block_lt_of_cell? w _ hx803_2)).trans hx803_2
  replace hx803_3 := (HB.out.cell (World.block_lt_of_cell? w _ hx803_3)).trans hx803_3
  replace hx803_4 := (HB.out.cell (World.block_lt_of_cell? w _ hx803_4)).trans hx803_4
  replace hx803_5 := (HB.out.cell (World.block_lt_of_cell? w _ hx803_5)).trans hx803_5
  replace hx803_6 := (HB.out.cell (World.block_lt_of_cell? w _ hx803_6)).trans hx803_6
  replace hx803_7 := (HB.out.cell (World.block_lt_of_cell? w _ hx803_7)).trans hx803_7
  replace hx803_8 := (HB.out.cell (World.block_lt_of_cell? w _ hx803_8)).trans hx803_8
  replace hx803_9 := (HB.out.cell (World.block_lt_of_cell? w _ hx803_9)).trans hx803_9
  replace hx803_10 := (HB.out.cell (World.block_lt_of_cell? w _ hx803_10)).trans hx803_10
  replace hx803_11 := (HB.out.cell (World.block_lt_of_cell? w _ hx803_11)).trans hx803_11
  replace hx803_12 := (HB.out.cell (World.block_lt_of_cell? w _ hx803_12)).trans hx803_12
  replace hx803_13 := (HB.out.cell (World.block_lt_of_cell? w _ hx803_13)).trans hx803_13
  have HR803_2 := Aside0.mk hi803_2
  have HC803_2 := Aside0.mk hl803_2
  clear hi803_2 hl803_2
  have HR803_3 := Aside0.mk hi803_3
  have HC803_3 := Aside0.mk hl803_3
  clear hi803_3 hl803_3
  replace p803 := eq_true p803
  replace q803 := eq_true q803
  refine start_ (n := 10) (S := fun w' => w'.cell? (ad802.add ((x5_1).toNat * 14)) = some (.string ((rd_T65 l0 x5_1).f0)) ∧ w'.cell? ⟨(ad802.add ((x5_1).toNat * 14)).block, (ad802.add ((x5_1).toNat * 14)).off + 1, none⟩ = some (.int .i64 ((rd_T65 l0 x5_1).f1)) ∧ w'.cell? ⟨(ad802.add ((x5_1).toNat * 14)).block, (ad802.add ((x5_1).toNat * 14)).off + 2, none⟩ = some (.slice A802_2 ((rd_T65 l0 x5_1).f2).length c802_2) ∧ w'.cell? ⟨(ad802.add ((x5_1).toNat * 14)).block, (ad802.add ((x5_1).toNat * 14)).off + 3, none⟩ = some (.slice A802_3 ((rd_T65 l0 x5_1).f3).length c802_3) ∧ w'.cell? ⟨(ad802.add ((x5_1).toNat * 14)).block, (ad802.add ((x5_1).toNat * 14)).off + 4, none⟩ = some (.string ((rd_T65 l0 x5_1).f4)) ∧ w'.cell? ⟨(ad802.add ((x5_1).toNat * 14)).block, (ad802.add ((x5_1).toNat * 14)).off + 5, none⟩ = some (.string ((rd_T65 l0 x5_1).f5)) ∧ w'.cell? ⟨(ad802.add ((x5_1).toNat * 14)).block, (ad802.add ((x5_1).toNat * 14)).off + 6, none⟩ = some (.string ((rd_T65 l0 x5_1).f6)) ∧ w'.cell? ⟨(ad802.add ((x5_1).toNat * 14)).block, (ad802.add ((x5_1).toNat * 14)).off + 7, none⟩ = some (.int .i64 ((rd_T65 l0 x5_1).f7.f0)) ∧ w'.cell? ⟨(ad802.add ((x5_1).toNat * 14)).block, (ad802.add ((x5_1).toNat * 14)).off + 8, none⟩ = some (.int .i64 ((rd_T65 l0 x5_1).f7.f1)) ∧ w'.cell? ⟨(ad802.add ((x5_1).toNat * 14)).block, (ad802.add ((x5_1).toNat * 14)).off + 9, none⟩ = some (.int .i64 ((rd_T65 l0 x5_1).f7.f2)) ∧ w'.cell? ⟨(ad802.add ((x5_1).toNat * 14)).block, (ad802.add ((x5_1).toNat * 14)).off + 10, none⟩ = some (.bool ((rd_T65 l0 x5_1).f7.f3)) ∧ w'.cell? ⟨(ad802.add ((x5_1).toNat * 14)).block, (ad802.add ((x5_1).toNat * 14)).off + 11, none⟩ = some (.int .i64 ((rd_T65 l0 x5_1).f8)) ∧ w'.cell? ⟨(ad802.add ((x5_1).toNat * 14)).block, (ad802.add ((x5_1).toNat * 14)).off + 12, none⟩ = some (.string ((rd_T65 l0 x5_1).f9)) ∧ w'.cell? ⟨(ad802.add ((x5_1).toNat * 14)).block, (ad802.add ((x5_1).toNat * 14)).off + 13, none⟩ = some (.string ((rd_T65 l0 x5_1).f10)) ∧ w'.cell? (ad803.add ((x5_1).toNat * 14)) = some (.string ((rd_T65 l1 x5_1).f0)) ∧ w'.cell? ⟨(ad803.add ((x5_1).toNat * 14)).block, (ad803.add ((x5_1).toNat * 14)).off + 1, none⟩ = some (.int .i64 ((rd_T65 l1 x5_1).f1)) ∧ w'.cell? ⟨(ad803.add ((x5_1).toNat * 14)).block, (ad803.add ((x5_1).toNat * 14)).off + 2, none⟩ = some (.slice A803_2 ((rd_T65 l1 x5_1).f2).length c803_2) ∧ w'.cell? ⟨(ad803.add ((x5_1).toNat * 14)).block, (ad803.add ((x5_1).toNat * 14)).off + 3, none⟩ = some (.slice A803_3 ((rd_T65 l1 x5_1).f3).length c803_3) ∧ w'.cell? ⟨(ad803.add ((x5_1).toNat * 14)).block, (ad803.add ((x5_1).toNat * 14)).off + 4, none⟩ = some (.string ((rd_T65 l1 x5_1).f4)) ∧ w'.cell? ⟨(ad803.add ((x5_1).toNat * 14)).block, (ad803.add ((x5_1).toNat * 14)).off + 5, none⟩ = some (.string ((rd_T65 l1 x5_1).f5)) ∧ w'.cell? ⟨(ad803.add ((x5_1).toNat * 14)).block, (ad803.add ((x5_1).toNat * 14)).off + 6, none⟩ = some (.string ((rd_T65 l1 x5_1).f6)) ∧ w'.cell? ⟨(ad803.add ((x5_1).toNat * 14)).block, (ad803.add ((x5_1).toNat * 14)).off + 7, none⟩ = some (.int .i64 ((rd_T65 l1 x5_1).f7.f0)) ∧ w'.cell? ⟨(ad803.add ((x5_1).toNat * 14)).block, (ad803.add ((x5_1).toNat * 14)).off + 8, none⟩ = some (.int .i64 ((rd_T65 l1 x5_1).f7.f1)) ∧ w'.cell? ⟨(ad803.add ((x5_1).toNat * 14)).block, (ad803.add ((x5_1).toNat * 14)).off + 9, none⟩ = some (.int .i64 ((rd_T65 l1 x5_1).f7.f2)) ∧ w'.cell? ⟨(ad803.add ((x5_1).toNat * 14)).block, (ad803.add ((x5_1).toNat * 14)).off + 10, none⟩ = some (.bool ((rd_T65 l1 x5_1).f7.f3)) ∧ w'.cell? ⟨(ad803.add ((x5_1).toNat * 14)).block, (ad803.add ((x5_1).toNat * 14)).off + 11, none⟩ = some (.int .i64 ((rd_T65 l1 x5_1).f8)) ∧ w'.cell? ⟨(ad803.add ((x5_1).toNat * 14)).block, (ad803.add ((x5_1).toNat * 14)).off + 12, none⟩ = some (.string ((rd_T65 l1 x5_1).f9)) ∧ w'.cell? ⟨(ad803.add ((x5_1).toNat * 14)).block, (ad803.add ((x5_1).toNat * 14)).off + 13, none⟩ = some (.string ((rd_T65 l1 x5_1).f10))) (ds := []) #[false, false, false, false, false, false, false, false, false, false] (by kernel_rfl) rfl rfl ⟨((HB.out.cell (World.block_lt_of_cell? w _ hw802_0)).trans hw802_0), ((HB.out.cell (World.block_lt_of_cell? w _ hw802_1)).trans hw802_1), ((HB.out.cell (World.block_lt_of_cell? w _ hw802_2)).trans hw802_2), ((HB.out.cell (World.block_lt_of_cell? w _ hw802_3)).trans hw802_3), ((HB.out.cell (World.block_lt_of_cell? w _ hw802_4)).trans hw802_4), ((HB.out.cell (World.block_lt_of_cell? w _ hw802_5)).trans hw802_5), ((HB.out.cell (World.block_lt_of_cell? w _ hw802_6)).trans hw802_6), ((HB.out.cell (World.block_lt_of_cell? w _ hw802_7)).trans hw802_7), ((HB.out.cell (World.block_lt_of_cell? w _ hw802_8)).trans hw802_8), ((HB.out.cell (World.block_lt_of_cell? w _ hw802_9)).trans hw802_9), ((HB.out.cell (World.block_lt_of_cell? w _ hw802_10)).trans hw802_10), ((HB.out.cell (World.block_lt_of_cell? w _ hw802_11)).trans hw802_11), ((HB.out.cell (World.block_lt_of_cell? w _ hw802_12)).trans hw802_12), ((HB.out.cell (World.block_lt_of_cell? w _ hw802_13)).trans hw802_13), ((HB.out.cell (World.block_lt_of_cell? w _ hw803_0)).trans hw803_0), ((HB.out.cell (World.block_lt_of_cell? w _ hw803_1)).trans hw803_1), ((HB.out.cell (World.block_lt_of_cell? w _ hw803_2)).trans hw803_2), ((HB.out.cell (World.block_lt_of_cell? w _ hw803_3)).trans hw803_3), ((HB.out.cell (World.block_lt_of_cell? w _ hw803_4)).trans hw803_4), ((HB.out.cell (World.block_lt_of_cell? w _ hw803_5)).trans hw803_5), ((HB.out.cell (World.block_lt_of_cell? w _ hw803_6)).trans hw803_6), ((HB.out.cell (World.block_lt_of_cell? w _ hw803_7)).trans hw803_7), ((HB.out.cell (World.block_lt_of_cell? w _ hw803_8)).trans hw803_8), ((HB.out.cell (World.block_lt_of_cell? w _ hw803_9)).trans hw803_9), ((HB.out.cell (World.block_lt_of_cell? w _ hw803_10)).trans hw803_10), ((HB.out.cell (World.block_lt_of_cell? w _ hw803_11)).trans hw803_11), ((HB.out.cell (World.block_lt_of_cell? w _ hw803_12)).trans hw803_12), ((HB.out.cell (World.block_lt_of_cell? w _ hw803_13)).trans hw803_13)⟩ (fun hHeld => ?_); refine with_tabW laws_eqEntryS.tab6 laws_eqEntryS.bits6 (fun HT_ HW_ => ?_)
  generalize wr.drew = w9 at HB HR802_2 HR802_3 HR803_2 HR803_3 hx802_0 hx802_1 hx802_10 hx802_11 hx802_12 hx802_13 hx802_2 hx802_3 hx802_4 hx802_5 hx802_6 hx802_7 hx802_8 hx802_9 hx803_0 hx803_1 hx803_10 hx803_11 hx803_12 hx803_13 hx803_2 hx803_3 hx803_4 hx803_5 hx803_6 hx803_7 hx803_8 hx803_9 hHeld ⊢
  refine pure_ (i := 0) (N := some 17) (v := ?_) (a' := ?_) #[true, false, false, false, false, false, false, false, false, false] rfl rfl (any_of HT_.out (by kernel_rfl)) (fun _ _ _ h => h) (Or.inl ⟨by rfl, ?_⟩) ?_ ?_
  rotate_left
  ·
   intro w'
   go_simp
   with_reducible rfl
  rotate_left
  ·
   simp only [Act.put, List.setIfInBounds_toArray, List.set_cons_zero, List.set_cons_succ, i64_w, i32_w]
   rfl
  refine pure_ (i := 1) (N := some 18) (v := ?_) (a' := ?_) #[true, true, false, false, false, false, false, false, false, false] rfl rfl (any_of HT_.out (by kernel_rfl)) (fun _ _ _ h => h) (Or.inl ⟨by rfl, ?_⟩) ?_ ?_
  rotate_left
  ·
   intro w'
   go_simp
   with_reducible rfl
  rotate_left
  ·
   simp only [Act.put, List.setIfInBounds_toArray, List.set_cons_zero, List.set_cons_succ, i64_w, i32_w]
   rfl
  refine pure_ (i := 2) (N := some 19) (v := ?_) (a' := ?_) #[true, true, true, false, false, false, false, false, false, false] rfl rfl (any_of HT_.out (by kernel_rfl)) (fun _ _ _ h => h) (Or.inl ⟨by rfl, ?_⟩) ?_ ?_
  rotate_left
  ·
   intro w'
   go_simp
   with_reducible rfl
  rotate_left
  ·
   simp only [Act.put, List.setIfInBounds_toArray, List.set_cons_zero, List.set_cons_succ, i64_w, i32_w]
   rfl
  refine pure_ (i := 4) (N := some 21) (v := ?_) (a' := ?_) #[true, true, true, false, true, false, false, false, false, false] rfl rfl (any_of HT_.out (by kernel_rfl)) (fun _ _ _ h => h) (Or.inl ⟨by rfl, ?_⟩) ?_ ?_
  rotate_left
  ·
   intro w'
   go_simp
   with_reducible rfl
  rotate_left
  ·
   simp only [Act.put, List.setIfInBounds_toArray, List.set_cons_zero, List.set_cons_succ, i64_w, i32_w]
   rfl
  refine pure_ (i := 5) (N := some 22) (v := ?_) (a' := ?_) #[true, true, true, false, true, true, false, false, false, false] rfl rfl (any_of HT_.out (by kernel_rfl)) (fun _ _ _ h => h) (Or.inl ⟨by rfl, ?_⟩) ?_ ?_
  rotate_left
  ·
   intro w'
   go_simp
   with_reducible rfl
  rotate_left
  ·
   simp only [Act.put, List.setIfInBounds_toArray, List.set_cons_zero, List.set_cons_succ, i64_w, i32_w]
   rfl
  refine pure_ (i := 6) (N := some 23) (v := ?_) (a' := ?_) #[true, true, true, false, true, true, true, false, false, false] rfl rfl (any_of HT_.out (by kernel_rfl)) (fun _ _ _ h => h) (Or.inl ⟨by rfl, ?_⟩) ?_ ?_
  rotate_left
  ·
   intro w'
   go_simp
   with_reducible rfl
  rotate_left
  ·
   simp only [Act.put, List.setIfInBounds_toArray, List.set_cons_zero, List.set_cons_succ, i64_w, i32_w]
   rfl
  refine take_ (i := 3) (N := some 20) (v := ?_) (a' := ?_) #[true, true, true, true, true, true, true, false, false, false] rfl rfl (take_ofW HT_.out HW_.out (by kernel_rfl)) (fun _ _ _ h => h) (Or.inl ⟨by rfl, ?_⟩) hHeld ?_ ?_
  rotate_left
  ·
   rintro w' ⟨s0, s1, s2, s3, s4, s5, s6, s7, s8, s9, s10, s11, s12, s13, s14, s15, s16, s17, s18, s19, s20, s21, s22, s23, s24, s25, s26, s27⟩
   go_simp
   with_reducible rfl
  rotate_left
  ·
   simp only [Act.put, List.setIfInBounds_toArray, List.set_cons_zero, List.set_cons_succ, i64_w, i32_w]
   rfl
  refine take_ (i := 7) (N := some 24) (v := ?_) (a' := ?_) #[true, true, true, true, true, true, true, true, false, false] rfl rfl (take_ofW HT_.out HW_.out (by kernel_rfl)) (fun _ _ _ h => h) (Or.inl ⟨by rfl, ?_⟩) hHeld ?_ ?_
  rotate_left
  ·
   rintro w' ⟨s0, s1, s2, s3, s4, s5, s6, s7, s8, s9, s10, s11, s12, s13, s14, s15, s16, s17, s18, s19, s20, s21, s22, s23, s24, s25, s26, s27⟩
   go_simp
   with_reducible rfl
  rotate_left
  ·
   simp only [Act.put, List.setIfInBounds_toArray, List.set_cons_zero, List.set_cons_succ, i64_w, i32_w]
   rfl
  refine one_ (i := 8) (N := some 25) #[true, true, true, true, true, true, true, true, true, false] rfl rfl (one_of HT_.out (by kernel_rfl)) (by decide) (fun K hK => ?_)
  refine goes_ Tryd.func45 (by kernel_rfl) rfl #[.agg #[.string ((rd_T65 l0 x5_1).f0), .int .i64 ((rd_T65 l0 x5_1).f1), .slice A802_2 ((rd_T65 l0 x5_1).f2).length c802_2, .slice A802_3 ((rd_T65 l0 x5_1).f3).length c802_3, .string ((rd_T65 l0 x5_1).f4), .string ((rd_T65 l0 x5_1).f5), .string ((rd_T65 l0 x5_1).f6), .int .i64 ((rd_T65 l0 x5_1).f7.f0), .int .i64 ((rd_T65 l0 x5_1).f7.f1), .int .i64 ((rd_T65 l0 x5_1).f7.f2), .bool ((rd_T65 l0 x5_1).f7.f3), .int .i64 ((rd_T65 l0 x5_1).f8), .string ((rd_T65 l0 x5_1).f9), .string ((rd_T65 l0 x5_1).f10)], .agg #[.string ((rd_T65 l1 x5_1).f0), .int .i64 ((rd_T65 l1 x5_1).f1), .slice A803_2 ((rd_T65 l1 x5_1).f2).length c803_2, .slice A803_3 ((rd_T65 l1 x5_1).f3).length c803_3, .string ((rd_T65 l1 x5_1).f4), .string ((rd_T65 l1 x5_1).f5), .string ((rd_T65 l1 x5_1).f6), .int .i64 ((rd_T65 l1 x5_1).f7.f0), .int .i64 ((rd_T65 l1 x5_1).f7.f1), .int .i64 ((rd_T65 l1 x5_1).f7.f2), .bool ((rd_T65 l1 x5_1).f7.f3), .int .i64 ((rd_T65 l1 x5_1).f8), .string ((rd_T65 l1 x5_1).f9), .string ((rd_T65 l1 x5_1).f10)]] (by rfl) rfl rfl au30 ?_
  first
  |
   with_reducible refine (laws_eqEntry.calls k1 ((rd_T65 l0 x5_1).f0) ((rd_T65 l0 x5_1).f1) _ _ ((rd_T65 l0 x5_1).f2) _ _ ((rd_T65 l0 x5_1).f3) ((rd_T65 l0 x5_1).f4) ((rd_T65 l0 x5_1).f5) ((rd_T65 l0 x5_1).f6) ((rd_T65 l0 x5_1).f7.f0) ((rd_T65 l0 x5_1).f7.f1) ((rd_T65 l0 x5_1).f7.f2) ((rd_T65 l0 x5_1).f7.f3) ((rd_T65 l0 x5_1).f8) ((rd_T65 l0 x5_1).f9) ((rd_T65 l0 x5_1).f10) ((rd_T65 l1 x5_1).f0) ((rd_T65 l1 x5_1).f1) _ _ ((rd_T65 l1 x5_1).f2) _ _ ((rd_T65 l1 x5_1).f3) ((rd_T65 l1 x5_1).f4) ((rd_T65 l1 x5_1).f5) ((rd_T65 l1 x5_1).f6) ((rd_T65 l1 x5_1).f7.f0) ((rd_T65 l1 x5_1).f7.f1) ((rd_T65 l1 x5_1).f7.f2) ((rd_T65 l1 x5_1).f7.f3) ((rd_T65 l1 x5_1).f8) ((rd_T65 l1 x5_1).f9) ((rd_T65 l1 x5_1).f10) _ _ ?side1 ?side2 ?side3 ?side4 ?side5 ?side6 ?side7 ?side8 A7.out).mono ?_
   (case side1 => repeat (first | exact (Kd.C_below HR802_2.out HB.out) | (with_reducible refine Kd.C_alloc ?_ _) | (with_reducible refine Kd.C_drewN ?_ _) | (with_reducible refine Kd.C_drew ?_)))
   (case side2 => exact HC802_2.out)
   (case side3 => repeat (first | exact (Kd.C_below HR802_3.out HB.out) | (with_reducible refine Kd.C_alloc ?_ _) | (with_reducible refine Kd.C_drewN ?_ _) | (with_reducible refine Kd.C_drew ?_)))
   (case side4 => exact HC802_3.out)
   (case side5 => repeat (first | exact (Kd.C_below HR803_2.out HB.out) | (with_reducible refine Kd.C_alloc ?_ _) | (with_reducible refine Kd.C_drewN ?_ _) | (with_reducible refine Kd.C_drew ?_)))
   (case side6 => exact HC803_2.out)
   (case side7 => repeat (first | exact (Kd.C_below HR803_3.out HB.out) | (with_reducible refine Kd.C_alloc ?_ _) | (with_reducible refine Kd.C_drewN ?_ _) | (with_reducible refine Kd.C_drew ?_)))
   (case side8 => exact HC803_3.out)
   rintro e w10 ⟨rfl, hb⟩
   refine ⟨_, rfl, ?_⟩
   have n0_ := Aside0.mk (below_step au31 hb)
   clear HB
   have HB := n0_
   clear n0_
   (try clear hb)
   (try clear hb2)
   (try clear hk)
   (try clear hi)
   refine hK.out _ _ ⟨((HB.out.cell (World.block_lt_of_cell? w _ hw802_0)).trans hw802_0), ((HB.out.cell (World.block_lt_of_cell? w _ hw802_1)).trans hw802_1), ((HB.out.cell (World.block_lt_of_cell? w _ hw802_2)).trans hw802_2), ((HB.out.cell (World.block_lt_of_cell? w _ hw802_3)).trans hw802_3), ((HB.out.cell (World.block_lt_of_cell? w _ hw802_4)).trans hw802_4), ((HB.out.cell (World.block_lt_of_cell? w _ hw802_5)).trans hw802_5), ((HB.out.cell (World.block_lt_of_cell? w _ hw802_6)).trans hw802_6), ((HB.out.cell (World.block_lt_of_cell? w _ hw802_7)).trans hw802_7), ((HB.out.cell (World.block_lt_of_cell? w _ hw802_8)).trans hw802_8), ((HB.out.cell (World.block_lt_of_cell? w _ hw802_9)).trans hw802_9), ((HB.out.cell (World.block_lt_of_cell? w _ hw802_10)).trans hw802_10), ((HB.out.cell (World.block_lt_of_cell? w _ hw802_11)).trans hw802_11), ((HB.out.cell (World.block_lt_of_cell? w _ hw802_12)).trans hw802_12), ((HB.out.cell (World.block_lt_of_cell? w _ hw802_13)).trans hw802_13), ((HB.out.cell (World.block_lt_of_cell? w _ hw803_0)).trans hw803_0), ((HB.out.cell (World.block_lt_of_cell? w _ hw803_1)).trans hw803_1), ((HB.out.cell (World.block_lt_of_cell? w _ hw803_2)).trans hw803_2), ((HB.out.cell (World.block_lt_of_cell? w _ hw803_3)).trans hw803_3), ((HB.out.cell (World.block_lt_of_cell? w _ hw803_4)).trans hw803_4), ((HB.out.cell (World.block_lt_of_cell? w _ hw803_5)).trans hw803_5), ((HB.out.cell (World.block_lt_of_cell? w _ hw803_6)).trans hw803_6), ((HB.out.cell (World.block_lt_of_cell? w _ hw803_7)).trans hw803_7), ((HB.out.cell (World.block_lt_of_cell? w _ hw803_8)).trans hw803_8), ((HB.out.cell (World.block_lt_of_cell? w _ hw803_9)).trans hw803_9), ((HB.out.cell (World.block_lt_of_cell? w _ hw803_10)).trans hw803_10), ((HB.out.cell (World.block_lt_of_cell? w _ hw803_11)).trans hw803_11), ((HB.out.cell (World.block_lt_of_cell? w _ hw803_12)).trans hw803_12), ((HB.out.cell (World.block_lt_of_cell? w _ hw803_13)).trans hw803_13)⟩ (fun hHeld => ?_)
   clear hK K
   refine norm_ (a' := ?_) ?_ ?_
   rotate_left
   ·
    show Act.put _ (some 25) _ = _
    simp only [Act.put, List.setIfInBounds_toArray, List.set_cons_zero, List.set_cons_succ, i64_w, i32_w]
    rfl
   refine pure_ (i := 9) (N := some 26) (v := ?_) (a' := ?_) #[true, true, true, true, true, true, true, true, true, true] rfl rfl (any_of HT_.out (by kernel_rfl)) (fun _ _ _ h => h) (Or.inl ⟨by rfl, ?_⟩) ?_ ?_
   rotate_left
   ·
    intro w'
    go_simp
    with_reducible rfl
   rotate_left
   ·
    simp only [Act.put, List.setIfInBounds_toArray, List.set_cons_zero, List.set_cons_succ, i64_w, i32_w]
    rfl
   refine done_ (done_of HT_.out (by kernel_rfl)) ?_
   try go_wp2
   go_roundg k1
   case measure => have := HK1.out; omega
   case rel => exact ⟨(wrap64 (x5_1 + 1)), au61, H', ⟨by have := HK1.out; omega⟩, ⟨by repeat (first | (with_reducible first | exact HB.out | apply below_alloc | apply pw_below_drewN | apply below_drew1) | exact HB.out)⟩⟩
  |
   with_reducible refine (laws_eqEntry.calls k1 ((rd_T65 l0 x5_1).f0) ((rd_T65 l0 x5_1).f1) _ _ ((rd_T65 l0 x5_1).f2) _ _ ((rd_T65 l0 x5_1).f3) ((rd_T65 l0 x5_1).f4) ((rd_T65 l0 x5_1).f5) ((rd_T65 l0 x5_1).f6) ((rd_T65 l0 x5_1).f7.f0) ((rd_T65 l0 x5_1).f7.f1) ((rd_T65 l0 x5_1).f7.f2) ((rd_T65 l0 x5_1).f7.f3) ((rd_T65 l0 x5_1).f8) ((rd_T65 l0 x5_1).f9) ((rd_T65 l0 x5_1).f10) ((rd_T65 l1 x5_1).f0) ((rd_T65 l1 x5_1).f1) _ _ ((rd_T65 l1 x5_1).f2) _ _ ((rd_T65 l1 x5_1).f3) ((rd_T65 l1 x5_1).f4) ((rd_T65 l1 x5_1).f5) ((rd_T65 l1 x5_1).f6) ((rd_T65 l1 x5_1).f7.f0) ((rd_T65 l1 x5_1).f7.f1) ((rd_T65 l1 x5_1).f7.f2) ((rd_T65 l1 x5_1).f7.f3) ((rd_T65 l1 x5_1).f8) ((rd_T65 l1 x5_1).f9) ((rd_T65 l1 x5_1).f10) _ _ ?side1 ?side2 ?side3 ?side4 ?side5 ?side6 ?side7 ?side8 A7.out).mono ?_
   (case side1 => repeat (first | exact (Kd.C_below HR802_2.out HB.out) | (with_reducible refine Kd.C_alloc ?_ _) | (with_reducible refine Kd.C_drewN ?_ _) | (with_reducible refine Kd.C_drew ?_)))
   (case side2 => exact HC802_2.out)
   (case side3 => repeat (first | exact (Kd.C_below HR802_3.out HB.out) | (with_reducible refine Kd.C_alloc ?_ _) | (with_reducible refine Kd.C_drewN ?_ _) | (with_reducible refine Kd.C_drew ?_)))
   (case side4 => exact HC802_3.out)
   (case side5 => repeat (first | exact (Kd.C_below HR803_2.out HB.out) | (with_reducible refine Kd.C_alloc ?_ _) | (with_reducible refine Kd.C_drewN ?_ _) | (with_reducible refine Kd.C_drew ?_)))
   (case side6 => exact HC803_2.out)
   (case side7 => repeat (first | exact (Kd.C_below HR803_3.out HB.out) | (with_reducible refine Kd.C_alloc ?_ _) | (with_reducible refine Kd.C_drewN ?_ _) | (with_reducible refine Kd.C_drew ?_)))
   (case side8 => exact HC803_3.out)
   rintro e w12 ⟨rfl, hb⟩
   refine ⟨_, rfl, ?_⟩
   have n0_ := Aside0.mk (below_step au31 hb)
   clear HB
   have HB := n0_
   clear n0_
   (try clear hb)
   (try clear hb2)
   (try clear hk)
   (try clear hi)
   refine hK.out _ _ ⟨((HB.out.cell (World.block_lt_of_cell? w _ hw802_0)).trans hw802_0), ((HB.out.cell (World.block_lt_of_cell? w _ hw802_1)).trans hw802_1), ((HB.out.cell (World.block_lt_of_cell? w _ hw802_2)).trans hw802_2), ((HB.out.cell (World.block_lt_of_cell? w _ hw802_3)).trans hw802_3), ((HB.out.cell (World.block_lt_of_cell? w _ hw802_4)).trans hw802_4), ((HB.out.cell (World.block_lt_of_cell? w _ hw802_5)).trans hw802_5), ((HB.out.cell (World.block_lt_of_cell? w _ hw802_6)).trans hw802_6), ((HB.out.cell (World.block_lt_of_cell? w _ hw802_7)).trans hw802_7), ((HB.out.cell (World.block_lt_of_cell? w _ hw802_8)).trans hw802_8), ((HB.out.cell (World.block_lt_of_cell? w _ hw802_9)).trans hw802_9), ((HB.out.cell (World.block_lt_of_cell? w _ hw802_10)).trans hw802_10), ((HB.out.cell (World.block_lt_of_cell? w _ hw802_11)).trans hw802_11), ((HB.out.cell (World.block_lt_of_cell? w _ hw802_12)).trans hw802_12), ((HB.out.cell (World.block_lt_of_cell? w _ hw802_13)).trans hw802_13), ((HB.out.cell (World.block_lt_of_cell? w _ hw803_0)).trans hw803_0), ((HB.out.cell (World.block_lt_of_cell? w _ hw803_1)).trans hw803_1), ((HB.out.cell (World.block_lt_of_cell? w _ hw803_2)).trans hw803_2), ((HB.out.cell (World.block_lt_of_cell? w _ hw803_3)).trans hw803_3), ((HB.out.cell (World.block_lt_of_cell? w _ hw803_4)).trans hw803_4), ((HB.out.cell (World.block_lt_of_cell? w _ hw803_5)).trans hw803_5), ((HB.out.cell (World.block_lt_of_cell? w _ hw803_6)).trans hw803_6), ((HB.out.cell (World.block_lt_of_cell? w _ hw803_7)).trans hw803_7), ((HB.out.cell (World.block_lt_of_cell? w _ hw803_8)).trans hw803_8), ((HB.out.cell (World.block_lt_of_cell? w _ hw803_9)).trans hw803_9), ((HB.out.cell (World.block_lt_of_cell? w _ hw803_10)).trans hw803_10), ((HB.out.cell (World.block_lt_of_cell? w _ hw803_11)).trans hw803_11), ((HB.out.cell (World.block_lt_of_cell? w _ hw803_12)).trans hw803_12), ((HB.out.cell (World.block_lt_of_cell? w _ hw803_13)).trans hw803_13)⟩ (fun hHeld => ?_)
   clear hK K
   refine norm_ (a' := ?_) ?_ ?_
   rotate_left
   ·
    show Act.put _ (some 25) _ = _
    simp only [Act.put, List.setIfInBounds_toArray, List.set_cons_zero, List.set_cons_succ, i64_w, i32_w]
    rfl
   refine pure_ (i := 9) (N := some 26) (v := ?_) (a' := ?_) #[true, true, true, true, true, true, true, true, true, true] rfl rfl (any_of HT_.out (by kernel_rfl)) (fun _ _ _ h => h) (Or.inl ⟨by rfl, ?_⟩) ?_ ?_
   rotate_left
   ·
    intro w'
    go_simp
    with_reducible rfl
   rotate_left
   ·
    simp only [Act.put, List.setIfInBounds_toArray, List.set_cons_zero, List.set_cons_succ, i64_w, i32_w]
    rfl
   refine done_ (done_of HT_.out (by kernel_rfl)) ?_
   try go_wp2
   go_ret
   exact ax1) : P := h
set_option maxHeartbeats 8000000 in
set_option maxRecDepth 100000 in
theorem laws_eqEntryS.calls (k : Nat) (A0 : Option Addr) (c0 : Nat) (l0 : List (S65)) (A1 : Option Addr) (c1 : Nat) (l1 : List (S65)) (r : Bool) (w : World) (hr0 : Kd.C k65 w A0 l0.length l0) (hc0 : l0.length ≤ c0) (hr1 : Kd.C k65 w A1 l1.length l1) (hc1 : l1.length ≤ c1) (h : laws_eqEntryS.f k l0 l1 = some r) :
  Calls Tryd.prog 112 #[.slice A0 l0.length c0, .slice A1 l1.length c1] w fun e w' => e = .returned (.bool r) ∧ Below w.heap.size w w' := by
 have hu65 := Tryd.underlying65
 have HR0 := Aside0.mk hr0
 have HC0 := Aside0.mk hc0
 clear hr0 hc0
 have HR1 := Aside0.mk hr1
 have HC1 := Aside0.mk hc1
 clear hr1 hc1
 have HB := Aside0.mk (Below.refl w.heap.size w)
 have H : (if (l0.length : Int) = (l1.length : Int) then (laws_eqEntryS.l0 k l0 l1 0) else (some false)) = some r := h
 clear h
 by_cases c3 : (l0.length : Int) = (l1.length : Int)
 ·
  rw [if_pos c3] at H
  have c3b0 : ((l0.length : Int) == (l1.length : Int)) = true := beq_iff_eq.mpr c3
  have c3b1 : ((l0.length : Int) != (l1.length : Int)) = false := bne_eq_false_iff_eq.mpr c3
  have c3b2 : (l0.length == l1.length) = true := by first | simpa using c3 | (simp at c3 ⊢; omega)
  clear c3
  have H' := Aside0.mk H
  clear H
  go_enter Tryd.func112, Tryd.ntmps112
  go_wp2
  go_loopg [5] k (fun kq v5 w' => ∃ (x5_1 : Int), v5 = .int .i64 x5_1 ∧ Aside0 (laws_eqEntryS.l0 kq l0 l1 x5_1 = some r) ∧ Aside0 (kq ≤ k) ∧ Aside0 (Below w.heap.size w w'))
  case atStart => exact ⟨(0), au61, H', ⟨Nat.le_refl _⟩, ⟨by repeat (first | (with_reducible first | exact HB.out | apply below_alloc | apply pw_below_drewN | apply below_drew1) | exact HB.out)⟩⟩
  case round =>
   clear H'
   try clear c1
   try clear p2
   try clear c3
   try clear c3b0
   try clear c3b1
   try clear c3b2
   obtain ⟨x5_1, rfl, HA, HK1, HB⟩ := hrel
   cases gk with
   | zero => exact absurd HA.out (by simp [laws_eqEntryS.l0])
   | succ k1 =>
    have H := HA.out
    clear HA
    simp only [laws_eqEntryS.l0] at H
    by_cases c4 : x5_1 < (l0.length : Int)
    ·
     rw [if_pos c4] at H
     have c4b0 : decide (x5_1 < (l0.length : Int)) = true := decide_eq_true c4
     clear c4
     by_cases c5 : 0 ≤ x5_1
     ·
      rw [if_pos c5] at H
      have c5b0 : decide (0 ≤ x5_1) = true := decide_eq_true c5
      clear c5
      by_cases c6 : x5_1 < (l1.length : Int)
      ·
       rw [if_pos c6] at H
       have c6b0 : decide (x5_1 < (l1.length : Int)) = true := decide_eq_true c6
       clear c6
       replace H := Option.bind_eq_some_iff.mp H
       obtain ⟨t804, A70, H⟩ := H
       try dsimp only at H
       have A7 := Aside0.mk A70
       clear A70
       by_cases c8 : t804 = true
       ·
        subst c8
        replace H := (if_pos rfl).symm.trans H
        have H' := Aside0.mk H
        clear H
        exact laws_eqEntryS.L0
       ·
        replace c8 := Bool.eq_false_iff.mpr c8
        subst c8
        replace H := (if_neg (show ¬ (false = true) by decide)).symm.trans H
        obtain rfl := Option.some.inj H
        exact laws_eqEntryS.L0
      ·
       rw [if_neg c6] at H
       exact absurd H (by simp)
     ·
      rw [if_neg c5] at H
      exact absurd H (by simp)
    ·
     rw [if_neg c4] at H
     have c4b0 : decide (x5_1 < (l0.length : Int)) = false := decide_eq_false c4
     clear c4
     obtain rfl := Option.some.inj H
     go_wp2
     go_ret
     exact ax1
 ·
  rw [if_neg c3] at H
  have c3b0 : ((l0.length : Int) == (l1.length : Int)) = false := beq_eq_false_iff_ne.mpr c3
  have c3b1 : ((l0.length : Int) != (l1.length : Int)) = true := bne_iff_ne.mpr c3
  have c3b2 : (l0.length == l1.length) = false := by first | simpa using c3 | (simp at c3 ⊢; omega)
  obtain rfl := Option.some.inj H
  go_enter Tryd.func112, Tryd.ntmps112
  go_wp2
  go_ret
  exact ax1


/-! ### laws_eqLibrary: function 50 -/
def laws_eqLibrary.f (k : Nat) (l0_0 : List (S65)) (l1_0 : List (S65)) : Option (Bool) := (laws_eqEntryS.f k l0_0 l1_0).bind fun t807 => (if t807 = true then (some true) else (some false))
theorem laws_eqLibrary.mono : ∀ a0 a1 k, LeO (laws_eqLibrary.f k a0 a1) (laws_eqLibrary.f (k + 1) a0 a1) := by
 intro a0 a1 k
 unfold laws_eqLibrary.f
 repeat' first
   | (with_reducible exact laws_eqEntryS.mono _ _ _)
   | (with_reducible exact LeO.refl _)
   | (with_reducible exact LeO.none _)
   | (with_reducible refine LeO.ite ?_ ?_)
   | (with_reducible refine LeO.bind ?_ (fun _ => ?_))
   | exact laws_eqEntryS.mono _ _ _
   | exact LeO.none _
   | refine LeO.ite ?_ ?_
   | refine LeO.bind ?_ (fun _ => ?_)
set_option maxRecDepth 100000 in
theorem laws_eqLibrary.L0 {P : Prop} (h : P := by
  go_enter Tryd.func50, Tryd.ntmps50
  go_wp2_with (first | ((with_reducible refine gate_dst (N := 2) rfl ?_); refine box_event ?hg (N := 2) ?hd (cs := #[.slice A0_0 l0_0.length c0_0]) (t := 76) ?hr ?_; (case hd => rfl); (case hg => rfl); (case hr => first | (go_simp; done) | (go_simp; rfl)); intro gb805 hg w11 hbox hb; have n0_ := Aside0.mk (below_step au31 hb); have n1_ := Aside0.mk (hbox); have n2_ := Aside0.mk ((by rw [hg]; exact (below_size au31) : w.heap.size ≤ gb805)); have n3_ := Aside0.mk ((by rw [hg]; exact (below_size au31) : w.heap.size ≤ gb805)); clear HB; have HB := n0_; have BK805 := n1_; have GW805 := n2_; have GE805 := n3_; clear n0_ n1_ n2_ n3_; clear hb hbox hg) | ((with_reducible refine gate_dst (N := 3) rfl ?_); refine box_event ?hg (N := 3) ?hd (cs := #[.slice A1_0 l1_0.length c1_0]) (t := 76) ?hr ?_; (case hd => rfl); (case hg => rfl); (case hr => first | (go_simp; done) | (go_simp; rfl)); intro gb806 hg w12 hbox hb; have n0_ := Aside0.mk (blk_below (g := gb805) (o := .cells #[.slice A0_0 l0_0.length c0_0] 76 (0, 0)) au53 hb); have n1_ := Aside0.mk (below_step au28 hb); have n2_ := Aside0.mk (hbox); have n3_ := Aside0.mk ((by rw [hg]; exact (below_size au28) : w.heap.size ≤ gb806)); have n4_ := Aside0.mk ((by rw [hg]; exact (below_size au28) : w.heap.size ≤ gb806)); have n5_ := Aside0.mk ((by rw [hg]; exact Nat.ne_of_lt (blk_lt (g := gb805) (o := .cells #[.slice A0_0 l0_0.length c0_0] 76 (0, 0)) au53) : gb805 ≠ gb806)); have n6_ := Aside0.mk ((by rw [hg]; exact Nat.ne_of_gt (blk_lt (g := gb805) (o := .cells #[.slice A0_0 l0_0.length c0_0] 76 (0, 0)) au53) : gb806 ≠ gb805)); clear BK805; clear HB; have BK805 := n0_; have HB := n1_; have BK806 := n2_; have GW806 := n3_; have GE806 := n4_; have NB805_806 := n5_; have NB806_805 := n6_; clear n0_ n1_ n2_ n3_ n4_ n5_ n6_; clear hb hbox hg; have hnb13 := NB805_806.out; have hnc13 := NB806_805.out; have hcz14_0 : w12.cell? ⟨gb805, 0, none⟩ = some (.slice A0_0 l0_0.length c0_0) := (blk_cell BK805.out 0).trans rfl; have hfz14_0 := blk_frozen BK805.out 0; have hcz15_0 : w12.cell? ⟨gb806, 0, none⟩ = some (.slice A1_0 l1_0.length c1_0) := (blk_cell BK806.out 0).trans rfl; have hfz15_0 := blk_frozen BK806.out 0) | ((with_reducible refine gate_callee (f := 112) rfl ?_); refine goesL_ (some 9) rfl rfl Tryd.func112 (by kernel_rfl) rfl #[.slice A0_0 l0_0.length c0_0, .slice A1_0 l1_0.length c1_0] rfl au30 ?_; (with_reducible refine (laws_eqEntryS.calls k _ _ l0_0 _ _ l1_0 _ _ ?side1 ?side2 ?side3 ?side4 A3.out).mono ?_); (case side1 => repeat (first | exact (Kd.C_below HR0_0.out HB.out) | (with_reducible refine Kd.C_alloc ?_ _) | (with_reducible refine Kd.C_drewN ?_ _) | (with_reducible refine Kd.C_drew ?_))); (case side2 => exact HC0_0.out); (case side3 => repeat (first | exact (Kd.C_below HR1_0.out HB.out) | (with_reducible refine Kd.C_alloc ?_ _) | (with_reducible refine Kd.C_drewN ?_ _) | (with_reducible refine Kd.C_drew ?_))); (case side4 => exact HC1_0.out); rintro e w16 ⟨rfl, hb⟩; refine ⟨_, rfl, ?_⟩; have n0_ := Aside0.mk (blk_below (g := gb805) (o := .cells #[.slice A0_0 l0_0.length c0_0] 76 (0, 0)) au53 hb); have n1_ := Aside0.mk (blk_below (g := gb806) (o := .cells #[.slice A1_0 l1_0.length c1_0] 76 (0, 0)) (by (with_reducible repeat (first | refine blk_drewN ?_ _ | refine blk_drew ?_ | refine blk_alloc ?_ _)); exact BK806.out) hb); have n2_ := Aside0.mk (below_step (by repeat (first | (with_reducible first | exact HB.out | apply below_alloc | apply pw_below_drewN | apply below_drew1 | refine below_set ?_ GE805.out | refine below_set ?_ GE806.out) | exact HB.out)) hb); clear BK805; clear BK806; clear HB; have BK805 := n0_; have BK806 := n1_; have HB := n2_; clear n0_ n1_ n2_; (try clear hb); (try clear hb2); (try clear hk); (try clear hi)))
  go_ret
  exact ⟨by first | rfl | (simp [errW_none, errW_some] <;> rfl) | (simp [*, errW_none, errW_some] <;> rfl), by repeat (first | (with_reducible first | exact HB.out | apply below_alloc | apply pw_below_drewN | apply below_drew1 | refine below_set ?_ GE805.out | refine below_set ?_ GE806.out) | exact HB.out)⟩) : P := h
set_option maxHeartbeats 8000000 in
set_option maxRecDepth 100000 in
theorem laws_eqLibrary.calls (k : Nat) (A0_0 : Option Addr) (c0_0 : Nat) (l0_0 : List (S65)) (A1_0 : Option Addr) (c1_0 : Nat) (l1_0 : List (S65)) (r : Bool) (w : World) (hr0_0 : Kd.C k65 w A0_0 l0_0.length l0_0) (hc0_0 : l0_0.length ≤ c0_0) (hr1_0 : Kd.C k65 w A1_0 l1_0.length l1_0) (hc1_0 : l1_0.length ≤ c1_0) (h : laws_eqLibrary.f k l0_0 l1_0 = some r) :
  Calls Tryd.prog 50 #[.agg #[.slice A0_0 l0_0.length c0_0], .agg #[.slice A1_0 l1_0.length c1_0]] w fun e w' => e = .returned (.bool r) ∧ Below w.heap.size w w' := by
 have hu76 := Tryd.underlying76
 have HR0_0 := Aside0.mk hr0_0
 have HC0_0 := Aside0.mk hc0_0
 clear hr0_0 hc0_0
 have HR1_0 := Aside0.mk hr1_0
 have HC1_0 := Aside0.mk hc1_0
 clear hr1_0 hc1_0
 have HB := Aside0.mk (Below.refl w.heap.size w)
 have H : ((laws_eqEntryS.f k l0_0 l1_0).bind fun t807 => (if t807 = true then (some true) else (some false))) = some r := h
 clear h
 replace H := Option.bind_eq_some_iff.mp H
 obtain ⟨t807, A30, H⟩ := H
 try dsimp only at H
 have A3 := Aside0.mk A30
 clear A30
 by_cases c4 : t807 = true
 ·
  subst c4
  replace H := (if_pos rfl).symm.trans H
  obtain rfl := Option.some.inj H
  exact laws_eqLibrary.L0
 ·
  replace c4 := Bool.eq_false_iff.mpr c4
  subst c4
  replace H := (if_neg (show ¬ (false = true) by decide)).symm.trans H
  obtain rfl := Option.some.inj H
  exact laws_eqLibrary.L0


/-! ### laws_FnExactIsValidLibrary: function 9 -/
def laws_FnExactIsValidLibrary.f (k : Nat) (l0_0 : List (S60)) : Option (Bool) := (laws_szLibrary.f k l0_0 1048576).bind fun t809 => (if t809 < 0 then (some true) else ((laws_toLibrary.f k l0_0).bind fun t810 => ((spec_IsValidLibrary.f k t810).bind fun t813 => ((laws_toLibrary.f k l0_0).bind fun t814 => ((impl_IsValidLibrary.f k t814).bind fun t818 => (if (t818 != t813) = true then (some false) else ((laws_toLibrary.f k l0_0).bind fun t819 => ((laws_eqLibrary.f k t814 t819).bind fun t822 => (if t822 = true then (some true) else (some false))))))))))
theorem laws_FnExactIsValidLibrary.mono : ∀ a0 k, LeO (laws_FnExactIsValidLibrary.f k a0) (laws_FnExactIsValidLibrary.f (k + 1) a0) := by
 intro a0 k
 unfold laws_FnExactIsValidLibrary.f
 repeat' first
   | (with_reducible exact impl_IsValidLibrary.mono _ _)
   | (with_reducible exact laws_eqLibrary.mono _ _ _)
   | (with_reducible exact laws_szLibrary.mono _ _ _)
   | (with_reducible exact laws_toLibrary.mono _ _)
   | (with_reducible exact spec_IsValidLibrary.mono _ _)
   | (with_reducible exact LeO.refl _)
   | (with_reducible exact LeO.none _)
   | (with_reducible refine LeO.ite ?_ ?_)
   | (with_reducible refine LeO.bind ?_ (fun _ => ?_))
   | exact impl_IsValidLibrary.mono _ _
   | exact laws_eqLibrary.mono _ _ _
   | exact laws_szLibrary.mono _ _ _
   | exact laws_toLibrary.mono _ _
   | exact spec_IsValidLibrary.mono _ _
   | exact LeO.none _
   | refine LeO.ite ?_ ?_
   | refine LeO.bind ?_ (fun _ => ?_)
set_option maxHeartbeats 8000000 in
set_option maxRecDepth 100000 in
theorem laws_FnExactIsValidLibrary.calls (k : Nat) (A0_0 : Option Addr) (c0_0 : Nat) (l0_0 : List (S60)) (w : World) {gF1 gF2 gF3 : Bool} (hG : GL gF1 gF2 gF3 w) (hr0_0 : Kd.C k60 w A0_0 l0_0.length l0_0) (hc0_0 : l0_0.length ≤ c0_0) (h : laws_FnExactIsValidLibrary.f k l0_0 = some true) :
  Calls Tryd.prog 9 #[.agg #[.slice A0_0 l0_0.length c0_0]] w fun e w' => e = .returned (.bool true) ∧ Below w.heap.size w w' := by
 have HG := Aside0.mk hG
 clear hG
 have hu71 := Tryd.underlying71
 have hu76 := Tryd.underlying76
 have HR0_0 := Aside0.mk hr0_0
 have HC0_0 := Aside0.mk hc0_0
 clear hr0_0 hc0_0
 have HB := Aside0.mk (Below.refl w.heap.size w)
 have H : ((laws_szLibrary.f k l0_0 1048576).bind fun t809 => (if t809 < 0 then (some true) else ((laws_toLibrary.f k l0_0).bind fun t810 => ((spec_IsValidLibrary.f k t810).bind fun t813 => ((laws_toLibrary.f k l0_0).bind fun t814 => ((impl_IsValidLibrary.f k t814).bind fun t818 => (if (t818 != t813) = true then (some false) else ((laws_toLibrary.f k l0_0).bind fun t819 => ((laws_eqLibrary.f k t814 t819).bind fun t822 => (if t822 = true then (some true) else (some false))))))))))) = some true := h
 clear h
 replace H := Option.bind_eq_some_iff.mp H
 obtain ⟨t809, A20, H⟩ := H
 try dsimp only at H
 have A2 := Aside0.mk A20
 clear A20
 by_cases c3 : t809 < 0
 ·
  rw [if_pos c3] at H
  have c3b0 : decide (t809 < 0) = true := decide_eq_true c3
  clear c3
  clear H
  go_enter Tryd.func9, Tryd.ntmps9
  go_wp2_with (first | ((with_reducible refine gate_dst (N := 1) rfl ?_); refine box_event ?hg (N := 1) ?hd (cs := #[.slice A0_0 l0_0.length c0_0]) (t := 71) ?hr ?_; (case hd => rfl); (case hg => rfl); (case hr => first | (go_simp; done) | (go_simp; rfl)); intro gb808 hg w4 hbox hb; have n0_ := Aside0.mk (below_step au31 hb); have n1_ := Aside0.mk (hbox); have n2_ := Aside0.mk ((by rw [hg]; exact (below_size au31) : w.heap.size ≤ gb808)); have n3_ := Aside0.mk ((by rw [hg]; exact (below_size au31) : w.heap.size ≤ gb808)); clear HB; have HB := n0_; have BK808 := n1_; have GW808 := n2_; have GE808 := n3_; clear n0_ n1_ n2_ n3_; clear hb hbox hg; have hcz5_0 : w4.cell? ⟨gb808, 0, none⟩ = some (.slice A0_0 l0_0.length c0_0) := (blk_cell BK808.out 0).trans rfl; have hfz5_0 := blk_frozen BK808.out 0) | ((with_reducible refine gate_callee (f := 46) rfl ?_); refine goesL_ (some 9) rfl rfl Tryd.func46 (by kernel_rfl) rfl #[.agg #[.slice A0_0 l0_0.length c0_0], .int .i64 1048576] rfl au30 ?_; (with_reducible refine (laws_szLibrary.calls k _ _ l0_0 1048576 t809 _ ?side1 ?side2 A2.out).mono ?_); (case side1 => repeat (first | exact (Kd.C_below HR0_0.out HB.out) | (with_reducible refine Kd.C_alloc ?_ _) | (with_reducible refine Kd.C_drewN ?_ _) | (with_reducible refine Kd.C_drew ?_))); (case side2 => exact HC0_0.out); rintro e w6 ⟨rfl, hb⟩; refine ⟨_, rfl, ?_⟩; have n0_ := Aside0.mk (blk_below (g := gb808) (o := .cells #[.slice A0_0 l0_0.length c0_0] 71 (0, 0)) au54 hb); have n1_ := Aside0.mk (below_step au29 hb); clear BK808; clear HB; have BK808 := n0_; have HB := n1_; clear n0_ n1_; (try clear hb); (try clear hb2); (try clear hk); (try clear hi)))
  go_ret
  exact ⟨by first | rfl | (simp [errW_none, errW_some] <;> rfl) | (simp [*, errW_none, errW_some] <;> rfl), by repeat (first | (with_reducible first | exact HB.out | apply below_alloc | apply pw_below_drewN | apply below_drew1 | refine below_set ?_ GE808.out) | exact HB.out)⟩
 ·
  rw [if_neg c3] at H
  have c3b0 : decide (t809 < 0) = false := decide_eq_false c3
  clear c3
  replace H := Option.bind_eq_some_iff.mp H
  obtain ⟨t810, A70, H⟩ := H
  try dsimp only at H
  have A7 := Aside0.mk A70
  clear A70
  replace H := Option.bind_eq_some_iff.mp H
  obtain ⟨t813, A80, H⟩ := H
  try dsimp only at H
  have A8 := Aside0.mk A80
  clear A80
  replace H := Option.bind_eq_some_iff.mp H
  obtain ⟨t814, A90, H⟩ := H
  try dsimp only at H
  have A9 := Aside0.mk A90
  clear A90
  replace H := Option.bind_eq_some_iff.mp H
  obtain ⟨t818, A100, H⟩ := H
  try dsimp only at H
  have A10 := Aside0.mk A100
  clear A100
  by_cases c11 : (t818 != t813) = true
  ·
   rw [if_pos c11] at H
   have c11b0 : (t818 != t813) = true := c11
   (try (have c11b1 : decide (t818 = t813) = false := by simpa using c11))
   (try (have c11b2 : (t818 == t813) = false := by simpa using c11))
   (try (have c11b3 : ¬ (t818 = t813) := by simpa using c11))
   clear c11
   exact absurd H (by simp)
  ·
   rw [if_neg c11] at H
   have c11b0 : (t818 != t813) = false := by simpa using c11
   (try (have c11b1 : decide (t818 = t813) = true := by simpa using c11))
   (try (have c11b2 : (t818 == t813) = true := by simpa using c11))
   clear c11
   replace H := Option.bind_eq_some_iff.mp H
   obtain ⟨t819, A260, H⟩ := H
   try dsimp only at H
   have A26 := Aside0.mk A260
   clear A260
   replace H := Option.bind_eq_some_iff.mp H
   obtain ⟨t822, A270, H⟩ := H
   try dsimp only at H
   have A27 := Aside0.mk A270
   clear A270
   by_cases c28 : t822 = true
   ·
    subst c28
    have H1 : (some true) = some true := rfl
    clear H
    have H := H1
    clear H1
    clear H
    go_enter Tryd.func9, Tryd.ntmps9
    try go_wp2_with (first | ((with_reducible refine gate_dst (N := 1) rfl ?_); refine box_event ?hg (N := 1) ?hd (cs := #[.slice A0_0 l0_0.length c0_0]) (t := 71) ?hr ?_; (case hd => rfl); (case hg => rfl); (case hr => first | (go_simp; done) | (go_simp; rfl)); intro gb808 hg w29 hbox hb; have n0_ := Aside0.mk (below_step au31 hb); have n1_ := Aside0.mk (hbox); have n2_ := Aside0.mk ((by rw [hg]; exact (below_size au31) : w.heap.size ≤ gb808)); have n3_ := Aside0.mk ((by rw [hg]; exact (below_size au31) : w.heap.size ≤ gb808)); clear HB; have HB := n0_; have BK808 := n1_; have GW808 := n2_; have GE808 := n3_; clear n0_ n1_ n2_ n3_; clear hb hbox hg; have hcz30_0 : w29.cell? ⟨gb808, 0, none⟩ = some (.slice A0_0 l0_0.length c0_0) := (blk_cell BK808.out 0).trans rfl; have hfz30_0 := blk_frozen BK808.out 0) | ((with_reducible refine gate_callee (f := 46) rfl ?_); refine goesL_ (some 9) rfl rfl Tryd.func46 (by kernel_rfl) rfl #[.agg #[.slice A0_0 l0_0.length c0_0], .int .i64 1048576] rfl au30 ?_; (with_reducible refine (laws_szLibrary.calls k _ _ l0_0 1048576 t809 _ ?side1 ?side2 A2.out).mono ?_); (case side1 => repeat (first | exact (Kd.C_below HR0_0.out HB.out) | (with_reducible refine Kd.C_alloc ?_ _) | (with_reducible refine Kd.C_drewN ?_ _) | (with_reducible refine Kd.C_drew ?_))); (case side2 => exact HC0_0.out); rintro e w31 ⟨rfl, hb⟩; refine ⟨_, rfl, ?_⟩; have n0_ := Aside0.mk (blk_below (g := gb808) (o := .cells #[.slice A0_0 l0_0.length c0_0] 71 (0, 0)) au54 hb); have n1_ := Aside0.mk (below_step au29 hb); clear BK808; clear HB; have BK808 := n0_; have HB := n1_; clear n0_ n1_; (try clear hb); (try clear hb2); (try clear hk); (try clear hi); have hcz32_0 : w31.cell? ⟨gb808, 0, none⟩ = some (.slice A0_0 l0_0.length c0_0) := (blk_cell BK808.out 0).trans rfl; have hfz32_0 := blk_frozen BK808.out 0) | ((with_reducible refine gate_callee (f := 48) rfl ?_); refine goesL_ (some 13) rfl rfl Tryd.func48 (by kernel_rfl) rfl #[.agg #[.slice A0_0 l0_0.length c0_0]] rfl au30 ?_; (with_reducible refine (laws_toLibrary.calls k _ _ l0_0 t810 _ ?side1 ?side2 A7.out).mono ?_); (case side1 => repeat (first | exact (Kd.C_below HR0_0.out HB.out) | (with_reducible refine Kd.C_alloc ?_ _) | (with_reducible refine Kd.C_drewN ?_ _) | (with_reducible refine Kd.C_drew ?_))); (case side2 => exact HC0_0.out); rintro e w33 ⟨v811, rfl, ho0, hb⟩; refine ⟨_, rfl, ?_⟩; have n0_ := Aside0.mk (Kd.R_lower ho0 (below_size au29)); have n1_ := Aside0.mk (blk_below (g := gb808) (o := .cells #[.slice A0_0 l0_0.length c0_0] 71 (0, 0)) au54 hb); have n2_ := Aside0.mk (below_step au29 hb); clear BK808; clear HB; have HO812 := n0_; have BK808 := n1_; have HB := n2_; clear n0_ n1_ n2_; (try clear hb); (try clear hb2); (try clear hk); (try clear hi); (try clear ho0); obtain ⟨Ao34, co34, eo34⟩ := Kd.R_slice HO812.out; subst eo34) | ((with_reducible refine gate_callee (f := 47) rfl ?_); refine goesL_ (some 14) rfl rfl Tryd.func47 (by kernel_rfl) rfl #[.agg #[.slice Ao34 t810.length co34]] rfl au30 ?_; (with_reducible refine (spec_IsValidLibrary.calls k _ _ t810 t813 _ ?side1 ?side2 A8.out).mono ?_); (case side1 => repeat (first | exact (Kd.R_reads' HO812.out).2.2 | (with_reducible refine Kd.C_alloc ?_ _) | (with_reducible refine Kd.C_drewN ?_ _) | (with_reducible refine Kd.C_drew ?_))); (case side2 => exact (Kd.R_reads' HO812.out).2.1); rintro e w35 ⟨rfl, hb⟩; refine ⟨_, rfl, ?_⟩; have n0_ := Aside0.mk (Kd.R_below au56 hb); have n1_ := Aside0.mk (blk_below (g := gb808) (o := .cells #[.slice A0_0 l0_0.length c0_0] 71 (0, 0)) au54 hb); have n2_ := Aside0.mk (below_step au29 hb); clear HO812; clear BK808; clear HB; have HO812 := n0_; have BK808 := n1_; have HB := n2_; clear n0_ n1_ n2_; (try clear hb); (try clear hb2); (try clear hk); (try clear hi); have hcz36_0 : w35.cell? ⟨gb808, 0, none⟩ = some (.slice A0_0 l0_0.length c0_0) := (blk_cell BK808.out 0).trans rfl; have hfz36_0 := blk_frozen BK808.out 0) | ((with_reducible refine gate_callee (f := 48) rfl ?_); refine goesL_ (some 16) rfl rfl Tryd.func48 (by kernel_rfl) rfl #[.agg #[.slice A0_0 l0_0.length c0_0]] rfl au30 ?_; (with_reducible refine (laws_toLibrary.calls k _ _ l0_0 t814 _ ?side1 ?side2 A9.out).mono ?_); (case side1 => repeat (first | exact (Kd.C_below HR0_0.out HB.out) | (with_reducible refine Kd.C_alloc ?_ _) | (with_reducible refine Kd.C_drewN ?_ _) | (with_reducible refine Kd.C_drew ?_))); (case side2 => exact HC0_0.out); rintro e w37 ⟨v815, rfl, ho0, hb⟩; refine ⟨_, rfl, ?_⟩; have n0_ := Aside0.mk (Kd.R_elder' au56 (Kd.R_base ho0) hb); have n1_ := Aside0.mk (Kd.R_lower (Kd.R_new' ho0 (Kd.R_lt au56)) (below_size au29)); have n2_ := Aside0.mk (blk_below (g := gb808) (o := .cells #[.slice A0_0 l0_0.length c0_0] 71 (0, 0)) au54 hb); have n3_ := Aside0.mk (below_step au29 hb); clear HO812; clear BK808; clear HB; have HO812 := n0_; have HO816 := n1_; have BK808 := n2_; have HB := n3_; clear n0_ n1_ n2_ n3_; (try clear hb); (try clear hb2); (try clear hk); (try clear hi); (try clear ho0)) | ((with_reducible refine gate_dst (N := 5) rfl ?_); refine box_event ?hg (N := 5) ?hd (cs := #[.slice none 0 0]) (t := 76) ?hr ?_; (case hd => rfl); (case hg => rfl); (case hr => first | (go_simp; done) | (go_simp; rfl)); intro gb817 hg w38 hbox hb; have n0_ := Aside0.mk (Kd.R_below au56 hb); have n1_ := Aside0.mk (Kd.R_below au57 hb); have n2_ := Aside0.mk (blk_below (g := gb808) (o := .cells #[.slice A0_0 l0_0.length c0_0] 71 (0, 0)) au54 hb); have n3_ := Aside0.mk (below_step au29 hb); have n4_ := Aside0.mk (hbox); have n5_ := Aside0.mk ((by rw [hg]; exact (below_size au29) : w.heap.size ≤ gb817)); have n6_ := Aside0.mk ((by rw [hg]; exact (below_size au29) : w.heap.size ≤ gb817)); have n7_ := Aside0.mk ((by rw [hg]; exact Nat.ne_of_lt (blk_lt (g := gb808) (o := .cells #[.slice A0_0 l0_0.length c0_0] 71 (0, 0)) au54) : gb808 ≠ gb817)); have n8_ := Aside0.mk ((by rw [hg]; exact Nat.ne_of_gt (blk_lt (g := gb808) (o := .cells #[.slice A0_0 l0_0.length c0_0] 71 (0, 0)) au54) : gb817 ≠ gb808)); clear HO812; clear HO816; clear BK808; clear HB; have HO812 := n0_; have HO816 := n1_; have BK808 := n2_; have HB := n3_; have BK817 := n4_; have GW817 := n5_; have GE817 := n6_; have NB808_817 := n7_; have NB817_808 := n8_; clear n0_ n1_ n2_ n3_ n4_ n5_ n6_ n7_ n8_; clear hb hbox hg; obtain ⟨Ao39, co39, eo39⟩ := Kd.R_slice HO816.out; subst eo39; have hnb40 := NB817_808.out; have hnc40 := NB808_817.out; have hcz41_0 : w38.cell? ⟨gb817, 0, none⟩ = some (.slice none 0 0) := (blk_cell BK817.out 0).trans rfl; have hfz41_0 := blk_frozen BK817.out 0) | ((with_reducible refine gate_callee (f := 49) rfl ?_); refine goesL_ (some 18) rfl rfl Tryd.func49 (by kernel_rfl) rfl #[.agg #[.slice Ao39 t814.length co39]] rfl au30 ?_; (with_reducible refine (impl_IsValidLibrary.calls (hG := au0) k _ _ t814 t818 _ ?side1 ?side2 A10.out).mono ?_); (case side1 => refine (Kd.R_reads' (e := 65) (base := w.heap.size) (ok := fun k_ => (True ∧ some k_ ≠ (.slice Ao34 t810.length co34 : Value).ownBlock)) (n := t814.length) (c := co39) ?_).2.2; exact au2); (case side2 => exact (Kd.R_reads' HO816.out).2.1); rintro e w42 ⟨rfl, hb⟩; refine ⟨_, rfl, ?_⟩; have n0_ := Aside0.mk (Kd.R_below (by (with_reducible repeat (first | apply Kd.R_alloc | apply Kd.R_drewN | apply Kd.R_drew)); exact (Kd.R_mono (Kd.R_far (p := ⟨gb817, 0, none⟩) (Kd.R_types HO812.out BK817.out (by decide)) (fun _ hk => hk.2) (.slice Ao39 t814.length co39)) (fun _ h_ => h_.1))) hb); have n1_ := Aside0.mk (Kd.R_below au2 hb); have n2_ := Aside0.mk (blk_below (g := gb808) (o := .cells #[.slice A0_0 l0_0.length c0_0] 71 (0, 0)) (by (with_reducible repeat (first | refine blk_drewN ?_ _ | refine blk_drew ?_ | refine blk_alloc ?_ _)); refine blk_far ?_ NB808_817.out _; (with_reducible repeat (first | refine blk_drewN ?_ _ | refine blk_drew ?_ | refine blk_alloc ?_ _)); exact BK808.out) hb); have n3_ := Aside0.mk (blk_below (g := gb817) (o := .cells #[.slice Ao39 t814.length co39] 76 (0, 0)) (by (with_reducible repeat (first | refine blk_drewN ?_ _ | refine blk_drew ?_ | refine blk_alloc ?_ _)); refine blk_put (cs := #[.slice none 0 0]) ?_ 0 _ rfl; (with_reducible repeat (first | refine blk_drewN ?_ _ | refine blk_drew ?_ | refine blk_alloc ?_ _)); exact BK817.out) hb); have n4_ := Aside0.mk (below_step au12 hb); clear HO812; clear HO816; clear BK808; clear BK817; clear HB; have HO812 := n0_; have HO816 := n1_; have BK808 := n2_; have BK817 := n3_; have HB := n4_; clear n0_ n1_ n2_ n3_ n4_; (try clear hb); (try clear hb2); (try clear hk); (try clear hi)))
    have n0_ := Aside0.mk (Kd.R_drew HO812.out)
    have n1_ := Aside0.mk (Kd.R_drew HO816.out)
    have n2_ := Aside0.mk (blk_drew BK808.out)
    have n3_ := Aside0.mk (blk_drew BK817.out)
    have n4_ := Aside0.mk (below_drew1 HB.out)
    clear HO812
    clear HO816
    clear BK808
    clear BK817
    clear HB
    have HO812 := n0_
    have HO816 := n1_
    have BK808 := n2_
    have BK817 := n3_
    have HB := n4_
    clear n0_ n1_ n2_ n3_ n4_
    refine start_ (n := 5) (S := fun w' => w'.cell? ⟨gb817, 0, none⟩ = some (.slice Ao39 t814.length co39) ∧ w'.cell? ⟨gb808, 0, none⟩ = some (.slice A0_0 l0_0.length c0_0)) (ds := []) #[false, false, false, false, false] (by kernel_rfl) rfl rfl ⟨(blk_cell BK817.out 0).trans rfl, (blk_cell BK808.out 0).trans rfl⟩ (fun hHeld => ?_)
    generalize w42.drew = w43 at HO812 HO816 BK808 BK817 HB hHeld ⊢
    refine take_ (i := 0) (N := some 22) (v := ?_) (a' := ?_) #[true, false, false, false, false] rfl rfl (by kernel_rfl) (fun _ _ _ h => h) (Or.inl ⟨by rfl, ?_⟩) hHeld ?_ ?_
    rotate_left
    ·
     rintro w' ⟨s0, s1⟩
     go_simp
     with_reducible rfl
    rotate_left
    ·
     simp only [Act.put, List.setIfInBounds_toArray, List.set_cons_zero, List.set_cons_succ, i64_w, i32_w]
     rfl
    refine take_ (i := 1) (N := some 23) (v := ?_) (a' := ?_) #[true, true, false, false, false] rfl rfl (by kernel_rfl) (fun _ _ _ h => h) (Or.inl ⟨by rfl, ?_⟩) hHeld ?_ ?_
    rotate_left
    ·
     rintro w' ⟨s0, s1⟩
     go_simp
     with_reducible rfl
    rotate_left
    ·
     simp only [Act.put, List.setIfInBounds_toArray, List.set_cons_zero, List.set_cons_succ, i64_w, i32_w]
     rfl
    refine one_ (i := 2) (N := some 24) #[true, true, true, false, false] rfl rfl (by kernel_rfl) (by decide) (fun K hK => ?_)
    refine goes_ Tryd.func48 (by kernel_rfl) rfl #[.agg #[.slice A0_0 l0_0.length c0_0]] (by rfl) rfl rfl au30 ?_
    with_reducible refine (laws_toLibrary.calls k _ _ l0_0 t819 _ ?side1 ?side2 A26.out).mono ?_
    (case side1 => repeat (first | exact (Kd.C_below HR0_0.out HB.out) | (with_reducible refine Kd.C_alloc ?_ _) | (with_reducible refine Kd.C_drewN ?_ _) | (with_reducible refine Kd.C_drew ?_)))
    (case side2 => exact HC0_0.out)
    rintro e w44 ⟨v820, rfl, ho0, hb⟩
    refine ⟨_, rfl, ?_⟩
    have n0_ := Aside0.mk (Kd.R_elder' au56 (Kd.R_base ho0) hb)
    have n1_ := Aside0.mk (Kd.R_elder' au57 (Kd.R_base ho0) hb)
    have n2_ := Aside0.mk (Kd.R_lower (Kd.R_new' (Kd.R_new' ho0 (Kd.R_lt au56)) (Kd.R_lt au57)) (below_size au12))
    have n3_ := Aside0.mk (blk_below (g := gb808) (o := .cells #[.slice A0_0 l0_0.length c0_0] 71 (0, 0)) au54 hb)
    have n4_ := Aside0.mk (blk_below (g := gb817) (o := .cells #[.slice Ao39 t814.length co39] 76 (0, 0)) au55 hb)
    have n5_ := Aside0.mk (below_step au12 hb)
    clear HO812
    clear HO816
    clear BK808
    clear BK817
    clear HB
    have HO812 := n0_
    have HO816 := n1_
    have HO821 := n2_
    have BK808 := n3_
    have BK817 := n4_
    have HB := n5_
    clear n0_ n1_ n2_ n3_ n4_ n5_
    (try clear hb)
    (try clear hb2)
    (try clear hk)
    (try clear hi)
    (try clear ho0)
    obtain ⟨Ao45, co45, eo45⟩ := Kd.R_slice HO821.out
    (first | subst eo45 | (injection eo45 with f1_ f2_ f3_; have f4_ := f1_.symm; have f5_ := f3_.symm; clear f1_ f2_ f3_; subst f4_; subst f5_))
    refine hK.out _ _ ⟨(blk_cell BK817.out 0).trans rfl, (blk_cell BK808.out 0).trans rfl⟩ (fun hHeld => ?_)
    clear hK K
    refine norm_ (a' := ?_) ?_ ?_
    rotate_left
    ·
     show Act.put _ (some 24) _ = _
     simp only [Act.put, List.setIfInBounds_toArray, List.set_cons_zero, List.set_cons_succ, i64_w, i32_w]
     rfl
    refine one_ (i := 3) (N := some 25) #[true, true, true, true, false] rfl rfl (by kernel_rfl) (by decide) (fun K hK => ?_)
    refine goes_ Tryd.func50 (by kernel_rfl) rfl #[.agg #[.slice Ao39 t814.length co39], .agg #[.slice Ao45 t819.length co45]] (by rfl) rfl rfl au30 ?_
    with_reducible refine (laws_eqLibrary.calls k _ _ t814 _ _ t819 true _ ?side1 ?side2 ?side3 ?side4 A27.out).mono ?_
    (case side1 => repeat (first | exact (Kd.R_reads' HO816.out).2.2 | (with_reducible refine Kd.C_alloc ?_ _) | (with_reducible refine Kd.C_drewN ?_ _) | (with_reducible refine Kd.C_drew ?_)))
    (case side2 => exact (Kd.R_reads' HO816.out).2.1)
    (case side3 => repeat (first | exact (Kd.R_reads' HO821.out).2.2 | (with_reducible refine Kd.C_alloc ?_ _) | (with_reducible refine Kd.C_drewN ?_ _) | (with_reducible refine Kd.C_drew ?_)))
    (case side4 => exact (Kd.R_reads' HO821.out).2.1)
    rintro e w46 ⟨rfl, hb⟩
    refine ⟨_, rfl, ?_⟩
    have n0_ := Aside0.mk (Kd.R_below au56 hb)
    have n1_ := Aside0.mk (Kd.R_below au57 hb)
    have n2_ := Aside0.mk (Kd.R_below (by (with_reducible repeat (first | apply Kd.R_alloc | apply Kd.R_drewN | apply Kd.R_drew)); exact HO821.out) hb)
    have n3_ := Aside0.mk (blk_below (g := gb808) (o := .cells #[.slice A0_0 l0_0.length c0_0] 71 (0, 0)) au54 hb)
    have n4_ := Aside0.mk (blk_below (g := gb817) (o := .cells #[.slice Ao39 t814.length co39] 76 (0, 0)) au55 hb)
    have n5_ := Aside0.mk (below_step au12 hb)
    clear HO812
    clear HO816
    clear HO821
    clear BK808
    clear BK817
    clear HB
    have HO812 := n0_
    have HO816 := n1_
    have HO821 := n2_
    have BK808 := n3_
    have BK817 := n4_
    have HB := n5_
    clear n0_ n1_ n2_ n3_ n4_ n5_
    (try clear hb)
    (try clear hb2)
    (try clear hk)
    (try clear hi)
    refine hK.out _ _ ⟨(blk_cell BK817.out 0).trans rfl, (blk_cell BK808.out 0).trans rfl⟩ (fun hHeld => ?_)
    clear hK K
    refine norm_ (a' := ?_) ?_ ?_
    rotate_left
    ·
     show Act.put _ (some 25) _ = _
     simp only [Act.put, List.setIfInBounds_toArray, List.set_cons_zero, List.set_cons_succ, i64_w, i32_w]
     rfl
    refine pure_ (i := 4) (N := some 26) (v := ?_) (a' := ?_) #[true, true, true, true, true] rfl rfl (by kernel_rfl) (fun _ _ _ h => h) (Or.inl ⟨by rfl, ?_⟩) ?_ ?_
    rotate_left
    ·
     intro w'
     go_simp
     with_reducible rfl
    rotate_left
    ·
     simp only [Act.put, List.setIfInBounds_toArray, List.set_cons_zero, List.set_cons_succ, i64_w, i32_w]
     rfl
    refine done_ (by kernel_rfl) ?_
    try go_wp2
    go_ret
    exact ⟨by first | rfl | (simp [errW_none, errW_some] <;> rfl) | (simp [*, errW_none, errW_some] <;> rfl), by repeat (first | (with_reducible first | exact HB.out | apply below_alloc | apply pw_below_drewN | apply below_drew1 | refine below_set ?_ GE808.out | refine below_set ?_ GE817.out) | exact HB.out)⟩
   ·
    replace c28 := Bool.eq_false_iff.mpr c28
    subst c28
    replace H := (if_neg (show ¬ (false = true) by decide)).symm.trans H
    exact absurd H (by simp)

end Go.Proofs.YtcckamdpncbkoabDoor.G

namespace Go.Proofs.YtcckamdpncbkoabDoor.Opn
open Go.RowKit Go.Proofs.YtcckamdpncbkoabDoorW.PrintWords
set_option linter.unusedVariables false
set_option linter.unusedSimpArgs false
variable {H : Type} {enc : TypeId × Value → H} {P : Program} {w : World} {base : Nat} {spare : Nat → Bool} {held : Bool}
def okInt (k : IntKind) (n : Int) : Prop := (Lit.int k n).wf = true
def okBool (_ : Bool) : Prop := True
def okStr (s : ByteArray) : Prop := s.size ≤ 9223372036854775807
def okList {α : Type} (p : α → Prop) (xs : List α) : Prop := xs.length ≤ 9223372036854775807 ∧ ∀ x ∈ xs, p x
theorem of_int {t : TypeId} {k : IntKind} {fuel : Nat} {cs : List Value} {x : DataW H × List MemPlace} (ht : P.underlying t = some (.int k)) (h : DataW.trod enc P w base spare held fuel t cs = some x) :
    ∃ n, (Kd.int k).K w n cs ∧ okInt k n := by
  obtain ⟨n, rfl, rfl, hw⟩ := DataW.trod_int ht h
  exact ⟨n, rfl, hw⟩
theorem of_bool {t : TypeId} {fuel : Nat} {cs : List Value} {x : DataW H × List MemPlace} (ht : P.underlying t = some .bool) (h : DataW.trod enc P w base spare held fuel t cs = some x) :
    ∃ n, Kd.bool.K w n cs ∧ okBool n := by
  cases fuel with
  | zero => simp [DataW.trod] at h
  | succ fuel =>
    match cs with
    | [] => simp [DataW.trod, ht] at h
    | [v] => cases v <;> simp [DataW.trod, ht] at h; exact ⟨_, rfl, trivial⟩
    | _ :: _ :: _ => simp [DataW.trod, ht] at h
theorem of_string {t : TypeId} {fuel : Nat} {cs : List Value} {x : DataW H × List MemPlace} (ht : P.underlying t = some .string) (h : DataW.trod enc P w base spare held fuel t cs = some x) :
    ∃ n, Kd.string.K w n cs ∧ okStr n := by
  cases fuel with
  | zero => simp [DataW.trod] at h
  | succ fuel =>
    match cs with
    | [] => simp [DataW.trod, ht] at h
    | [v] => cases v <;> simp [DataW.trod, ht] at h; exact ⟨_, rfl, h.1⟩
    | _ :: _ :: _ => simp [DataW.trod, ht] at h
theorem add_add (a : Addr) (k i : Nat) : (a.add k).add i = a.add (k + i) := by
  unfold Addr.add
  by_cases hk : k = 0 <;> by_cases hi : i = 0 <;> simp [hk, hi, Nat.add_assoc]
theorem of_slice {α : Type} {d : Kd α} {ok : α → Prop} {t e : TypeId} {fuel : Nat} {cs : List Value} {x : DataW H × List MemPlace} (ht : P.underlying t = some (.slice e)) (hc : P.cellsOf e = d.sz)
    (ih : ∀ n cs x, DataW.trod enc P w base spare held n e cs = some x → ∃ y, d.K w y cs ∧ ok y) (h : DataW.trod enc P w base spare held fuel t cs = some x) :
    ∃ ys, (Kd.slice e d).K w ys cs ∧ okList ok ys := by
  rcases Go.Deep.open_slice ht h with ⟨rfl, _⟩ | ⟨a, len, cap, m, n, D, Pl, rfl, hb, hl, hm, hmm, hxe, hel⟩
  · exact ⟨[], ⟨none, 0, rfl, by simp, rfl, by simp, fun h => absurd h (by simp)⟩, by simp, fun x hx => by simp at hx⟩
  · have hlm : len ≤ m := by rw [hmm]; split <;> omega
    have hm' : len ≤ 9223372036854775807 := by unfold maxLen at hm; omega
    have key : ∀ i, i < len → ∃ cs' y, w.cells? base (a.add (i * P.cellsOf e)) (P.cellsOf e) = some cs' ∧ d.K w y cs' ∧ ok y := by
      intro i hi
      obtain ⟨cs', h1, h2⟩ := hel i (by omega)
      obtain ⟨y, hy, ho⟩ := ih _ _ _ h2
      exact ⟨cs', y, h1, hy, ho⟩
    obtain ⟨ys, hlen, hys⟩ : ∃ ys : List α, ys.length = len ∧ ∀ i (hi : i < ys.length), ∃ cs', w.cells? base (a.add (i * P.cellsOf e)) (P.cellsOf e) = some cs' ∧ d.K w ys[i] cs' ∧ ok ys[i] := by
      clear h hxe hel hmm hlm hl hm hm'
      induction len with
      | zero => exact ⟨[], rfl, fun i hi => by simp at hi⟩
      | succ len ihl =>
        obtain ⟨ys, h1, h2⟩ := ihl (fun i hi => key i (by omega))
        obtain ⟨cs', y, h3, h4, h5⟩ := key len (by omega)
        refine ⟨ys ++ [y], by simp [h1], fun i hi => ?_⟩
        by_cases hi' : i < ys.length
        · rw [List.getElem_append_left hi']; exact h2 i hi'
        · have : i = len := by simp at hi; omega
          subst this
          refine ⟨cs', h3, ?_, ?_⟩ <;> rw [List.getElem_append_right (by omega)] <;> simpa [h1]
    refine ⟨ys, ⟨some a, cap, by rw [hlen], by omega, rfl, by omega, fun _ => ⟨a, rfl, fun j p hj => ?_⟩⟩, by omega, fun y hy => ?_⟩
    · obtain ⟨hj', rfl⟩ := List.getElem?_eq_some_iff.1 hj
      obtain ⟨cs', h1, h2, _⟩ := hys j hj'
      rw [hc] at h1
      refine ⟨cs', d.K_len h2, h2, fun i u hu => ?_⟩
      obtain ⟨_, hl', hcell⟩ := World.cells?_some h1
      have hi : i < d.sz := by have := (List.getElem?_eq_some_iff.1 hu).1; omega
      have := hcell i hi
      rw [hu, add_add] at this
      exact this
    · obtain ⟨i, hi, rfl⟩ := List.getElem_of_mem hy
      obtain ⟨_, _, _, h3⟩ := hys i hi
      exact h3
theorem mapM_all {α β : Type} {f : α → Option β} : ∀ {l : List α} {ys : List β}, l.mapM f = some ys → ∀ x ∈ l, ∃ y, f x = some y
  | [], _, _, x, hx => by simp at hx
  | a :: l, ys, h, x, hx => by
    rw [List.mapM_cons] at h
    simp only [Option.bind_eq_bind, Option.bind_eq_some_iff] at h
    obtain ⟨y, h1, ys', h2, _⟩ := h
    rcases List.mem_cons.1 hx with rfl | hx
    · exact ⟨y, h1⟩
    · exact mapM_all h2 x hx
theorem of_fields {t : TypeId} {fs : Array Field} {fuel : Nat} {cs : List Value} {x : DataW H × List MemPlace} (ht : P.underlying t = some (.struct fs)) (h : DataW.trod enc P w base spare held fuel t cs = some x) :
    cs.length = P.cellsOf t ∧ ∃ n, ∀ f ∈ fs.toList, ∃ y, DataW.trod enc P w base spare held n f.type ((cs.drop f.offset).take (P.cellsOf f.type)) = some y := by
  cases fuel with
  | zero => simp [DataW.trod] at h
  | succ fuel =>
    simp only [DataW.trod, ht] at h
    split at h
    · rename_i hl
      refine ⟨hl, fuel, ?_⟩
      simp only [Option.map_eq_some_iff] at h
      obtain ⟨ys, h1, _⟩ := h
      exact mapM_all h1
    · simp at h
theorem pair_K {α β : Type} {a : Kd α} {b : Kd β} {x : α} {y : β} {cs : List Value} {n : Nat} (off : Nat) (hn : a.sz = n) (h0 : a.K w x ((cs.drop off).take n)) (h1 : b.K w y (cs.drop (off + n))) : (Kd.pair a b).K w (x, y) (cs.drop off) :=
  ⟨_, _, by rw [← List.drop_drop]; exact (List.take_append_drop n (cs.drop off)).symm, h0, h1⟩
theorem last_K {α : Type} {a : Kd α} {x : α} {cs : List Value} {n : Nat} (off : Nat) (hl : cs.length = off + n) (h0 : a.K w x ((cs.drop off).take n)) : a.K w x (cs.drop off) := by
  rwa [List.take_of_length_le (by rw [List.length_drop]; omega)] at h0
end Go.Proofs.YtcckamdpncbkoabDoor.Opn

namespace Go.Proofs.YtcckamdpncbkoabDoor.G
open Go.Proofs.YtcckamdpncbkoabDoor.Opn
open Go.RowKit Go.Proofs.YtcckamdpncbkoabDoorW.PrintWords Go.Proofs.YtcckamdpncbkoabDoorW.PrintLast Go.Proofs.YtcckamdpncbkoabDoorW.PrintMore
open Go.Proofs.YtcckamdpncbkoabDoor.Gl Go.Proofs.YtcckamdpncbkoabDoor.Ext
attribute [local go_sem] max2_int min2_int max_two min_two max_three min_three max_four min_four   -- for this text's walks alone
set_option linter.unusedVariables false
set_option linter.unusedSimpArgs false

theorem cells3 : Tryd.prog.cellsOf 3 = 1 := by kernel_rfl
theorem cells4 : Tryd.prog.cellsOf 4 = 1 := by kernel_rfl
theorem cells9 : Tryd.prog.cellsOf 9 = 1 := by kernel_rfl
theorem cells22 : Tryd.prog.cellsOf 22 = 1 := by kernel_rfl
theorem cells32 : Tryd.prog.cellsOf 32 = 1 := by kernel_rfl
theorem cells58 : Tryd.prog.cellsOf 58 = 4 := by kernel_rfl
theorem cells60 : Tryd.prog.cellsOf 60 = 14 := by kernel_rfl
theorem cells69 : Tryd.prog.cellsOf 69 = 1 := by kernel_rfl
theorem cells71 : Tryd.prog.cellsOf 71 = 1 := by kernel_rfl
theorem cells89 : Tryd.prog.cellsOf 89 = 4 := by kernel_rfl
def ok89 (y : S89) : Prop := okList (okStr) y.f0 ∧ okStr y.f1 ∧ okStr y.f2 ∧ okStr y.f3
theorem of_T89 {H : Type} {enc : TypeId × Value → H} {w : World} {base : Nat} {spare : Nat → Bool} {held : Bool} {fuel : Nat} {cs : List Value} {x : DataW H × List MemPlace} (h : DataW.trod enc Tryd.prog w base spare held fuel 89 cs = some x) : ∃ y : S89, k89.K w y cs ∧ ok89 y := by
  obtain ⟨hl, n, hf⟩ := of_fields Tryd.underlying89 h
  rw [cells89] at hl
  simp only [List.mem_cons, List.not_mem_nil, or_false, forall_eq_or_imp, forall_eq] at hf
  obtain ⟨⟨y0, f0⟩, ⟨y1, f1⟩, ⟨y2, f2⟩, ⟨y3, f3⟩⟩ := hf
  rw [cells32] at f0
  obtain ⟨x0, g0, b0⟩ := of_slice (ok := okStr) Tryd.underlying32 cells9 (fun _ _ _ h_ => of_string Tryd.underlying9 h_) f0
  rw [cells9] at f1
  obtain ⟨x1, g1, b1⟩ := of_string Tryd.underlying9 f1
  rw [cells9] at f2
  obtain ⟨x2, g2, b2⟩ := of_string Tryd.underlying9 f2
  rw [cells9] at f3
  obtain ⟨x3, g3, b3⟩ := of_string Tryd.underlying9 f3
  exact ⟨⟨x0, x1, x2, x3⟩, (pair_K (n := 1) 0 rfl g0 (pair_K (n := 1) 1 rfl g1 (pair_K (n := 1) 2 rfl g2 (last_K (n := 1) 3 hl g3)))), ⟨b0, b1, b2, b3⟩⟩
def ok58 (y : S58) : Prop := okInt .i64 y.f0 ∧ okInt .i64 y.f1 ∧ okInt .i64 y.f2 ∧ okBool y.f3
theorem of_T58 {H : Type} {enc : TypeId × Value → H} {w : World} {base : Nat} {spare : Nat → Bool} {held : Bool} {fuel : Nat} {cs : List Value} {x : DataW H × List MemPlace} (h : DataW.trod enc Tryd.prog w base spare held fuel 58 cs = some x) : ∃ y : S58, k58.K w y cs ∧ ok58 y := by
  obtain ⟨hl, n, hf⟩ := of_fields Tryd.underlying58 h
  rw [cells58] at hl
  simp only [List.mem_cons, List.not_mem_nil, or_false, forall_eq_or_imp, forall_eq] at hf
  obtain ⟨⟨y0, f0⟩, ⟨y1, f1⟩, ⟨y2, f2⟩, ⟨y3, f3⟩⟩ := hf
  rw [cells3] at f0
  obtain ⟨x0, g0, b0⟩ := of_int Tryd.underlying3 f0
  rw [cells3] at f1
  obtain ⟨x1, g1, b1⟩ := of_int Tryd.underlying3 f1
  rw [cells3] at f2
  obtain ⟨x2, g2, b2⟩ := of_int Tryd.underlying3 f2
  rw [cells4] at f3
  obtain ⟨x3, g3, b3⟩ := of_bool Tryd.underlying4 f3
  exact ⟨⟨x0, x1, x2, x3⟩, (pair_K (n := 1) 0 rfl g0 (pair_K (n := 1) 1 rfl g1 (pair_K (n := 1) 2 rfl g2 (last_K (n := 1) 3 hl g3)))), ⟨b0, b1, b2, b3⟩⟩
def ok60 (y : S60) : Prop := okStr y.f0 ∧ okInt .i64 y.f1 ∧ okList (ok89) y.f2 ∧ okList (ok89) y.f3 ∧ okStr y.f4 ∧ okStr y.f5 ∧ okStr y.f6 ∧ ok58 y.f7 ∧ okInt .i64 y.f8 ∧ okStr y.f9 ∧ okStr y.f10
theorem of_T60 {H : Type} {enc : TypeId × Value → H} {w : World} {base : Nat} {spare : Nat → Bool} {held : Bool} {fuel : Nat} {cs : List Value} {x : DataW H × List MemPlace} (h : DataW.trod enc Tryd.prog w base spare held fuel 60 cs = some x) : ∃ y : S60, k60.K w y cs ∧ ok60 y := by
  obtain ⟨hl, n, hf⟩ := of_fields Tryd.underlying60 h
  rw [cells60] at hl
  simp only [List.mem_cons, List.not_mem_nil, or_false, forall_eq_or_imp, forall_eq] at hf
  obtain ⟨⟨y0, f0⟩, ⟨y1, f1⟩, ⟨y2, f2⟩, ⟨y3, f3⟩, ⟨y4, f4⟩, ⟨y5, f5⟩, ⟨y6, f6⟩, ⟨y7, f7⟩, ⟨y8, f8⟩, ⟨y9, f9⟩, ⟨y10, f10⟩⟩ := hf
  rw [cells9] at f0
  obtain ⟨x0, g0, b0⟩ := of_string Tryd.underlying9 f0
  rw [cells3] at f1
  obtain ⟨x1, g1, b1⟩ := of_int Tryd.underlying3 f1
  rw [cells22] at f2
  obtain ⟨x2, g2, b2⟩ := of_slice (ok := ok89) Tryd.underlying22 cells89 (fun _ _ _ h_ => of_T89 h_) f2
  rw [cells22] at f3
  obtain ⟨x3, g3, b3⟩ := of_slice (ok := ok89) Tryd.underlying22 cells89 (fun _ _ _ h_ => of_T89 h_) f3
  rw [cells9] at f4
  obtain ⟨x4, g4, b4⟩ := of_string Tryd.underlying9 f4
  rw [cells9] at f5
  obtain ⟨x5, g5, b5⟩ := of_string Tryd.underlying9 f5
  rw [cells9] at f6
  obtain ⟨x6, g6, b6⟩ := of_string Tryd.underlying9 f6
  rw [cells58] at f7
  obtain ⟨x7, g7, b7⟩ := of_T58 f7
  rw [cells3] at f8
  obtain ⟨x8, g8, b8⟩ := of_int Tryd.underlying3 f8
  rw [cells9] at f9
  obtain ⟨x9, g9, b9⟩ := of_string Tryd.underlying9 f9
  rw [cells9] at f10
  obtain ⟨x10, g10, b10⟩ := of_string Tryd.underlying9 f10
  exact ⟨⟨x0, x1, x2, x3, x4, x5, x6, x7, x8, x9, x10⟩, (pair_K (n := 1) 0 rfl g0 (pair_K (n := 1) 1 rfl g1 (pair_K (n := 1) 2 rfl g2 (pair_K (n := 1) 3 rfl g3 (pair_K (n := 1) 4 rfl g4 (pair_K (n := 1) 5 rfl g5 (pair_K (n := 1) 6 rfl g6 (pair_K (n := 4) 7 rfl g7 (pair_K (n := 1) 11 rfl g8 (pair_K (n := 1) 12 rfl g9 (last_K (n := 1) 13 hl g10))))))))))), ⟨b0, b1, b2, b3, b4, b5, b6, b7, b8, b9, b10⟩⟩
def ok71 (y : S71) : Prop := okList (ok60) y.f0
theorem of_T71 {H : Type} {enc : TypeId × Value → H} {w : World} {base : Nat} {spare : Nat → Bool} {held : Bool} {fuel : Nat} {cs : List Value} {x : DataW H × List MemPlace} (h : DataW.trod enc Tryd.prog w base spare held fuel 71 cs = some x) : ∃ y : S71, k71.K w y cs ∧ ok71 y := by
  obtain ⟨hl, n, hf⟩ := of_fields Tryd.underlying71 h
  rw [cells71] at hl
  simp only [List.mem_cons, List.not_mem_nil, or_false, forall_eq_or_imp, forall_eq] at hf
  obtain ⟨y0, f0⟩ := hf
  rw [cells69] at f0
  obtain ⟨x0, g0, b0⟩ := of_slice (ok := ok60) Tryd.underlying69 cells60 (fun _ _ _ h_ => of_T60 h_) f0
  exact ⟨⟨x0⟩, (last_K (n := 1) 0 (by simpa using hl) g0), b0⟩

def laws_FnExactIsValidLibrary.Pur : Prop := ∀ (l0_0 : List (S60)), okList (ok60) l0_0 → ∃ k, laws_FnExactIsValidLibrary.f k l0_0 = some true
theorem laws_FnExactIsValidLibrary.wlk (P : laws_FnExactIsValidLibrary.Pur) (A0_0 : Option Addr) (c0_0 : Nat) (l0_0 : List (S60)) (w : World) (hr0_0 : Kd.C k60 w A0_0 l0_0.length l0_0) (hc0_0 : l0_0.length ≤ c0_0) {gF1 gF2 gF3 : Bool} (hG : GL gF1 gF2 gF3 w) (bl0_0 : okList (ok60) l0_0) :
    Calls Tryd.prog 9 #[.agg #[.slice A0_0 l0_0.length c0_0]] w fun e w' => e = .returned (.bool true) ∧ Below w.heap.size w w' := by
  obtain ⟨k, h⟩ := P l0_0 bl0_0
  refine (laws_FnExactIsValidLibrary.calls k A0_0 c0_0 l0_0 w hG hr0_0 hc0_0 h).mono ?_
  rintro e w' ⟨rfl, hd⟩
  exact ⟨rfl, hd⟩

end Go.Proofs.YtcckamdpncbkoabDoor.G

namespace Go.Proofs.YtcckamdpncbkoabDoor.B
open Go.RowKit Go.Proofs.YtcckamdpncbkoabDoorW.PrintWords Go.Proofs.YtcckamdpncbkoabDoorW.PrintLast
set_option linter.unusedVariables false
set_option linter.unusedSimpArgs false
theorem w64 {x : Int} (h : -9223372036854775808 ≤ x) (h' : x ≤ 9223372036854775807) : wrap64 x = x := by unfold wrap64; omega
theorem ev_pos {α : Type} {c : Prop} [Decidable c] {g f : Nat → Option α} {r : α} (h : c) (e : Ev g r) : Ev (fun k => if c then g k else f k) r := Ev.congr (fun _ => if_pos h) e
theorem ev_neg {α : Type} {c : Prop} [Decidable c] {g f : Nat → Option α} {r : α} (h : ¬ c) (e : Ev f r) : Ev (fun k => if c then g k else f k) r := Ev.congr (fun _ => if_neg h) e
theorem ev_bind0 {α β : Type} {o : Option α} {f : Nat → α → Option β} {a : α} {r : β} (h : o = some a) (k : Ev (fun n => f n a) r) : Ev (fun n => o.bind (f n)) r := Ev.congr (fun _ => by rw [h]; rfl) k
theorem ev_eq {α : Type} {g : Nat → Option α} {a b : α} (h : Ev g a) (e : a = b) : Ev g b := e ▸ h
abbrev L (s : ByteArray) : List UInt8 := s.data.toList
def mkB (l : List UInt8) : ByteArray := ⟨l.toArray⟩
theorem L_mk (l : List UInt8) : L (mkB l) = l := by simp [mkB]
theorem mk_L (s : ByteArray) : mkB (L s) = s := by cases s; simp [mkB, L]
theorem L_inj {a b : ByteArray} (h : L a = L b) : a = b := by rw [← mk_L a, h, mk_L]
theorem L_iff {a b : ByteArray} : a = b ↔ L a = L b := ⟨fun h => by rw [h], L_inj⟩
theorem L_len (s : ByteArray) : (L s).length = s.size := (Lib.size_eq s).symm
theorem size_mk (l : List UInt8) : (mkB l).size = l.length := by rw [← L_len, L_mk]
theorem toList_L (s : ByteArray) : s.toList = L s := Lib.toList_data s
theorem L_extract (s : ByteArray) (a b : Nat) : L (s.extract a b) = ((L s).drop a).take (b - a) := Lib.extract_data s a b
theorem bt_get (s : ByteArray) (i : Nat) (h : i < s.size) : bt s (i : Int) = (((L s)[i]'(by rw [L_len]; exact h)).toNat : Int) := by
  unfold bt
  simp only [Int.toNat_natCast, h, dif_pos]
  rfl
theorem size_pos_iff (s : ByteArray) : s.size = 0 ↔ L s = [] := by rw [← L_len, List.length_eq_zero_iff]
theorem u8_inj {a b : UInt8} (h : (a.toNat : Int) = (b.toNat : Int)) : a = b := UInt8.toNat_inj.1 (by omega)
theorem toList_eq_iff {a b : ByteArray} : a.toList = b.toList ↔ a = b := by rw [toList_L, toList_L, L_iff]
def ahd (seg : List UInt8) : List (List UInt8) → List (List UInt8)
  | [] => [seg]
  | h :: t => (seg ++ h) :: t
def spl (b : UInt8) : List UInt8 → List (List UInt8)
  | [] => [[]]
  | c :: cs => if c = b then [] :: spl b cs else ahd [c] (spl b cs)
theorem spl_cons (b c : UInt8) (cs : List UInt8) : spl b (c :: cs) = if c = b then [] :: spl b cs else ahd [c] (spl b cs) := rfl
theorem spl_ne (b : UInt8) (l : List UInt8) : spl b l ≠ [] := by
  cases l with
  | nil => simp [spl]
  | cons c cs => unfold spl; split <;> simp; unfold ahd; split <;> simp
theorem ahd_nil (p : List (List UInt8)) (h : p ≠ []) : ahd [] p = p := by cases p <;> simp_all [ahd]
theorem ahd_ahd (a b : List UInt8) (p : List (List UInt8)) : ahd a (ahd b p) = ahd (a ++ b) p := by cases p <;> simp [ahd]
theorem spl_length (b : UInt8) (l : List UInt8) : (spl b l).length ≤ l.length + 1 := by
  induction l with
  | nil => simp [spl]
  | cons c cs ih =>
    unfold spl
    split
    · simp; omega
    · cases h : spl b cs with
      | nil => exact absurd h (spl_ne b cs)
      | cons p q => rw [h] at ih; simp [ahd] at ih ⊢; omega
theorem spl_step (b : UInt8) (l : List UInt8) (from_ i : Nat) (hi : i < l.length) (hf : from_ ≤ i) :
    ahd ((l.drop from_).take (i - from_)) (spl b (l.drop i)) =
      if l[i] = b then ((l.drop from_).take (i - from_)) :: spl b (l.drop (i + 1)) else ahd ((l.drop from_).take (i + 1 - from_)) (spl b (l.drop (i + 1))) := by
  rw [List.drop_eq_getElem_cons hi, spl_cons]
  by_cases h : l[i] = b
  · rw [if_pos h, if_pos h]
    simp [ahd]
  · rw [if_neg h, if_neg h]
    have e : (l.drop from_).take (i + 1 - from_) = (l.drop from_).take (i - from_) ++ [l[i]] := by
      rw [show i + 1 - from_ = (i - from_) + 1 by omega, List.take_succ_eq_append_getElem (by rw [List.length_drop]; omega)]
      congr 2
      rw [List.getElem_drop]
      congr 1
      omega
    rw [e]
    exact ahd_ahd _ _ _
theorem spl_none (c : UInt8) : ∀ l : List UInt8, (∀ k : Nat, l[k]? ≠ some c) → spl c l = [l]
  | [], _ => rfl
  | a :: l, h => by
    have h0 : a ≠ c := fun e => h 0 (by simp [e])
    rw [spl_cons, if_neg h0, spl_none c l (fun k => by simpa using h (k + 1))]; rfl
theorem spl_first (c : UInt8) : ∀ (i : Nat) (l : List UInt8), l[i]? = some c → (∀ k : Nat, k < i → l[k]? ≠ some c) → spl c l = l.take i :: spl c (l.drop (i + 1))
  | 0, [], h, _ => by simp at h
  | 0, a :: l, h, _ => by
    have h0 : a = c := by simpa using h
    rw [spl_cons, if_pos h0]; rfl
  | i + 1, [], h, _ => by simp at h
  | i + 1, a :: l, h, hk => by
    have h0 : a ≠ c := fun e => hk 0 (by omega) (by simp [e])
    rw [spl_cons, if_neg h0, spl_first c i l (by simpa using h) (fun k hk' => by simpa using hk (k + 1) (by omega))]
    rfl
theorem indexB_one (s : ByteArray) (c : UInt8) : Lib.indexB s (mkB [c]) = Lib.indexByte (L s) c := by
  unfold Lib.indexB
  have : (mkB [c]).data.toList = [c] := L_mk [c]
  rw [this]
  exact Lib.index_one _ _
theorem splitB_spl (c : UInt8) (n : Nat) : ∀ s : ByteArray, s.size ≤ n → (Lib.splitB (mkB [c]) 0 (Lib.countB s (mkB [c])) s).map L = spl c (L s) := by
  have h1 : (mkB [c]).size = 1 := by rw [size_mk]; rfl
  induction n with
  | zero =>
    intro s hs
    rcases Lib.indexB_cases s (mkB [c]) with hm | ⟨i, hi, hr⟩
    · rw [Lib.splitB_miss _ _ _ _ hm]
      have := Lib.indexByte_none (by rw [← indexB_one]; exact hm : Lib.indexByte (L s) c = -1)
      rw [spl_none c (L s) this]; rfl
    · omega
  | succ n ih =>
    intro s hs
    rcases Lib.indexB_cases s (mkB [c]) with hm | ⟨i, hi, hr⟩
    · rw [Lib.splitB_miss _ _ _ _ hm]
      have := Lib.indexByte_none (by rw [← indexB_one]; exact hm : Lib.indexByte (L s) c = -1)
      rw [spl_none c (L s) this]; rfl
    · rw [h1] at hr
      have hc := Lib.countB_hit s (mkB [c]) i (by omega) hi
      rw [h1] at hc
      rw [hc, Nat.add_comm 1, Lib.splitB_hit _ _ _ _ i hi, h1, List.map_cons, ih (s.extract (i + 1) s.size) (by rw [ByteArray.size_extract]; omega)]
      obtain ⟨a, b⟩ := Lib.indexByte_some (by rw [← indexB_one]; exact hi : Lib.indexByte (L s) c = i)
      rw [spl_first c i (L s) a b, L_extract, L_extract]
      congr 1
      congr 1
      rw [List.take_of_length_le (by rw [List.length_drop, L_len]; omega)]
theorem splitB_eq (c : UInt8) (s : ByteArray) : Lib.splitB (mkB [c]) 0 (Lib.countB s (mkB [c])) s = (spl c (L s)).map mkB := by
  rw [← splitB_spl c s.size s (Nat.le_refl _), List.map_map]
  have : (mkB ∘ L) = id := by funext x; exact mk_L x
  rw [this, List.map_id]
end Go.Proofs.YtcckamdpncbkoabDoor.B

namespace Go.Proofs.YtcckamdpncbkoabDoor.G
open Go.RowKit Go.Proofs.YtcckamdpncbkoabDoorW.PrintWords Go.Proofs.YtcckamdpncbkoabDoorW.PrintLast Go.Proofs.YtcckamdpncbkoabDoor.B
set_option linter.unusedVariables false
set_option linter.unusedSimpArgs false
theorem split_loop (s : ByteArray) (b : UInt8) (hs : s.size ≤ 8796093022000) (d : Nat) : ∀ (out : List ByteArray) (f i : Nat), out.length ≤ i → f ≤ i → i ≤ s.size → s.size - i = d →
    Ev (fun k => spec_l1Split.l0 k s (b.toNat : Int) out f i) (out ++ (ahd (((L s).drop f).take (i - f)) (spl b ((L s).drop i))).map mkB) := by
  have hL : (L s).length = s.size := L_len s
  induction d with
  | zero =>
    intro out f i h0 h1 h2 hd
    have e : i = s.size := by omega
    refine Ev.step (f := fun _ => some (out ++ [s.extract f s.size])) (fun k => ?_) (ev_eq (Ev.now _) ?_)
    · simp only [spec_l1Split.l0]
      rw [if_neg (by omega), if_pos (by omega), if_pos (by omega), if_pos (by omega)]
      simp
    · rw [List.drop_of_length_le (l := L s) (i := i) (by omega)]
      simp [spl, ahd]
      apply L_inj
      rw [L_extract, L_mk, e]
  | succ d ih =>
    intro out f i h0 h1 h2 hd
    have hlt : i < s.size := by omega
    have hlt' : i < (L s).length := by omega
    rw [spl_step b (L s) f i hlt' h1]
    have hw : wrap64 ((i : Int) + 1) = ((i + 1 : Nat) : Int) := by rw [w64 (by omega) (by omega)]; rfl
    by_cases e : (L s)[i] = b
    · rw [if_pos e]
      refine Ev.step (f := fun k => spec_l1Split.l0 k s (b.toNat : Int) (out ++ [s.extract f i]) ((i + 1 : Nat) : Int) ((i + 1 : Nat) : Int)) (fun k => ?_) (ev_eq (ih (out ++ [s.extract f i]) (i + 1) (i + 1) (by simp; omega) (by omega) (by omega) (by omega)) ?_)
      · simp only [spec_l1Split.l0]
        rw [if_pos (by omega), if_pos (by omega), if_pos (by rw [bt_get s i hlt, e]), if_pos (by omega), if_pos (by omega), if_pos (by omega), if_pos (by omega), hw]
        simp
      · rw [Nat.sub_self, List.take_zero, ahd_nil _ (spl_ne b _), List.append_assoc]
        congr 1
        simp
        apply L_inj
        rw [L_extract, L_mk]
    · rw [if_neg e]
      refine Ev.step (f := fun k => spec_l1Split.l0 k s (b.toNat : Int) out f ((i + 1 : Nat) : Int)) (fun k => ?_) (ih out f (i + 1) (by omega) (by omega) (by omega) (by omega))
      simp only [spec_l1Split.l0]
      rw [if_pos (by omega), if_pos (by omega), if_neg (by rw [bt_get s i hlt]; exact fun h => e (u8_inj h)), hw]
theorem split_ev (s : ByteArray) (b : UInt8) (hs : s.size ≤ 8796093022000) : Ev (fun k => spec_l1Split.f k s (b.toNat : Int)) ((spl b (L s)).map mkB) := by
  have := split_loop s b hs s.size [] 0 0 (by simp) (by omega) (by omega) (by omega)
  unfold spec_l1Split.f
  simpa [ahd_nil _ (spl_ne b _)] using this
def upD (c : Int) : Bool := decide (65 ≤ c) && decide (c ≤ 90)
def loD (c : Int) : Bool := decide (97 ≤ c) && decide (c ≤ 122)
def leD (c : Int) : Bool := upD c || loD c
def inD (n : Nat) : Bool := decide (1 ≤ n) && decide (n ≤ 12)
theorem spec_up (c : Int) : spec_l2Upper.f c = some (upD c) := by unfold spec_l2Upper.f upD; by_cases h : 65 ≤ c <;> simp [h]
theorem spec_lo (c : Int) : spec_l2Lower.f c = some (loD c) := by unfold spec_l2Lower.f loD; by_cases h : 97 ≤ c <;> simp [h]
theorem impl_up (c : Int) : impl_isUpper.f c = some (upD c) := by unfold impl_isUpper.f upD; by_cases h : 65 ≤ c <;> simp [h]
theorem impl_lo (c : Int) : impl_isLower.f c = some (loD c) := by unfold impl_isLower.f loD; by_cases h : 97 ≤ c <;> simp [h]
theorem spec_le (c : Int) : spec_l2Letter.f c = some (leD c) := by unfold spec_l2Letter.f leD; rw [spec_up, spec_lo]; cases upD c <;> simp
theorem impl_le (c : Int) : impl_isLetter.f c = some (leD c) := by unfold impl_isLetter.f leD; rw [impl_up, impl_lo]; cases upD c <;> simp
theorem in12 (n : Nat) : (if (n : Int) ≥ 1 then some (decide ((n : Int) ≤ 12)) else some false) = some (inD n) := by
  unfold inD
  by_cases h : 1 ≤ n
  · rw [if_pos (by omega)]
    congr 1
    rw [decide_eq_true h, Bool.true_and, decide_eq_decide]; omega
  · rw [if_neg (by omega)]; simp [h]
theorem spec_in (s : ByteArray) : spec_l1In.f (s.size : Int) 1 12 = some (inD s.size) := in12 s.size
theorem impl_in (s : ByteArray) : impl_inside.f (s.size : Int) 1 12 = some (inD s.size) := in12 s.size
theorem inD_iff {n : Nat} : inD n = true ↔ 1 ≤ n ∧ n ≤ 12 := by simp [inD]
def okD (s : ByteArray) (i : Nat) : Bool := leD (bt s i) || ((decide (bt s i = 45) || decide (bt s i = 39)) && leD (bt s ((i : Int) - 1)))
def wlD (s : ByteArray) : Nat → Nat → Bool
  | 0, _ => true
  | d + 1, i => okD s i && wlD s d (i + 1)
def wordD (s : ByteArray) : Bool := inD s.size && ((leD (bt s 0) && leD (bt s ((s.size : Int) - 1))) && wlD s (s.size - 1) 1)
def greatD (s : ByteArray) : Bool := wordD s && upD (bt s 0)
theorem word_step (s : ByteArray) (i k : Nat) (h1 : 1 ≤ i) (h2 : i < s.size) (h3 : s.size ≤ 12) : spec_l2Word.l0 (k + 1) s (i : Int) = if okD s i = true then spec_l2Word.l0 k s ((i + 1 : Nat) : Int) else some false := by
  have hw : wrap64 ((i : Int) + 1) = ((i + 1 : Nat) : Int) := by rw [w64 (by omega) (by omega)]; rfl
  have hw' : wrap64 ((i : Int) - 1) = (i : Int) - 1 := w64 (by omega) (by omega)
  have a1 : (0 : Int) ≤ (i : Int) - 1 := by omega
  have a2 : (i : Int) - 1 < (s.size : Int) := by omega
  simp only [spec_l2Word.l0]
  rw [if_pos (show (i : Int) < (s.size : Int) by omega), if_pos (show (0 : Int) ≤ (i : Int) by omega), spec_le, hw, hw']
  simp only [Option.bind_some, if_pos a1, if_pos a2, spec_le]
  unfold okD
  generalize ((i + 1 : Nat) : Int) = j
  cases leD (bt s i) <;> cases leD (bt s ((i : Int) - 1)) <;> by_cases c : bt s i = 45 <;> by_cases d : bt s i = 39 <;> simp [c, d]
theorem word_loop (s : ByteArray) (hs : s.size ≤ 12) (d : Nat) : ∀ i : Nat, 1 ≤ i → i ≤ s.size → s.size - i = d → Ev (fun k => spec_l2Word.l0 k s (i : Int)) (wlD s d i) := by
  induction d with
  | zero =>
    intro i h1 h2 hd
    refine Ev.step (f := fun _ => some true) (fun k => ?_) (Ev.now _)
    simp only [spec_l2Word.l0]; rw [if_neg (by omega)]
  | succ d ih =>
    intro i h1 h2 hd
    refine Ev.step (f := fun k => if okD s i = true then spec_l2Word.l0 k s ((i + 1 : Nat) : Int) else some false) (fun k => word_step s i k h1 (by omega) hs) ?_
    unfold wlD
    cases h : okD s i with
    | true => exact ev_pos rfl (ev_eq (ih (i + 1) (by omega) (by omega) (by omega)) (by simp))
    | false => exact ev_neg (by simp) (ev_eq (Ev.now _) (by simp))
theorem loops_eq (s : ByteArray) (k : Nat) : ∀ i : Int, impl_isNameWord.l0 k s i = spec_l2Word.l0 k s i := by
  induction k with
  | zero => intro i; simp [impl_isNameWord.l0, spec_l2Word.l0]
  | succ k ih => intro i; simp only [impl_isNameWord.l0, spec_l2Word.l0, impl_le, spec_le, ih]
theorem spec_word (s : ByteArray) : Ev (fun k => spec_l2Word.f k s) (wordD s) := by
  unfold spec_l2Word.f wordD
  cases h : inD s.size with
  | false =>
    refine Ev.step (f := fun _ => some false) (fun k => ?_) (ev_eq (Ev.now _) (by simp))
    simp only [spec_in, h, Option.bind_some, spec_l2Word.j0]; simp
  | true =>
    obtain ⟨h1, h2⟩ := inD_iff.1 h
    have hw : wrap64 ((s.size : Int) - 1) = (s.size : Int) - 1 := w64 (by omega) (by omega)
    refine Ev.step (f := fun k => if (leD (bt s 0) && leD (bt s ((s.size : Int) - 1))) = true then spec_l2Word.l0 k s ((1 : Nat) : Int) else some false) (fun k => ?_) ?_
    · have a1 : (0 : Int) < (s.size : Int) := by omega
      have a2 : (0 : Int) ≤ (s.size : Int) - 1 := by omega
      have a3 : (s.size : Int) - 1 < (s.size : Int) := by omega
      simp only [spec_in, h, Option.bind_some, if_pos a1, if_pos a2, if_pos a3, hw, spec_le, spec_l2Word.j0]
      cases leD (bt s 0) <;> cases leD (bt s ((s.size : Int) - 1)) <;> simp
    · cases h3 : (leD (bt s 0) && leD (bt s ((s.size : Int) - 1))) with
      | true => exact ev_pos rfl (ev_eq (word_loop s h2 (s.size - 1) 1 (by omega) (by omega) rfl) (by simp))
      | false => exact ev_neg (by simp) (ev_eq (Ev.now _) (by simp))
theorem impl_word (s : ByteArray) : Ev (fun k => impl_isNameWord.f k s) (wordD s) := by
  unfold impl_isNameWord.f wordD
  cases h : inD s.size with
  | false =>
    refine Ev.step (f := fun _ => some false) (fun k => ?_) (ev_eq (Ev.now _) (by simp))
    simp only [impl_in, h, Option.bind_some, impl_isNameWord.j0]; simp
  | true =>
    obtain ⟨h1, h2⟩ := inD_iff.1 h
    have hw : wrap64 ((s.size : Int) - 1) = (s.size : Int) - 1 := w64 (by omega) (by omega)
    refine Ev.step (f := fun k => if (leD (bt s 0) && leD (bt s ((s.size : Int) - 1))) = true then spec_l2Word.l0 k s ((0 : Nat) : Int) else some false) (fun k => ?_) ?_
    · have a1 : (0 : Int) < (s.size : Int) := by omega
      have a2 : (0 : Int) ≤ (s.size : Int) - 1 := by omega
      have a3 : (s.size : Int) - 1 < (s.size : Int) := by omega
      simp only [impl_in, h, Option.bind_some, if_pos a1, if_pos a2, if_pos a3, hw, impl_le, impl_isNameWord.j0, loops_eq]
      cases leD (bt s 0) <;> cases leD (bt s ((s.size : Int) - 1)) <;> simp
    · cases h3 : (leD (bt s 0) && leD (bt s ((s.size : Int) - 1))) with
      | true =>
        refine ev_pos rfl (Ev.step (f := fun k => spec_l2Word.l0 k s ((1 : Nat) : Int)) (fun k => ?_) (ev_eq (word_loop s h2 (s.size - 1) 1 (by omega) (by omega) rfl) (by simp)))
        have h0 : leD (bt s 0) = true := by simp at h3; exact h3.1
        simp only [spec_l2Word.l0]
        rw [if_pos (by omega), if_pos (by omega), spec_le, show ((0 : Nat) : Int) = 0 from rfl, h0, w64 (by omega) (by omega)]
        simp
      | false => exact ev_neg (by simp) (ev_eq (Ev.now _) (by simp))
theorem word_in {s : ByteArray} (h : wordD s = true) : 1 ≤ s.size ∧ s.size ≤ 12 := by
  unfold wordD at h
  cases hi : inD s.size with
  | true => exact inD_iff.1 hi
  | false => rw [hi] at h; simp at h
theorem impl_great (s : ByteArray) : Ev (fun k => impl_isGreatWord.f k s) (greatD s) := by
  unfold impl_isGreatWord.f greatD
  refine Ev.bind (impl_word s) ?_
  cases h : wordD s with
  | true =>
    have := word_in h
    refine ev_pos rfl (ev_pos (by omega) (ev_eq (Ev.congr (f := fun _ => some (upD (bt s 0))) (fun k => by rw [impl_up]; rfl) (Ev.now _)) (by simp)))
  | false => exact ev_neg (by simp) (ev_eq (Ev.now _) (by simp))
def lowF (s : ByteArray) (j : Nat) : Bool := ((L s).drop j).all fun b => loD (b.toNat : Int)
def lowD (s : ByteArray) : Bool := lowF s 0
def wsD (l : List ByteArray) : Bool := l.all fun w => inD w.size && lowD w
theorem lowF_step (s : ByteArray) (j : Nat) (h : j < s.size) : lowF s j = (loD (bt s j) && lowF s (j + 1)) := by
  unfold lowF
  have hl : j < (L s).length := by rw [L_len]; exact h
  rw [List.drop_eq_getElem_cons hl, List.all_cons, bt_get s j h]
theorem lowF_end (s : ByteArray) (j : Nat) (h : s.size ≤ j) : lowF s j = true := by
  unfold lowF
  rw [List.drop_of_length_le (by rw [L_len]; exact h)]; rfl
theorem low_all (s : ByteArray) (h : lowD s = true) (j : Nat) (hj : j < s.size) : leD (bt s j) = true := by
  have hl : j < (L s).length := by rw [L_len]; exact hj
  have := List.all_eq_true.1 h _ (by rw [List.drop_zero]; exact List.getElem_mem hl)
  rw [bt_get s j hj]
  unfold leD
  rw [this]; simp
theorem wl_low (s : ByteArray) (h : lowD s = true) (d : Nat) : ∀ i, i + d ≤ s.size → wlD s d i = true := by
  induction d with
  | zero => intro i _; rfl
  | succ d ih =>
    intro i hi
    unfold wlD okD
    rw [low_all s h i (by omega), ih (i + 1) (by omega)]; rfl
theorem word_low (s : ByteArray) : (wordD s && lowD s) = (inD s.size && lowD s) := by
  cases h : lowD s with
  | false => simp
  | true =>
    unfold wordD
    cases hi : inD s.size with
    | false => simp
    | true =>
      obtain ⟨h1, h2⟩ := inD_iff.1 hi
      have e1 := low_all s h 0 (by omega)
      have e2 := low_all s h (s.size - 1) (by omega)
      rw [show ((s.size - 1 : Nat) : Int) = (s.size : Int) - 1 by omega] at e2
      rw [show ((0 : Nat) : Int) = 0 from rfl] at e1
      rw [e1, e2, wl_low s h (s.size - 1) 1 (by omega)]; rfl
theorem rd_get (l : List ByteArray) (i : Nat) (h : i < l.length) : rdOf ByteArray.empty l (i : Int) = l[i] := by simp [rdOf, h]
theorem spec_inner (ws : List ByteArray) (i : Nat) (hi : i < ws.length) (hs : (ws[i]).size ≤ 12) (hl : ws.length ≤ 4611686018427387904) (T : Bool) (hT : Ev (fun k => spec_l2Particle.l0 k ws ((i + 1 : Nat) : Int)) T) (d : Nat) : ∀ j : Nat, j ≤ (ws[i]).size → (ws[i]).size - j = d →
    Ev (fun k => spec_l2Particle.l1 k ws (i : Int) (j : Int)) (lowF ws[i] j && T) := by
  have hw : wrap64 ((i : Int) + 1) = ((i + 1 : Nat) : Int) := by rw [w64 (by omega) (by omega)]; rfl
  induction d with
  | zero =>
    intro j h1 hd
    refine Ev.step (f := fun k => spec_l2Particle.l0 k ws ((i + 1 : Nat) : Int)) (fun k => ?_) (ev_eq hT (by rw [lowF_end _ _ (by omega)]; simp))
    simp only [spec_l2Particle.l1, rd_get ws i hi]
    rw [if_pos (by omega), if_pos (by omega), if_neg (by omega), hw]
  | succ d ih =>
    intro j h1 hd
    rw [lowF_step _ j (by omega)]
    have hw' : wrap64 ((j : Int) + 1) = ((j + 1 : Nat) : Int) := by rw [w64 (by omega) (by omega)]; rfl
    refine Ev.step (f := fun k => if loD (bt ws[i] (j : Int)) = true then spec_l2Particle.l1 k ws (i : Int) ((j + 1 : Nat) : Int) else some false) (fun k => ?_) ?_
    · simp only [spec_l2Particle.l1, rd_get ws i hi]
      rw [if_pos (by omega), if_pos (by omega), if_pos (by omega), if_pos (by omega), hw', spec_lo]; rfl
    · cases h : loD (bt ws[i] (j : Int)) with
      | true => exact ev_pos rfl (ev_eq (ih (j + 1) (by omega) (by omega)) (by simp))
      | false => exact ev_neg (by simp) (ev_eq (Ev.now _) (by simp))
theorem spec_outer (ws : List ByteArray) (hl : ws.length ≤ 4611686018427387904) (d : Nat) : ∀ i : Nat, i ≤ ws.length → ws.length - i = d →
    Ev (fun k => spec_l2Particle.l0 k ws (i : Int)) (wsD (ws.drop i) && decide (ws.length ≤ 2)) := by
  induction d with
  | zero =>
    intro i h1 hd
    refine Ev.step (f := fun k => some (decide ((ws.length : Int) ≤ 2))) (fun k => ?_) (ev_eq (Ev.now _) ?_)
    · simp only [spec_l2Particle.l0]; rw [if_neg (by omega)]
    · rw [List.drop_of_length_le (by omega)]
      show decide _ = (true && decide _)
      rw [Bool.true_and, decide_eq_decide]; omega
  | succ d ih =>
    intro i h1 hd
    have hi : i < ws.length := by omega
    refine Ev.step (f := fun k => (spec_l2Word.f k ws[i]).bind fun t => if t = true then spec_l2Particle.l1 k ws (i : Int) ((0 : Nat) : Int) else some false) (fun k => ?_) ?_
    · simp only [spec_l2Particle.l0, rd_get ws i hi]
      rw [if_pos (by omega), if_pos (by omega)]; rfl
    · refine Ev.bind (spec_word _) ?_
      have e : (wsD (ws.drop i) && decide (ws.length ≤ 2)) = ((wordD ws[i] && lowD ws[i]) && (wsD (ws.drop (i + 1)) && decide (ws.length ≤ 2))) := by
        rw [word_low, List.drop_eq_getElem_cons hi]
        simp only [wsD, List.all_cons, Bool.and_assoc]
      rw [e]
      cases h : wordD ws[i] with
      | true => exact ev_pos rfl (ev_eq (spec_inner ws i hi (word_in h).2 hl _ (ih (i + 1) (by omega) (by omega)) _ 0 (by omega) rfl) (by simp [lowD]))
      | false => exact ev_neg (by simp) (ev_eq (Ev.now _) (by simp))
theorem impl_inner (ws ws' : List ByteArray) (n i : Nat) (w : ByteArray) (hi : i < 4611686018427387904) (hs : w.size ≤ 12) (T : Bool) (hT : Ev (fun k => impl_isParticle.l0 k ws ws' (n : Int) ((i + 1 : Nat) : Int)) T) (d : Nat) : ∀ j : Nat, j ≤ w.size → w.size - j = d →
    Ev (fun k => impl_isParticle.l1 k ws w (j : Int) ws' (n : Int) (i : Int)) (lowF w j && T) := by
  have hw : wrap64 ((i : Int) + 1) = ((i + 1 : Nat) : Int) := by rw [w64 (by omega) (by omega)]; rfl
  induction d with
  | zero =>
    intro j h1 hd
    refine Ev.step (f := fun k => impl_isParticle.l0 k ws ws' (n : Int) ((i + 1 : Nat) : Int)) (fun k => ?_) (ev_eq hT (by rw [lowF_end _ _ (by omega)]; simp))
    simp only [impl_isParticle.l1]
    rw [if_neg (by omega), hw]
  | succ d ih =>
    intro j h1 hd
    rw [lowF_step _ j (by omega)]
    have hw' : wrap64 ((j : Int) + 1) = ((j + 1 : Nat) : Int) := by rw [w64 (by omega) (by omega)]; rfl
    refine Ev.step (f := fun k => if loD (bt w (j : Int)) = true then impl_isParticle.l1 k ws w ((j + 1 : Nat) : Int) ws' (n : Int) (i : Int) else some false) (fun k => ?_) ?_
    · simp only [impl_isParticle.l1]
      rw [if_pos (by omega), if_pos (by omega), hw', impl_lo]; rfl
    · cases h : loD (bt w (j : Int)) with
      | true => exact ev_pos rfl (ev_eq (ih (j + 1) (by omega) (by omega)) (by simp))
      | false => exact ev_neg (by simp) (ev_eq (Ev.now _) (by simp))
theorem impl_outer (ws : List ByteArray) (hl : ws.length ≤ 4611686018427387904) (d : Nat) : ∀ i : Nat, i ≤ ws.length → ws.length - i = d →
    Ev (fun k => impl_isParticle.l0 k ws ws (ws.length : Int) (i : Int)) (wsD (ws.drop i) && decide (ws.length ≤ 2)) := by
  induction d with
  | zero =>
    intro i h1 hd
    refine Ev.step (f := fun k => some (decide ((ws.length : Int) ≤ 2))) (fun k => ?_) (ev_eq (Ev.now _) ?_)
    · simp only [impl_isParticle.l0]; rw [if_neg (by omega)]
    · rw [List.drop_of_length_le (by omega)]
      show decide _ = (true && decide _)
      rw [Bool.true_and, decide_eq_decide]; omega
  | succ d ih =>
    intro i h1 hd
    have hi : i < ws.length := by omega
    have e : (wsD (ws.drop i) && decide (ws.length ≤ 2)) = (inD (ws[i]).size && (lowD ws[i] && (wsD (ws.drop (i + 1)) && decide (ws.length ≤ 2)))) := by
      rw [List.drop_eq_getElem_cons hi]
      simp only [wsD, List.all_cons, Bool.and_assoc]
    rw [e]
    refine Ev.step (f := fun k => if inD (ws[i]).size = true then impl_isParticle.l1 k ws ws[i] ((0 : Nat) : Int) ws (ws.length : Int) (i : Int) else some false) (fun k => ?_) ?_
    · simp only [impl_isParticle.l0, rd_get ws i hi]
      rw [if_pos (by omega), if_pos (by omega), if_pos (by omega), impl_in]; rfl
    · cases h : inD (ws[i]).size with
      | true => exact ev_pos rfl (ev_eq (impl_inner ws ws ws.length i ws[i] (by omega) (inD_iff.1 h).2 _ (ih (i + 1) (by omega) (by omega)) _ 0 (by omega) rfl) (by simp [lowD]))
      | false => exact ev_neg (by simp) (ev_eq (Ev.now _) (by simp))
def wordsOf (s : ByteArray) : List ByteArray := (spl 32 (L s)).map mkB
def partD (s : ByteArray) : Bool := decide (s.size = 0) || (wsD (wordsOf s) && decide ((wordsOf s).length ≤ 2))
theorem wordsOf_len (s : ByteArray) : (wordsOf s).length ≤ s.size + 1 := by
  have := spl_length 32 (L s)
  rw [L_len] at this
  unfold wordsOf
  rw [List.length_map]; exact this
theorem nil_iff (s : ByteArray) : s.toList = ([] : List UInt8) ↔ s.size = 0 := by rw [toList_L, size_pos_iff]
theorem split_sp (s : ByteArray) (c : UInt8) (hs : s.size ≤ 4294967280) : strings_Split.f s (⟨#[c]⟩ : ByteArray) = some ((spl c (L s)).map mkB) := by
  have e : (⟨#[c]⟩ : ByteArray) = mkB [c] := rfl
  have h1 : (mkB [c]).size = 1 := by rw [size_mk]; rfl
  have hc := Lib.countB_le (mkB [c]) (by omega) s.size s (Nat.le_refl _)
  unfold strings_Split.f
  rw [e, if_pos ⟨by omega, by omega, Lib.splitB_all (mkB [c]) (by omega) 0 _ s rfl, by omega⟩, splitB_eq]
theorem spec_part (s : ByteArray) (hs : s.size ≤ 4294967280) : Ev (fun k => spec_l2Particle.f k s) (partD s) := by
  unfold spec_l2Particle.f partD
  by_cases h : s.size = 0
  · exact ev_pos ((nil_iff s).2 h) (ev_eq (Ev.now _) (by simp [h]))
  · refine ev_neg (fun e => h ((nil_iff s).1 e)) (Ev.bind (split_ev s 32 (by omega)) (ev_eq (spec_outer (wordsOf s) (by have := wordsOf_len s; omega) _ 0 (by omega) rfl) ?_))
    simp [h]
theorem impl_part (s : ByteArray) (hs : s.size ≤ 4294967280) : Ev (fun k => impl_isParticle.f k s) (partD s) := by
  unfold impl_isParticle.f partD
  by_cases h : s.size = 0
  · exact ev_pos ((nil_iff s).2 h) (ev_eq (Ev.now _) (by simp [h]))
  · refine ev_neg (fun e => h ((nil_iff s).1 e)) (ev_bind0 (split_sp s 32 hs) (ev_eq (impl_outer (wordsOf s) (by have := wordsOf_len s; omega) _ 0 (by omega) rfl) ?_))
    simp [h]
def rngD (c : Int) : Bool := decide (32 ≤ c) && decide (c ≤ 126)
def rngF (s : ByteArray) : Nat → Nat → Bool
  | 0, _ => true
  | d + 1, i => rngD (bt s (i : Int)) && rngF s d (i + 1)
def edgeD (s : ByteArray) : Bool := !decide (bt s 0 = 32) && !decide (bt s ((s.size : Int) - 1) = 32)
theorem trimR (n : Nat) : ∀ s : ByteArray, s.size = n → n ≤ 4611686018427387904 → ∃ t, Ev (fun k => strings_trimRightByte.f k s 32) t ∧ t.size ≤ n ∧ (1 ≤ n → bt s ((n : Int) - 1) = 32 → t.size < n) ∧ ((n = 0 ∨ bt s ((n : Int) - 1) ≠ 32) → t = s) := by
  induction n with
  | zero =>
    intro s hs hb
    refine ⟨s, Ev.step (f := fun _ => some s) (fun k => ?_) (Ev.now _), by omega, fun h => by omega, fun _ => rfl⟩
    simp only [strings_trimRightByte.f, strings_trimRightByte.l0]; rw [if_neg (by omega)]
  | succ n ih =>
    intro s hs hb
    have hw : wrap64 ((s.size : Int) - 1) = (n : Int) := by rw [w64 (by omega) (by omega)]; omega
    have e0 : ((n + 1 : Nat) : Int) - 1 = (n : Int) := by omega
    rw [e0]
    by_cases c : bt s (n : Int) = 32
    · have hs' : (s.extract 0 n).size = n := by rw [ByteArray.size_extract]; omega
      obtain ⟨t, ht, h1, _, _⟩ := ih (s.extract 0 n) hs' (by omega)
      refine ⟨t, Ev.step (f := fun k => strings_trimRightByte.f k (s.extract 0 n) 32) (fun k => ?_) ht, by omega, fun _ _ => by omega, fun h => ?_⟩
      · simp only [strings_trimRightByte.f, strings_trimRightByte.l0, hw]
        rw [if_pos (by omega), if_pos (by omega), if_pos (by omega), if_pos c, if_pos (by omega), Int.toNat_natCast]
      · rcases h with h | h
        · omega
        · exact absurd c h
    · refine ⟨s, Ev.step (f := fun _ => some s) (fun k => ?_) (Ev.now _), by omega, fun _ h => absurd h c, fun _ => rfl⟩
      simp only [strings_trimRightByte.f, strings_trimRightByte.l0, hw]
      rw [if_pos (by omega), if_pos (by omega), if_pos (by omega), if_neg c]
theorem trimL (n : Nat) : ∀ s : ByteArray, s.size = n → n ≤ 4611686018427387904 → ∃ t, Ev (fun k => strings_trimLeftByte.f k s 32) t ∧ t.size ≤ n ∧ (1 ≤ n → bt s 0 = 32 → t.size < n) ∧ ((n = 0 ∨ bt s 0 ≠ 32) → t = s) := by
  induction n with
  | zero =>
    intro s hs hb
    refine ⟨s, Ev.step (f := fun _ => some s) (fun k => ?_) (Ev.now _), by omega, fun h => by omega, fun _ => rfl⟩
    simp only [strings_trimLeftByte.f, strings_trimLeftByte.l0]; rw [if_neg (by omega)]
  | succ n ih =>
    intro s hs hb
    by_cases c : bt s 0 = 32
    · have hs' : (s.extract 1 s.size).size = n := by rw [ByteArray.size_extract]; omega
      obtain ⟨t, ht, h1, _, _⟩ := ih (s.extract 1 s.size) hs' (by omega)
      refine ⟨t, Ev.step (f := fun k => strings_trimLeftByte.f k (s.extract 1 s.size) 32) (fun k => ?_) ht, by omega, fun _ _ => by omega, fun h => ?_⟩
      · simp only [strings_trimLeftByte.f, strings_trimLeftByte.l0]
        rw [if_pos (by omega), if_pos (by omega), if_pos c, if_pos (by omega)]
      · rcases h with h | h
        · omega
        · exact absurd c h
    · refine ⟨s, Ev.step (f := fun _ => some s) (fun k => ?_) (Ev.now _), by omega, fun _ h => absurd h c, fun _ => rfl⟩
      simp only [strings_trimLeftByte.f, strings_trimLeftByte.l0]
      rw [if_pos (by omega), if_pos (by omega), if_neg c]
theorem trim_ev (s : ByteArray) (h1 : 1 ≤ s.size) (h2 : s.size ≤ 4611686018427387904) : ∃ t, Ev (fun k => strings_Trim.f k s (⟨#[32]⟩ : ByteArray)) t ∧ (t.toList == s.toList) = edgeD s := by
  obtain ⟨t1, ht1, ha, hb, hc⟩ := trimR s.size s rfl h2
  obtain ⟨t2, ht2, ha', hb', hc'⟩ := trimL t1.size t1 rfl (by omega)
  refine ⟨t2, ?_, ?_⟩
  · unfold strings_Trim.f
    have hz : ¬ s.toList = ([] : List UInt8) := fun e => by rw [toList_L] at e; have := (size_pos_iff s).2 e; omega
    refine ev_neg hz ?_
    have e1 : ((⟨#[32]⟩ : ByteArray).toList == ([] : List UInt8)) = false := by rw [toList_L]; rfl
    have e2 : ((⟨#[32]⟩ : ByteArray).size : Int) = 1 := rfl
    have e3 : bt (⟨#[32]⟩ : ByteArray) 0 = 32 := rfl
    rw [e1]
    refine Ev.step (f := fun k => strings_Trim.j1 k s (⟨#[32]⟩ : ByteArray) true) (fun k => ?_) (Ev.step (f := fun k => (strings_trimRightByte.f k s 32).bind fun t => (strings_trimLeftByte.f k t 32).bind fun u => some u) (fun k => ?_) (Ev.bind ht1 (Ev.bind ht2 (Ev.now _))))
    · simp only [strings_Trim.j0]
      rw [if_neg (by simp), e2, if_pos rfl, if_pos (by omega), e3]; rfl
    · simp only [strings_Trim.j1]
      rw [if_pos trivial, e2, if_pos (by omega), e3]
  · unfold edgeD
    by_cases c : bt s ((s.size : Int) - 1) = 32
    · have : t2.size < s.size := by have := hb h1 c; omega
      have ne : ¬ t2.toList = s.toList := fun e => by have := toList_eq_iff.1 e; subst this; omega
      rw [show (t2.toList == s.toList) = false by simpa using ne]; simp [c]
    · have e := hc (Or.inr c)
      subst e
      by_cases c0 : bt t1 0 = 32
      · have h3 := hb' h1 c0
        have ne : ¬ t2.toList = t1.toList := fun e => by have := toList_eq_iff.1 e; subst this; omega
        rw [show (t2.toList == t1.toList) = false by simpa using ne]; simp [c0]
      · have e := hc' (Or.inr c0)
        subst e
        simp [c, c0]
theorem print_loop (s : ByteArray) (h1 : 1 ≤ s.size) (h2 : s.size ≤ 100) (d : Nat) : ∀ i : Nat, i ≤ s.size → s.size - i = d →
    Ev (fun k => impl_isPrintable.l0 k s (i : Int)) (rngF s d i && edgeD s) := by
  induction d with
  | zero =>
    intro i hi hd
    obtain ⟨t, ht, e⟩ := trim_ev s h1 (by omega)
    refine Ev.step (f := fun k => (strings_Trim.f k s (⟨#[32]⟩ : ByteArray)).bind fun t231 => (some (t231.toList == s.toList))) (fun k => ?_) (Ev.bind ht (ev_eq (Ev.now _) (by rw [e]; simp [rngF])))
    simp only [impl_isPrintable.l0]; rw [if_neg (by omega)]
  | succ d ih =>
    intro i hi hd
    have hw : wrap64 ((i : Int) + 1) = ((i + 1 : Nat) : Int) := by rw [w64 (by omega) (by omega)]; rfl
    refine Ev.step (f := fun k => if rngD (bt s (i : Int)) = true then impl_isPrintable.l0 k s ((i + 1 : Nat) : Int) else some false) (fun k => ?_) ?_
    · simp only [impl_isPrintable.l0]
      rw [if_pos (by omega), if_pos (by omega), hw]
      unfold rngD
      by_cases c1 : bt s (i : Int) < 32
      · rw [if_pos c1, if_neg (by simp; omega)]
      · rw [if_neg c1]
        by_cases c2 : bt s (i : Int) > 126
        · rw [if_pos c2, if_neg (by simp; omega)]
        · rw [if_neg c2, if_pos (by simp; omega)]
    · unfold rngF
      cases h : rngD (bt s (i : Int)) with
      | true => exact ev_pos rfl (ev_eq (ih (i + 1) (by omega) (by omega)) (by simp))
      | false => exact ev_neg (by simp) (ev_eq (Ev.now _) (by simp))
theorem trim_nil (s : ByteArray) (h : s.size = 0) : Ev (fun k => strings_Trim.f k s (⟨#[32]⟩ : ByteArray)) s := by
  unfold strings_Trim.f
  refine ev_pos ((nil_iff s).2 h) (Ev.step (f := fun _ => some s) (fun k => ?_) (Ev.now _))
  simp only [strings_Trim.j0]
  rw [if_pos trivial]
def textD (s : ByteArray) : Bool := decide (s.size ≤ 40) && (decide (s.size = 0) || (rngF s s.size 0 && edgeD s))
theorem impl_text (s : ByteArray) : Ev (fun k => impl_isText.f k s) (textD s) := by
  unfold impl_isText.f textD
  by_cases h : s.size ≤ 40
  · refine ev_pos (by omega) ?_
    unfold impl_isPrintable.f
    by_cases h0 : s.size = 0
    · refine Ev.bind (a := true) ?_ (ev_eq (Ev.now _) (by simp [h, h0]))
      refine Ev.step (f := fun k => (strings_Trim.f k s (⟨#[32]⟩ : ByteArray)).bind fun t231 => (some (t231.toList == s.toList))) (fun k => ?_) (Ev.bind (trim_nil s h0) (ev_eq (Ev.now _) (by simp)))
      simp only [impl_isPrintable.l0]; rw [if_neg (by omega)]
    · exact Ev.bind (print_loop s (by omega) (by omega) _ 0 (by omega) rfl) (ev_eq (Ev.now _) (by simp [h, h0]))
  · exact ev_neg (by omega) (ev_eq (Ev.now _) (by simp [h]))
theorem spec_text_end (s : ByteArray) (h2 : s.size ≤ 40) : Ev (fun k => spec_l4Text.l0 k s (s.size : Int)) (decide (s.size = 0) || edgeD s) := by
  refine Ev.step (f := fun _ => some (decide (s.size = 0) || edgeD s)) (fun k => ?_) (Ev.now _)
  simp only [spec_l4Text.l0]
  rw [if_neg (by omega)]
  by_cases h0 : s.size = 0
  · rw [if_pos ((nil_iff s).2 h0)]; simp [h0]
  · have hw : wrap64 ((s.size : Int) - 1) = (s.size : Int) - 1 := w64 (by omega) (by omega)
    rw [if_neg (fun e => h0 ((nil_iff s).1 e)), if_pos (by omega)]
    unfold edgeD
    by_cases c : bt s 0 = 32
    · rw [if_pos c]; simp [c, h0]
    · rw [if_neg c, hw, if_pos (by omega), if_pos (by omega)]
      by_cases e : bt s ((s.size : Int) - 1) = 32
      · rw [e]; simp [h0]
      · rw [show (bt s ((s.size : Int) - 1) != 32) = true from bne_iff_ne.2 e]; simp [c, e, h0]
theorem spec_text_loop (s : ByteArray) (h2 : s.size ≤ 40) (d : Nat) : ∀ i : Nat, i ≤ s.size → s.size - i = d →
    Ev (fun k => spec_l4Text.l0 k s (i : Int)) (rngF s d i && (decide (s.size = 0) || edgeD s)) := by
  induction d with
  | zero =>
    intro i hi hd
    obtain rfl : i = s.size := by omega
    exact ev_eq (spec_text_end s h2) (by simp [rngF])
  | succ d ih =>
    intro i hi hd
    have hw : wrap64 ((i : Int) + 1) = ((i + 1 : Nat) : Int) := by rw [w64 (by omega) (by omega)]; rfl
    refine Ev.step (f := fun k => if rngD (bt s (i : Int)) = true then spec_l4Text.l0 k s ((i + 1 : Nat) : Int) else some false) (fun k => ?_) ?_
    · simp only [spec_l4Text.l0]
      rw [if_pos (by omega), if_pos (by omega), hw]
      unfold rngD
      by_cases c1 : bt s (i : Int) < 32
      · rw [if_pos c1, if_neg (by simp; omega)]
      · rw [if_neg c1]
        by_cases c2 : bt s (i : Int) > 126
        · rw [if_pos c2, if_neg (by simp; omega)]
        · rw [if_neg c2, if_pos (by simp; omega)]
    · unfold rngF
      cases h : rngD (bt s (i : Int)) with
      | true => exact ev_pos rfl (ev_eq (ih (i + 1) (by omega) (by omega)) (by simp))
      | false => exact ev_neg (by simp) (ev_eq (Ev.now _) (by simp))
theorem spec_text (s : ByteArray) : Ev (fun k => spec_l4Text.f k s) (textD s) := by
  unfold spec_l4Text.f textD
  by_cases h : s.size ≤ 40
  · refine ev_neg (by omega) (ev_eq (spec_text_loop s h _ 0 (by omega) rfl) ?_)
    by_cases h0 : s.size = 0
    · rw [h0]; simp [rngF]
    · simp [h, h0]
  · exact ev_pos (by omega) (ev_eq (Ev.now _) (by simp [h]))
def digD (c : Int) : Bool := decide (48 ≤ c) && decide (c ≤ 57)
def keyC (c : Int) : Bool := loD c || digD c
def keyF (s : ByteArray) : Nat → Nat → Bool
  | 0, _ => true
  | d + 1, i => keyC (bt s (i : Int)) && keyF s d (i + 1)
def inK (n : Nat) : Bool := decide (1 ≤ n) && decide (n ≤ 10)
def keyD (s : ByteArray) : Bool := inK s.size && (loD (bt s 0) && keyF s s.size 0)
theorem in10 (n : Nat) : (if (n : Int) ≥ 1 then some (decide ((n : Int) ≤ 10)) else some false) = some (inK n) := by
  unfold inK
  by_cases h : 1 ≤ n
  · rw [if_pos (by omega)]
    congr 1
    rw [decide_eq_true h, Bool.true_and, decide_eq_decide]; omega
  · rw [if_neg (by omega)]; simp [h]
theorem inK_iff {n : Nat} : inK n = true ↔ 1 ≤ n ∧ n ≤ 10 := by simp [inK]
theorem impl_dig (c : Int) : impl_isDigit.f c = some (digD c) := by unfold impl_isDigit.f digD; by_cases h : 48 ≤ c <;> simp [h]
theorem spec_key_loop (s : ByteArray) (h2 : s.size ≤ 10) (d : Nat) : ∀ i : Nat, i ≤ s.size → s.size - i = d → Ev (fun k => spec_l4Key.l0 k s (i : Int)) (keyF s d i) := by
  induction d with
  | zero =>
    intro i hi hd
    refine Ev.step (f := fun _ => some true) (fun k => ?_) (Ev.now _)
    simp only [spec_l4Key.l0]; rw [if_neg (by omega)]
  | succ d ih =>
    intro i hi hd
    have hw : wrap64 ((i : Int) + 1) = ((i + 1 : Nat) : Int) := by rw [w64 (by omega) (by omega)]; rfl
    refine Ev.step (f := fun k => if keyC (bt s (i : Int)) = true then spec_l4Key.l0 k s ((i + 1 : Nat) : Int) else some false) (fun k => ?_) ?_
    · simp only [spec_l4Key.l0]
      rw [if_pos (by omega), if_pos (by omega), hw, spec_lo]
      simp only [Option.bind_some]
      unfold keyC
      cases loD (bt s (i : Int)) with
      | true => rw [if_pos rfl, Bool.true_or, if_pos rfl]
      | false =>
        rw [if_neg (by simp)]
        unfold digD
        by_cases c1 : bt s (i : Int) < 48
        · rw [if_pos c1, if_neg (by simp; omega)]
        · rw [if_neg c1]
          by_cases c2 : bt s (i : Int) > 57
          · rw [if_pos c2, if_neg (by simp; omega)]
          · rw [if_neg c2, if_pos (by simp; omega)]
    · unfold keyF
      cases h : keyC (bt s (i : Int)) with
      | true => exact ev_pos rfl (ev_eq (ih (i + 1) (by omega) (by omega)) (by simp))
      | false => exact ev_neg (by simp) (ev_eq (Ev.now _) (by simp))
theorem impl_key_loop (s : ByteArray) (h2 : s.size ≤ 10) (d : Nat) : ∀ i : Nat, i ≤ s.size → s.size - i = d → Ev (fun k => impl_isKey.l0 k s (i : Int)) (keyF s d i) := by
  induction d with
  | zero =>
    intro i hi hd
    refine Ev.step (f := fun _ => some true) (fun k => ?_) (Ev.now _)
    simp only [impl_isKey.l0]; rw [if_neg (by omega)]
  | succ d ih =>
    intro i hi hd
    have hw : wrap64 ((i : Int) + 1) = ((i + 1 : Nat) : Int) := by rw [w64 (by omega) (by omega)]; rfl
    refine Ev.step (f := fun k => if keyC (bt s (i : Int)) = true then impl_isKey.l0 k s ((i + 1 : Nat) : Int) else some false) (fun k => ?_) ?_
    · simp only [impl_isKey.l0]
      rw [if_pos (by omega), if_pos (by omega), hw, impl_lo]
      simp only [Option.bind_some]
      unfold keyC
      cases loD (bt s (i : Int)) with
      | true => rw [if_pos rfl, Bool.true_or, if_pos rfl]
      | false =>
        rw [if_neg (by simp), impl_dig]
        simp only [Option.bind_some, Bool.false_or]
    · unfold keyF
      cases h : keyC (bt s (i : Int)) with
      | true => exact ev_pos rfl (ev_eq (ih (i + 1) (by omega) (by omega)) (by simp))
      | false => exact ev_neg (by simp) (ev_eq (Ev.now _) (by simp))
theorem spec_key (s : ByteArray) : Ev (fun k => spec_l4Key.f k s) (keyD s) := by
  have hj1 : Ev (fun k => spec_l4Key.j0 k s true) false := Ev.step (f := fun _ => some false) (fun k => by simp [spec_l4Key.j0]) (Ev.now _)
  unfold spec_l4Key.f spec_l1In.f keyD
  rw [in10]
  refine Ev.bind (a := inK s.size) (Ev.now _) ?_
  cases h : inK s.size with
  | false => exact ev_neg (by simp) (ev_eq hj1 (by simp))
  | true =>
    obtain ⟨h1, h2⟩ := inK_iff.1 h
    refine ev_pos rfl (ev_pos (by omega) (ev_bind0 (spec_lo _) ?_))
    cases loD (bt s 0) with
    | false => exact ev_eq hj1 (by simp)
    | true => exact Ev.step (f := fun k => spec_l4Key.l0 k s ((0 : Nat) : Int)) (fun k => by simp [spec_l4Key.j0]) (ev_eq (spec_key_loop s h2 _ 0 (by omega) rfl) (by simp))
theorem impl_key (s : ByteArray) : Ev (fun k => impl_isKey.f k s) (keyD s) := by
  have hj1 : Ev (fun k => impl_isKey.j0 k s true) false := Ev.step (f := fun _ => some false) (fun k => by simp [impl_isKey.j0]) (Ev.now _)
  unfold impl_isKey.f impl_inside.f keyD
  rw [in10]
  refine Ev.bind (a := inK s.size) (Ev.now _) ?_
  cases h : inK s.size with
  | false => exact ev_neg (by simp) (ev_eq hj1 (by simp))
  | true =>
    obtain ⟨h1, h2⟩ := inK_iff.1 h
    refine ev_pos rfl (ev_pos (by omega) (ev_bind0 (impl_lo _) ?_))
    cases loD (bt s 0) with
    | false => exact ev_eq hj1 (by simp)
    | true => exact Ev.step (f := fun k => impl_isKey.l0 k s ((0 : Nat) : Int)) (fun k => by simp [impl_isKey.j0]) (ev_eq (impl_key_loop s h2 _ 0 (by omega) rfl) (by simp))
def bytesS (l : List ByteArray) : Nat := (l.map (·.size)).sum
def bulkS (l : List ByteArray) : Nat := l.length + bytesS l
theorem bytesS_cons (a : ByteArray) (l : List ByteArray) : bytesS (a :: l) = a.size + bytesS l := by simp [bytesS]
def lftOf (left : Int) (n : Nat) : Int := if (n : Int) ≤ left then left - n else -1
theorem szS_loop (l : List ByteArray) (hb : ∀ s ∈ l, s.size ≤ 9223372036854775807) (hl : l.length ≤ 9223372036854775807) (d : Nat) : ∀ (left : Int) (i : Nat), 0 ≤ left → left ≤ 4611686018427387904 → l.length - i = d → i ≤ l.length →
    Ev (fun k => laws_szStringS.l0 k l left i) (lftOf left (bytesS (l.drop i))) := by
  induction d with
  | zero =>
    intro left i h0 h1 hd hi
    refine Ev.step (f := fun _ => some left) (fun k => ?_) (ev_eq (Ev.now _) ?_)
    · simp only [laws_szStringS.l0]; rw [if_neg (by omega)]
    · rw [List.drop_of_length_le (by omega)]; simp [lftOf, bytesS]; omega
  | succ d ih =>
    intro left i h0 h1 hd hi
    have hlt : i < l.length := by omega
    have hs := hb l[i] (List.getElem_mem hlt)
    have hr : rdOf ByteArray.empty l (i : Int) = l[i] := by simp [rdOf, hlt]
    have hw : wrap64 (left - (l[i].size : Int)) = left - (l[i].size : Int) := w64 (by omega) (by omega)
    rw [List.drop_eq_getElem_cons hlt, bytesS_cons]
    by_cases hn : left - (l[i].size : Int) < 0
    · refine Ev.step (f := fun _ => some (-1)) (fun k => ?_) (ev_eq (Ev.now _) ?_)
      · simp only [laws_szStringS.l0]; rw [if_pos (by omega), if_pos (by omega), hr, hw, if_pos hn]
      · unfold lftOf; rw [if_neg (by omega)]
    · refine Ev.step (f := fun k => laws_szStringS.l0 k l (left - (l[i].size : Int)) ((i + 1 : Nat) : Int)) (fun k => ?_) (ev_eq (ih (left - (l[i].size : Int)) (i + 1) (by omega) (by omega) (by omega) (by omega)) ?_)
      · simp only [laws_szStringS.l0]; rw [if_pos (by omega), if_pos (by omega), hr, hw, if_neg hn, w64 (x := (i : Int) + 1) (by omega) (by omega)]; rfl
      · unfold lftOf; split <;> split <;> omega
theorem szS_ev (l : List ByteArray) (hb : ∀ s ∈ l, s.size ≤ 9223372036854775807) (hl : l.length ≤ 9223372036854775807) (left : Int) (h0 : 0 ≤ left) (h1 : left ≤ 4611686018427387904) :
    Ev (fun k => laws_szStringS.f k l left) (lftOf left (bulkS l)) := by
  unfold laws_szStringS.f
  have hw : wrap64 (left - (l.length : Int)) = left - (l.length : Int) := w64 (by omega) (by omega)
  rw [hw]
  by_cases hn : left - (l.length : Int) < 0
  · refine ev_pos hn (ev_eq (Ev.now _) ?_)
    unfold lftOf bulkS; rw [if_neg (by omega)]
  · refine ev_neg hn (ev_eq (szS_loop l hb hl l.length (left - l.length) 0 (by omega) (by omega) rfl (by omega)) ?_)
    rw [List.drop_zero]
    unfold lftOf bulkS; split <;> split <;> omega
theorem toS_loop (l : List ByteArray) (hl : l.length ≤ 17592186044416) (d : Nat) : ∀ (i : Nat), l.length - i = d → i ≤ l.length →
    Ev (fun k => laws_toStringS.l0 k l (l.take i ++ List.replicate (l.length - i) (⟨#[]⟩ : ByteArray)) i) l := by
  induction d with
  | zero =>
    intro i hd hi
    refine Ev.step (f := fun _ => some l) (fun k => ?_) (Ev.now _)
    simp only [laws_toStringS.l0]; rw [if_neg (by omega), hd, List.take_of_length_le (by omega)]; simp
  | succ d ih =>
    intro i hd hi
    have hlt : i < l.length := by omega
    refine Ev.step (f := fun k => laws_toStringS.l0 k l (l.take (i + 1) ++ List.replicate (l.length - (i + 1)) (⟨#[]⟩ : ByteArray)) ((i + 1 : Nat) : Int)) (fun k => ?_) (ih (i + 1) (by omega) (by omega))
    have hr : rdOf ByteArray.empty l (i : Int) = l[i] := by simp [rdOf, hlt]
    have hlen : (l.take i).length = i := by simp; omega
    have e : (l.take i ++ List.replicate (l.length - i) (⟨#[]⟩ : ByteArray)).set i l[i] = l.take (i + 1) ++ List.replicate (l.length - (i + 1)) (⟨#[]⟩ : ByteArray) := by
      rw [List.set_append_right _ _ (by omega), hlen, Nat.sub_self, show l.length - i = (l.length - (i + 1)) + 1 by omega, List.replicate_succ, List.set_cons_zero, List.take_succ_eq_append_getElem hlt, List.append_assoc]
      rfl
    simp only [laws_toStringS.l0]
    rw [if_pos (by omega), if_pos (by omega), if_pos (by simp; omega), hr, w64 (x := (i : Int) + 1) (by omega) (by omega), Int.toNat_natCast, e]
    rfl
theorem toS_ev (l : List ByteArray) (hl : l.length ≤ 17592186044416) : Ev (fun k => laws_toStringS.f k l) l := by
  unfold laws_toStringS.f
  refine ev_pos (by omega) (ev_pos (by omega) ?_)
  have := toS_loop l hl l.length 0 rfl (by omega)
  simpa using this
end Go.Proofs.YtcckamdpncbkoabDoor.G

namespace Go.Proofs.YtcckamdpncbkoabDoor.G
open Go.RowKit Go.Proofs.YtcckamdpncbkoabDoorW.PrintWords Go.Proofs.YtcckamdpncbkoabDoorW.PrintLast Go.Proofs.YtcckamdpncbkoabDoorW.PrintMore
open Go.Proofs.YtcckamdpncbkoabDoor.Gl Go.Proofs.YtcckamdpncbkoabDoor.Ext
attribute [local go_sem] max2_int min2_int max_two min_two max_three min_three max_four min_four   -- for this text's walks alone
set_option linter.unusedVariables false
set_option linter.unusedSimpArgs false

/-! ### spec_IsValidName: function 21 -/
def spec_IsValidName.f (k : Nat) (l0_0 : List ByteArray) (a0_1 : ByteArray) (a0_2 : ByteArray) (a0_3 : ByteArray) : Option (Bool) := (spec_l2Good.f k l0_0 a0_1 a0_2 a0_3).bind fun t360 => (some t360)
theorem spec_IsValidName.mono : ∀ a0 a1 a2 a3 k, LeO (spec_IsValidName.f k a0 a1 a2 a3) (spec_IsValidName.f (k + 1) a0 a1 a2 a3) := by
 intro a0 a1 a2 a3 k
 unfold spec_IsValidName.f
 repeat' first
   | (with_reducible exact spec_l2Good.mono _ _ _ _ _)
   | (with_reducible exact LeO.refl _)
   | (with_reducible exact LeO.none _)
   | (with_reducible refine LeO.ite ?_ ?_)
   | (with_reducible refine LeO.bind ?_ (fun _ => ?_))
   | exact spec_l2Good.mono _ _ _ _ _
   | exact LeO.none _
   | refine LeO.ite ?_ ?_
   | refine LeO.bind ?_ (fun _ => ?_)
set_option maxHeartbeats 8000000 in
set_option maxRecDepth 100000 in
theorem spec_IsValidName.calls (k : Nat) (A0_0 : Option Addr) (c0_0 : Nat) (l0_0 : List ByteArray) (a0_1 : ByteArray) (a0_2 : ByteArray) (a0_3 : ByteArray) (r : Bool) (w : World) (hr0_0 : Kd.C Kd.string w A0_0 l0_0.length l0_0) (hc0_0 : l0_0.length ≤ c0_0) (h : spec_IsValidName.f k l0_0 a0_1 a0_2 a0_3 = some r) :
  Calls Tryd.prog 21 #[.agg #[.slice A0_0 l0_0.length c0_0, .string a0_1, .string a0_2, .string a0_3]] w fun e w' => e = .returned (.bool r) ∧ Below w.heap.size w w' := by
 have hu34 := Tryd.underlying34
 have HR0_0 := Aside0.mk hr0_0
 have HC0_0 := Aside0.mk hc0_0
 clear hr0_0 hc0_0
 have HB := Aside0.mk (Below.refl w.heap.size w)
 have H : ((spec_l2Good.f k l0_0 a0_1 a0_2 a0_3).bind fun t360 => (some t360)) = some r := h
 clear h
 replace H := Option.bind_eq_some_iff.mp H
 obtain ⟨t360, A20, H⟩ := H
 try dsimp only at H
 have A2 := Aside0.mk A20
 clear A20
 obtain rfl := Option.some.inj H
 go_enter Tryd.func21, Tryd.ntmps21
 go_wp2_with (first | ((with_reducible refine gate_dst (N := 1) rfl ?_); refine box_event ?hg (N := 1) ?hd (cs := #[.slice A0_0 l0_0.length c0_0, .string a0_1, .string a0_2, .string a0_3]) (t := 34) ?hr ?_; (case hd => rfl); (case hg => rfl); (case hr => first | (go_simp; done) | (go_simp; rfl)); intro gb359 hg w3 hbox hb; have n0_ := Aside0.mk (below_step au31 hb); have n1_ := Aside0.mk (hbox); have n2_ := Aside0.mk ((by rw [hg]; exact (below_size au31) : w.heap.size ≤ gb359)); have n3_ := Aside0.mk ((by rw [hg]; exact (below_size au31) : w.heap.size ≤ gb359)); clear HB; have HB := n0_; have BK359 := n1_; have GW359 := n2_; have GE359 := n3_; clear n0_ n1_ n2_ n3_; clear hb hbox hg; have hcz4_0 : w3.cell? ⟨gb359, 0, none⟩ = some (.slice A0_0 l0_0.length c0_0) := (blk_cell BK359.out 0).trans rfl; have hcz4_1 : w3.cell? ⟨gb359, 1, none⟩ = some (.string a0_1) := (blk_cell BK359.out 1).trans rfl; have hcz4_2 : w3.cell? ⟨gb359, 2, none⟩ = some (.string a0_2) := (blk_cell BK359.out 2).trans rfl; have hcz4_3 : w3.cell? ⟨gb359, 3, none⟩ = some (.string a0_3) := (blk_cell BK359.out 3).trans rfl; have hfz4_0 := blk_frozen BK359.out 0; have hfz4_1 := blk_frozen BK359.out 1; have hfz4_2 := blk_frozen BK359.out 2; have hfz4_3 := blk_frozen BK359.out 3) | ((with_reducible refine gate_callee (f := 72) rfl ?_); refine goesL_ (some 4) rfl rfl Tryd.func72 (by kernel_rfl) rfl #[.agg #[.slice A0_0 l0_0.length c0_0, .string a0_1, .string a0_2, .string a0_3]] rfl au30 ?_; (with_reducible refine (spec_l2Good.calls k _ _ l0_0 a0_1 a0_2 a0_3 t360 _ ?side1 ?side2 A2.out).mono ?_); (case side1 => repeat (first | exact (Kd.C_below HR0_0.out HB.out) | (with_reducible refine Kd.C_alloc ?_ _) | (with_reducible refine Kd.C_drewN ?_ _) | (with_reducible refine Kd.C_drew ?_))); (case side2 => exact HC0_0.out); rintro e w5 ⟨rfl, hb⟩; refine ⟨_, rfl, ?_⟩; have n0_ := Aside0.mk (blk_below (g := gb359) (o := .cells #[.slice A0_0 l0_0.length c0_0, .string a0_1, .string a0_2, .string a0_3] 34 (0, 0)) (by (with_reducible repeat (first | refine blk_drewN ?_ _ | refine blk_drew ?_ | refine blk_alloc ?_ _)); exact BK359.out) hb); have n1_ := Aside0.mk (below_step (by repeat (first | (with_reducible first | exact HB.out | apply below_alloc | apply pw_below_drewN | apply below_drew1 | refine below_set ?_ GE359.out) | exact HB.out)) hb); clear BK359; clear HB; have BK359 := n0_; have HB := n1_; clear n0_ n1_; (try clear hb); (try clear hb2); (try clear hk); (try clear hi)))
 go_ret
 exact ⟨by first | rfl | (simp [errW_none, errW_some] <;> rfl) | (simp [*, errW_none, errW_some] <;> rfl), by repeat (first | (with_reducible first | exact HB.out | apply below_alloc | apply pw_below_drewN | apply below_drew1 | refine below_set ?_ GE359.out) | exact HB.out)⟩

end Go.Proofs.YtcckamdpncbkoabDoor.G

namespace Go.Proofs.YtcckamdpncbkoabDoor.G
open Go.RowKit Go.Proofs.YtcckamdpncbkoabDoorW.PrintWords Go.Proofs.YtcckamdpncbkoabDoorW.PrintLast Go.Proofs.YtcckamdpncbkoabDoor.B
set_option linter.unusedVariables false
set_option linter.unusedSimpArgs false
def sufD (S : ByteArray) : Bool := decide (S.size = 0) || wordD S
def restD (P F S : ByteArray) : Bool := partD P && (greatD F && sufD S)
def goodN (G : List ByteArray) (P F S : ByteArray) : Bool := G.all greatD && (decide (G.length ≤ 3) && restD P F S)
theorem spec_tail (P F S : ByteArray) (hP : P.size ≤ 4294967280) : Ev (fun k => (spec_l2Particle.f k P).bind fun t134 => (if t134 = true then ((spec_l2Word.f k F).bind fun t135 => (if t135 = true then (if 0 < (F.size : Int) then ((spec_l2Upper.f (bt F 0)).bind fun t136 => (if t136 = true then (if S.toList = ([] : List UInt8) then (some true) else ((spec_l2Word.f k S).bind fun t137 => (some t137))) else (some false))) else (none)) else (some false))) else (some false))) (restD P F S) := by
  unfold restD
  refine Ev.bind (spec_part P hP) ?_
  cases partD P with
  | false => exact ev_neg (by simp) (Ev.now _)
  | true =>
    refine ev_pos rfl (Ev.bind (spec_word F) ?_)
    unfold greatD
    cases h : wordD F with
    | false => exact ev_neg (by simp) (Ev.now _)
    | true =>
      have := word_in h
      refine ev_pos rfl (ev_pos (by omega) (ev_bind0 (spec_up _) ?_))
      cases upD (bt F 0) with
      | false => exact ev_neg (by simp) (Ev.now _)
      | true =>
        refine ev_pos rfl ?_
        unfold sufD
        by_cases h : S.size = 0
        · exact ev_pos ((nil_iff S).2 h) (ev_eq (Ev.now _) (by simp [h]))
        · exact ev_neg (fun e => h ((nil_iff S).1 e)) (Ev.bind (spec_word S) (ev_eq (Ev.now _) (by simp [h])))
theorem spec_good_loop (G : List ByteArray) (P F S : ByteArray) (hG : G.length ≤ 4611686018427387904) (hP : P.size ≤ 4294967280) (d : Nat) : ∀ i : Nat, i ≤ G.length → G.length - i = d →
    Ev (fun k => spec_l2Good.l0 k (i : Int) G P F S) ((G.drop i).all greatD && (decide (G.length ≤ 3) && restD P F S)) := by
  induction d with
  | zero =>
    intro i h1 hd
    refine Ev.step (f := fun k => if (G.length : Int) ≤ 3 then ((spec_l2Particle.f k P).bind fun t134 => (if t134 = true then ((spec_l2Word.f k F).bind fun t135 => (if t135 = true then (if 0 < (F.size : Int) then ((spec_l2Upper.f (bt F 0)).bind fun t136 => (if t136 = true then (if S.toList = ([] : List UInt8) then (some true) else ((spec_l2Word.f k S).bind fun t137 => (some t137))) else (some false))) else (none)) else (some false))) else (some false))) else some false) (fun k => ?_) ?_
    · simp only [spec_l2Good.l0]; rw [if_neg (by omega)]
    · rw [List.drop_of_length_le (by omega)]
      by_cases h : G.length ≤ 3
      · exact ev_pos (by omega) (ev_eq (spec_tail P F S hP) (by simp [h]))
      · exact ev_neg (by omega) (ev_eq (Ev.now _) (by simp [h]))
  | succ d ih =>
    intro i h1 hd
    have hi : i < G.length := by omega
    have hw : wrap64 ((i : Int) + 1) = ((i + 1 : Nat) : Int) := by rw [w64 (by omega) (by omega)]; rfl
    rw [List.drop_eq_getElem_cons hi, List.all_cons, Bool.and_assoc]
    refine Ev.step (f := fun k => (spec_l2Word.f k G[i]).bind fun t131 => (if t131 = true then (if 0 < ((G[i]).size : Int) then ((spec_l2Upper.f (bt G[i] 0)).bind fun t133 => (if t133 = true then (spec_l2Good.l0 k ((i + 1 : Nat) : Int) G P F S) else (some false))) else (none)) else (some false))) (fun k => ?_) ?_
    · simp only [spec_l2Good.l0, rd_get G i hi]
      rw [if_pos (by omega), if_pos (by omega), hw]
    · refine Ev.bind (spec_word _) ?_
      rw [show greatD G[i] = (wordD G[i] && upD (bt G[i] 0)) from rfl]
      cases h : wordD G[i] with
      | false => exact ev_neg (by simp) (ev_eq (Ev.now _) (by simp))
      | true =>
        have := word_in h
        refine ev_pos rfl (ev_pos (by omega) (ev_bind0 (spec_up _) ?_))
        cases upD (bt G[i] 0) with
        | false => exact ev_neg (by simp) (ev_eq (Ev.now _) (by simp))
        | true => exact ev_pos rfl (ev_eq (ih (i + 1) (by omega) (by omega)) (by simp))
theorem spec_name (G : List ByteArray) (P F S : ByteArray) (hG : G.length ≤ 4611686018427387904) (hP : P.size ≤ 4294967280) : Ev (fun k => spec_l2Good.f k G P F S) (goodN G P F S) := by
  have := spec_good_loop G P F S hG hP _ 0 (by omega) rfl
  unfold spec_l2Good.f goodN
  rw [List.drop_zero] at this
  exact this
theorem idx_loop (G : List ByteArray) (hG : G.length ≤ 4611686018427387904) (d : Nat) : ∀ i : Nat, i ≤ G.length → G.length - i = d →
    ∃ v, Ev (fun k => slices_IndexFunc_string_string_at_74.l0 k G (G.length : Int) (i : Int)) v ∧ decide (v ≥ 0) = !((G.drop i).all greatD) := by
  induction d with
  | zero =>
    intro i h1 hd
    refine ⟨-1, Ev.step (f := fun _ => some (-1)) (fun k => ?_) (Ev.now _), ?_⟩
    · simp only [slices_IndexFunc_string_string_at_74.l0]; rw [if_neg (by omega)]
    · rw [List.drop_of_length_le (by omega)]; simp
  | succ d ih =>
    intro i h1 hd
    have hi : i < G.length := by omega
    have hw : wrap64 ((i : Int) + 1) = ((i + 1 : Nat) : Int) := by rw [w64 (by omega) (by omega)]; rfl
    rw [List.drop_eq_getElem_cons hi, List.all_cons]
    have hst : ∀ v, Ev (fun k => (impl_IsValidName_1.f k G[i]).bind fun t => if t = true then some (i : Int) else slices_IndexFunc_string_string_at_74.l0 k G (G.length : Int) ((i + 1 : Nat) : Int)) v → Ev (fun k => slices_IndexFunc_string_string_at_74.l0 k G (G.length : Int) (i : Int)) v := by
      intro v hv
      refine Ev.step (fun k => ?_) hv
      simp only [slices_IndexFunc_string_string_at_74.l0, rd_get G i hi]
      rw [if_pos (by omega), if_pos (by omega), if_pos (by omega), hw]
    have hf : Ev (fun k => impl_IsValidName_1.f k G[i]) (!greatD G[i]) := by
      unfold impl_IsValidName_1.f
      exact Ev.bind (impl_great _) (Ev.now _)
    cases h : greatD G[i] with
    | true =>
      obtain ⟨v, hv, e⟩ := ih (i + 1) (by omega) (by omega)
      refine ⟨v, hst v (Ev.bind hf (ev_neg (by simp [h]) hv)), ?_⟩
      rw [e]; simp
    | false =>
      refine ⟨(i : Int), hst _ (Ev.bind hf (ev_pos (by simp [h]) (Ev.now _))), ?_⟩
      simp
theorem contains_ev (G : List ByteArray) (hG : G.length ≤ 4611686018427387904) : Ev (fun k => slices_ContainsFunc_string_string_at_74.f k G) (!(G.all greatD)) := by
  obtain ⟨v, hv, e⟩ := idx_loop G hG _ 0 (by omega) rfl
  unfold slices_ContainsFunc_string_string_at_74.f slices_IndexFunc_string_string_at_74.f
  rw [List.drop_zero] at e
  exact Ev.bind hv (ev_eq (Ev.now _) e)
theorem impl_valid (G : List ByteArray) (P F S : ByteArray) (hG : G.length ≤ 4611686018427387904) (hP : P.size ≤ 4294967280) : Ev (fun k => impl_IsValidName.f k G P F S) (goodN G P F S) := by
  have hj1 : Ev (fun k => impl_IsValidName.j0 k true G P F S) false := Ev.step (f := fun _ => some false) (fun k => by simp [impl_IsValidName.j0]) (Ev.now _)
  have hj0 : Ev (fun k => impl_IsValidName.j0 k false G P F S) (restD P F S) := by
    refine Ev.step (f := fun k => (impl_isParticle.f k P).bind fun t172 => (if t172 = true then ((impl_isGreatWord.f k F).bind fun t173 => (if t173 = true then (if S.toList = ([] : List UInt8) then (some true) else ((impl_isNameWord.f k S).bind fun t174 => (some t174))) else (some false))) else (some false))) (fun k => by simp [impl_IsValidName.j0]) ?_
    unfold restD
    refine Ev.bind (impl_part P hP) ?_
    cases partD P with
    | false => exact ev_neg (by simp) (Ev.now _)
    | true =>
      refine ev_pos rfl (Ev.bind (impl_great F) ?_)
      cases greatD F with
      | false => exact ev_neg (by simp) (Ev.now _)
      | true =>
        refine ev_pos rfl ?_
        unfold sufD
        by_cases h : S.size = 0
        · exact ev_pos ((nil_iff S).2 h) (ev_eq (Ev.now _) (by simp [h]))
        · exact ev_neg (fun e => h ((nil_iff S).1 e)) (Ev.bind (impl_word S) (ev_eq (Ev.now _) (by simp [h])))
  unfold impl_IsValidName.f goodN
  by_cases h : G.length ≤ 3
  · refine ev_neg (by omega) (Ev.bind (contains_ev G hG) ?_)
    cases G.all greatD with
    | true => exact ev_eq hj0 (by simp [h])
    | false => exact ev_eq hj1 (by simp)
  · exact ev_pos (by omega) (ev_eq hj1 (by simp [h]))
def bulkN (G : List ByteArray) (P F S : ByteArray) : Nat := bulkS G + P.size + F.size + S.size
theorem szN_ev (G : List ByteArray) (P F S : ByteArray) (hb : ∀ s ∈ G, s.size ≤ 9223372036854775807) (hl : G.length ≤ 9223372036854775807) (hP : P.size ≤ 9223372036854775807) (hF : F.size ≤ 9223372036854775807) (hS : S.size ≤ 9223372036854775807) (left : Int) (h0 : 0 ≤ left) (h1 : left ≤ 4611686018427387904) :
    Ev (fun k => laws_szName.f k G P F S left) (lftOf left (bulkN G P F S)) := by
  unfold laws_szName.f
  refine Ev.bind (szS_ev G hb hl left h0 h1) ?_
  unfold bulkN
  by_cases c : (bulkS G : Int) ≤ left
  · have e : lftOf left (bulkS G) = left - bulkS G := by unfold lftOf; rw [if_pos c]
    rw [e]
    have w1 : wrap64 (left - (bulkS G : Int) - (P.size : Int)) = left - (bulkS G : Int) - (P.size : Int) := w64 (by omega) (by omega)
    rw [w1]
    refine ev_neg (by omega) ?_
    by_cases c1 : left - (bulkS G : Int) - (P.size : Int) < 0
    · exact ev_pos c1 (ev_eq (Ev.now _) (by unfold lftOf; rw [if_neg (by omega)]))
    refine ev_neg c1 ?_
    have w2 : wrap64 (left - (bulkS G : Int) - (P.size : Int) - (F.size : Int)) = left - (bulkS G : Int) - (P.size : Int) - (F.size : Int) := w64 (by omega) (by omega)
    rw [w2]
    by_cases c2 : left - (bulkS G : Int) - (P.size : Int) - (F.size : Int) < 0
    · exact ev_pos c2 (ev_eq (Ev.now _) (by unfold lftOf; rw [if_neg (by omega)]))
    refine ev_neg c2 ?_
    have w3 : wrap64 (left - (bulkS G : Int) - (P.size : Int) - (F.size : Int) - (S.size : Int)) = left - (bulkS G : Int) - (P.size : Int) - (F.size : Int) - (S.size : Int) := w64 (by omega) (by omega)
    rw [w3]
    by_cases c3 : left - (bulkS G : Int) - (P.size : Int) - (F.size : Int) - (S.size : Int) < 0
    · exact ev_pos c3 (ev_eq (Ev.now _) (by unfold lftOf; rw [if_neg (by omega)]))
    · exact ev_neg c3 (ev_eq (Ev.now _) (by unfold lftOf; rw [if_pos (by omega)]; omega))
  · have e : lftOf left (bulkS G) = -1 := by unfold lftOf; rw [if_neg c]
    rw [e]
    exact ev_pos (by omega) (ev_eq (Ev.now _) (by unfold lftOf; rw [if_neg (by omega)]))
theorem toN_ev (G : List ByteArray) (P F S : ByteArray) (hl : G.length ≤ 17592186044416) : Ev (fun k => laws_toName.f k G P F S) (G, P, F, S) := by
  unfold laws_toName.f
  exact Ev.bind (toS_ev G hl) (Ev.now _)
theorem eqS_same_loop (l : List ByteArray) (hl : l.length ≤ 4611686018427387904) (d : Nat) : ∀ i : Nat, i ≤ l.length → l.length - i = d → Ev (fun k => laws_eqStringS.l0 k l l (i : Int)) true := by
  induction d with
  | zero =>
    intro i h1 hd
    refine Ev.step (f := fun _ => some true) (fun k => ?_) (Ev.now _)
    simp only [laws_eqStringS.l0]; rw [if_neg (by omega)]
  | succ d ih =>
    intro i h1 hd
    have hw : wrap64 ((i : Int) + 1) = ((i + 1 : Nat) : Int) := by rw [w64 (by omega) (by omega)]; rfl
    refine Ev.step (f := fun k => laws_eqStringS.l0 k l l ((i + 1 : Nat) : Int)) (fun k => ?_) (ih (i + 1) (by omega) (by omega))
    simp only [laws_eqStringS.l0]
    rw [if_pos (by omega), if_pos (by omega), if_pos (by omega), if_pos trivial, hw]
theorem eqS_same (l : List ByteArray) (hl : l.length ≤ 4611686018427387904) : Ev (fun k => laws_eqStringS.f k l l) true := by
  unfold laws_eqStringS.f
  exact ev_pos rfl (eqS_same_loop l hl _ 0 (by omega) rfl)
theorem eqN_same (G : List ByteArray) (P F S : ByteArray) (hl : G.length ≤ 4611686018427387904) : Ev (fun k => laws_eqName.f k G P F S G P F S) true := by
  unfold laws_eqName.f
  exact Ev.bind (eqS_same G hl) (ev_pos rfl (ev_pos rfl (ev_pos rfl (ev_pos rfl (Ev.now _)))))


end Go.Proofs.YtcckamdpncbkoabDoor.G

namespace Go.Proofs.YtcckamdpncbkoabDoor.G
open Go.RowKit Go.Proofs.YtcckamdpncbkoabDoorW.PrintWords Go.Proofs.YtcckamdpncbkoabDoorW.PrintLast Go.Proofs.YtcckamdpncbkoabDoor.B Go.Proofs.YtcckamdpncbkoabDoor.Opn
set_option linter.unusedVariables false
set_option linter.unusedSimpArgs false
def conv (x : S89) : S34 := ⟨x.f0, x.f1, x.f2, x.f3⟩
def bulkL (l : List S89) : Nat := (l.map fun x => bulkN x.f0 x.f1 x.f2 x.f3).sum
theorem rd24 (l : List S89) (i : Nat) (h : i < l.length) : rd_T89 l (i : Int) = l[i] := by simp [rd_T89, h]
theorem rd27 (l : List S34) (i : Nat) (h : i < l.length) : rd_T34 l (i : Int) = l[i] := by simp [rd_T34, h]
theorem bulkL_cons (a : S89) (l : List S89) : bulkL (a :: l) = bulkN a.f0 a.f1 a.f2 a.f3 + bulkL l := by simp [bulkL]
theorem bulkL_mem {l : List S89} {x : S89} (h : x ∈ l) : bulkN x.f0 x.f1 x.f2 x.f3 ≤ bulkL l := by
  induction l with
  | nil => simp at h
  | cons a l ih =>
    rw [bulkL_cons]
    rcases List.mem_cons.1 h with rfl | h
    · omega
    · have := ih h; omega
theorem szL_loop (l : List S89) (hb : ∀ x ∈ l, ok89 x) (hl : l.length ≤ 9223372036854775807) (d : Nat) : ∀ (left : Int) (i : Nat), 0 ≤ left → left ≤ 1048576 → l.length - i = d → i ≤ l.length →
    Ev (fun k => laws_szNameS.l0 k l left (i : Int)) (lftOf left (bulkL (l.drop i))) := by
  induction d with
  | zero =>
    intro left i h0 h1 hd hi
    refine Ev.step (f := fun _ => some left) (fun k => ?_) (ev_eq (Ev.now _) ?_)
    · simp only [laws_szNameS.l0]; rw [if_neg (by omega)]
    · rw [List.drop_of_length_le (by omega)]; unfold lftOf bulkL; simp; omega
  | succ d ih =>
    intro left i h0 h1 hd hi
    have hlt : i < l.length := by omega
    obtain ⟨b0, b1, b2, b3⟩ := hb l[i] (List.getElem_mem hlt)
    have hsz := szN_ev (l[i]).f0 (l[i]).f1 (l[i]).f2 (l[i]).f3 b0.2 b0.1 b1 b2 b3 left h0 (by omega)
    have hw : wrap64 ((i : Int) + 1) = ((i + 1 : Nat) : Int) := by rw [w64 (by omega) (by omega)]; rfl
    rw [List.drop_eq_getElem_cons hlt, bulkL_cons]
    refine Ev.step (f := fun k => (laws_szName.f k (l[i]).f0 (l[i]).f1 (l[i]).f2 (l[i]).f3 left).bind fun t276 => (if t276 < 0 then (some (-1)) else (laws_szNameS.l0 k l t276 ((i + 1 : Nat) : Int)))) (fun k => ?_) (Ev.bind hsz ?_)
    · simp only [laws_szNameS.l0, rd24 l i hlt, hw]
      rw [if_pos (by omega), if_pos (by omega)]
    · by_cases c : (bulkN (l[i]).f0 (l[i]).f1 (l[i]).f2 (l[i]).f3 : Int) ≤ left
      · have e : lftOf left (bulkN (l[i]).f0 (l[i]).f1 (l[i]).f2 (l[i]).f3) = left - bulkN (l[i]).f0 (l[i]).f1 (l[i]).f2 (l[i]).f3 := by unfold lftOf; rw [if_pos c]
        rw [e]
        refine ev_neg (by omega) (ev_eq (ih _ (i + 1) (by omega) (by omega) (by omega) (by omega)) ?_)
        unfold lftOf; split <;> split <;> omega
      · have e : lftOf left (bulkN (l[i]).f0 (l[i]).f1 (l[i]).f2 (l[i]).f3) = -1 := by unfold lftOf; rw [if_neg c]
        rw [e]
        exact ev_pos (by omega) (ev_eq (Ev.now _) (by unfold lftOf; rw [if_neg (by omega)]))
theorem szL_ev (l : List S89) (hb : ∀ x ∈ l, ok89 x) (hl : l.length ≤ 9223372036854775807) (left : Int) (h0 : 0 ≤ left) (h1 : left ≤ 1048576) :
    Ev (fun k => laws_szNameS.f k l left) (lftOf left (l.length + bulkL l)) := by
  unfold laws_szNameS.f
  have hw : wrap64 (left - (l.length : Int)) = left - (l.length : Int) := w64 (by omega) (by omega)
  rw [hw]
  by_cases hn : left - (l.length : Int) < 0
  · exact ev_pos hn (ev_eq (Ev.now _) (by unfold lftOf; rw [if_neg (by omega)]))
  · refine ev_neg hn (ev_eq (szL_loop l hb hl l.length (left - l.length) 0 (by omega) (by omega) rfl (by omega)) ?_)
    rw [List.drop_zero]
    unfold lftOf; split <;> split <;> omega
theorem toL_loop (l : List S89) (hl : l.length ≤ 1048576) (hs : ∀ x ∈ l, x.f0.length ≤ 1048576) (d : Nat) : ∀ (i : Nat), l.length - i = d → i ≤ l.length →
    Ev (fun k => laws_toNameS.l0 k l ((l.take i).map conv ++ List.replicate (l.length - i) z34) (i : Int)) (l.map conv) := by
  induction d with
  | zero =>
    intro i hd hi
    refine Ev.step (f := fun _ => some (l.map conv)) (fun k => ?_) (Ev.now _)
    simp only [laws_toNameS.l0]; rw [if_neg (by omega), hd, List.take_of_length_le (by omega)]; simp
  | succ d ih =>
    intro i hd hi
    have hlt : i < l.length := by omega
    have hw : wrap64 ((i : Int) + 1) = ((i + 1 : Nat) : Int) := by rw [w64 (by omega) (by omega)]; rfl
    have hlen : ((l.take i).map conv).length = i := by simp; omega
    have hall : ((l.take i).map conv ++ List.replicate (l.length - i) z34).length = l.length := by simp; omega
    have e : ((l.take i).map conv ++ List.replicate (l.length - i) z34).set i (conv l[i]) = (l.take (i + 1)).map conv ++ List.replicate (l.length - (i + 1)) z34 := by
      rw [List.set_append_right _ _ (by omega), hlen, Nat.sub_self, show l.length - i = (l.length - (i + 1)) + 1 by omega, List.replicate_succ, List.set_cons_zero, List.take_succ_eq_append_getElem hlt, List.map_append, List.append_assoc]
      rfl
    have ht := toN_ev (l[i]).f0 (l[i]).f1 (l[i]).f2 (l[i]).f3 (by have := hs _ (List.getElem_mem hlt); omega)
    refine Ev.step (f := fun k => (laws_toName.f k (l[i]).f0 (l[i]).f1 (l[i]).f2 (l[i]).f3).bind fun bt289 => laws_toNameS.l0 k l (((l.take i).map conv ++ List.replicate (l.length - i) z34).set i (⟨bt289.1, bt289.2.1, bt289.2.2.1, bt289.2.2.2⟩ : S34)) ((i + 1 : Nat) : Int)) (fun k => ?_) (Ev.bind ht ?_)
    · have a3 : (i : Int) < ((((l.take i).map conv ++ List.replicate (l.length - i) z34).length : Nat) : Int) := by rw [hall]; omega
      simp only [laws_toNameS.l0, rd24 l i hlt, hw, if_pos a3, Int.toNat_natCast]
      rw [if_pos (by omega), if_pos (by omega)]
    · have hq := ih (i + 1) (by omega) (by omega)
      rw [← e] at hq
      exact hq
theorem toL_ev (l : List S89) (hl : l.length ≤ 1048576) (hs : ∀ x ∈ l, x.f0.length ≤ 1048576) : Ev (fun k => laws_toNameS.f k l) (l.map conv) := by
  unfold laws_toNameS.f
  refine ev_pos (by omega) (ev_pos (by omega) ?_)
  have := toL_loop l hl hs l.length 0 rfl (by omega)
  simpa using this
def goodS (x : S34) : Bool := goodN x.f0 x.f1 x.f2 x.f3
def okS (x : S34) : Prop := x.f0.length ≤ 4611686018427387904 ∧ x.f1.size ≤ 4294967280
def listD (l : List S34) : Bool := l.all goodS && decide (l.length ≤ 4)
theorem spec_list_loop (l : List S34) (ho : ∀ x ∈ l, okS x) (hl : l.length ≤ 1048576) (d : Nat) : ∀ i : Nat, i ≤ l.length → min l.length 5 - i = d → i ≤ 5 →
    Ev (fun k => spec_l2List.l0 k l (i : Int)) (((l.take 5).drop i).all goodS && decide (l.length ≤ 4)) := by
  have stop : ∀ i : Nat, Ev (fun k => spec_l2List.j1 k l (i : Int) false) (decide (l.length ≤ 4)) := fun i => by
    refine Ev.step (f := fun _ => some (decide ((l.length : Int) ≤ 4))) (fun k => by simp [spec_l2List.j1]) (ev_eq (Ev.now _) ?_)
    rw [decide_eq_decide]; omega
  induction d with
  | zero =>
    intro i h1 hd h5
    rw [List.drop_of_length_le (by rw [List.length_take]; omega)]
    refine Ev.step (f := fun k => spec_l2List.j1 k l (i : Int) false) (fun k => ?_) (ev_eq (stop i) (by simp))
    simp only [spec_l2List.l0]
    by_cases c : i < l.length
    · rw [if_pos (by omega), decide_eq_false (by omega)]
    · rw [if_neg (by omega)]
  | succ d ih =>
    intro i h1 hd h5
    have hi : i < l.length := by omega
    have hw : wrap64 ((i : Int) + 1) = ((i + 1 : Nat) : Int) := by rw [w64 (by omega) (by omega)]; rfl
    have hi' : i < (l.take 5).length := by rw [List.length_take]; omega
    have hx := ho _ (List.getElem_mem hi)
    rw [List.drop_eq_getElem_cons hi', List.all_cons, List.getElem_take, Bool.and_assoc]
    refine Ev.step (f := fun k => spec_l2List.j1 k l (i : Int) true) (fun k => ?_) (Ev.step (f := fun k => (spec_l2Good.f k (l[i]).f0 (l[i]).f1 (l[i]).f2 (l[i]).f3).bind fun t278 => (if t278 = true then (spec_l2List.l0 k l ((i + 1 : Nat) : Int)) else (some false))) (fun k => ?_) (Ev.bind (spec_name _ _ _ _ hx.1 hx.2) ?_))
    · simp only [spec_l2List.l0]
      rw [if_pos (by omega), decide_eq_true (by omega)]
    · simp only [spec_l2List.j1, rd27 l i hi, hw]
      rw [if_pos trivial, if_pos (by omega), if_pos (by omega)]
    · show Ev _ (goodN (l[i]).f0 (l[i]).f1 (l[i]).f2 (l[i]).f3 && _)
      cases goodN (l[i]).f0 (l[i]).f1 (l[i]).f2 (l[i]).f3 with
      | true => exact ev_pos rfl (ev_eq (ih (i + 1) (by omega) (by omega) (by omega)) (by simp))
      | false => exact ev_neg (by simp) (ev_eq (Ev.now _) (by simp))
theorem spec_list (l : List S34) (ho : ∀ x ∈ l, okS x) (hl : l.length ≤ 1048576) : Ev (fun k => spec_l2List.f k l) (listD l) := by
  have h := spec_list_loop l ho hl _ 0 (by omega) rfl (by omega)
  unfold spec_l2List.f listD
  refine ev_eq h ?_
  rw [List.drop_zero]
  by_cases c : l.length ≤ 4
  · rw [List.take_of_length_le (by omega)]
  · rw [decide_eq_false c]; simp
theorem idxN_loop (l : List S34) (ho : ∀ x ∈ l, okS x) (hl : l.length ≤ 1048576) (d : Nat) : ∀ i : Nat, i ≤ l.length → l.length - i = d →
    ∃ v, Ev (fun k => impl_Name_157_at_119.l0 k l (l.length : Int) (i : Int)) v ∧ decide (v ≥ 0) = !((l.drop i).all goodS) := by
  induction d with
  | zero =>
    intro i h1 hd
    refine ⟨-1, Ev.step (f := fun _ => some (-1)) (fun k => ?_) (Ev.now _), ?_⟩
    · simp only [impl_Name_157_at_119.l0]; rw [if_neg (by omega)]
    · rw [List.drop_of_length_le (by omega)]; simp
  | succ d ih =>
    intro i h1 hd
    have hi : i < l.length := by omega
    have hw : wrap64 ((i : Int) + 1) = ((i + 1 : Nat) : Int) := by rw [w64 (by omega) (by omega)]; rfl
    have hx := ho _ (List.getElem_mem hi)
    rw [List.drop_eq_getElem_cons hi, List.all_cons]
    have hst : ∀ v, Ev (fun k => (impl_areNames_1.f k (l[i]).f0 (l[i]).f1 (l[i]).f2 (l[i]).f3).bind fun t => if t = true then some (i : Int) else impl_Name_157_at_119.l0 k l (l.length : Int) ((i + 1 : Nat) : Int)) v → Ev (fun k => impl_Name_157_at_119.l0 k l (l.length : Int) (i : Int)) v := by
      intro v hv
      refine Ev.step (fun k => ?_) hv
      simp only [impl_Name_157_at_119.l0, rd27 l i hi, hw]
      rw [if_pos (by omega), if_pos (by omega), if_pos (by omega)]
    have hf : Ev (fun k => impl_areNames_1.f k (l[i]).f0 (l[i]).f1 (l[i]).f2 (l[i]).f3) (!goodS l[i]) := by
      unfold impl_areNames_1.f
      exact Ev.bind (impl_valid _ _ _ _ hx.1 hx.2) (Ev.now _)
    cases h : goodS l[i] with
    | true =>
      obtain ⟨v, hv, e⟩ := ih (i + 1) (by omega) (by omega)
      refine ⟨v, hst v (Ev.bind hf (ev_neg (by simp [h]) hv)), ?_⟩
      rw [e]; simp
    | false =>
      refine ⟨(i : Int), hst _ (Ev.bind hf (ev_pos (by simp [h]) (Ev.now _))), ?_⟩
      simp
theorem impl_list (l : List S34) (ho : ∀ x ∈ l, okS x) (hl : l.length ≤ 1048576) : Ev (fun k => impl_areNames.f k l) (listD l) := by
  unfold impl_areNames.f listD
  by_cases c : l.length ≤ 4
  · obtain ⟨v, hv, e⟩ := idxN_loop l ho hl _ 0 (by omega) rfl
    rw [List.drop_zero] at e
    refine ev_pos (by omega) (Ev.bind (g := fun k => impl_Name_118_at_119.f k l) (a := decide (v ≥ 0)) ?_ (ev_eq (Ev.now _) ?_))
    · unfold impl_Name_118_at_119.f impl_Name_157_at_119.f
      exact Ev.bind hv (Ev.now _)
    · rw [e]; simp [c]
  · exact ev_neg (by omega) (ev_eq (Ev.now _) (by simp [c]))
theorem eqL_loop (l : List S34) (ho : ∀ x ∈ l, okS x) (hl : l.length ≤ 1048576) (d : Nat) : ∀ i : Nat, i ≤ l.length → l.length - i = d → Ev (fun k => laws_eqNameS.l0 k l l (i : Int)) true := by
  induction d with
  | zero =>
    intro i h1 hd
    refine Ev.step (f := fun _ => some true) (fun k => ?_) (Ev.now _)
    simp only [laws_eqNameS.l0]; rw [if_neg (by omega)]
  | succ d ih =>
    intro i h1 hd
    have hi : i < l.length := by omega
    have hw : wrap64 ((i : Int) + 1) = ((i + 1 : Nat) : Int) := by rw [w64 (by omega) (by omega)]; rfl
    refine Ev.step (f := fun k => (laws_eqName.f k (l[i]).f0 (l[i]).f1 (l[i]).f2 (l[i]).f3 (l[i]).f0 (l[i]).f1 (l[i]).f2 (l[i]).f3).bind fun t308 => (if t308 = true then (laws_eqNameS.l0 k l l ((i + 1 : Nat) : Int)) else (some false))) (fun k => ?_) (Ev.bind (eqN_same _ _ _ _ (ho _ (List.getElem_mem hi)).1) (ev_pos rfl (ih (i + 1) (by omega) (by omega))))
    simp only [laws_eqNameS.l0, rd27 l i hi, hw]
    rw [if_pos (by omega), if_pos (by omega), if_pos (by omega)]
theorem eqL_same (l : List S34) (ho : ∀ x ∈ l, okS x) (hl : l.length ≤ 1048576) : Ev (fun k => laws_eqNameS.f k l l) true := by
  unfold laws_eqNameS.f
  exact ev_pos rfl (eqL_loop l ho hl _ 0 (by omega) rfl)
theorem conv_ok {l : List S89} (h : bulkL l ≤ 1048576) : ∀ x ∈ l.map conv, okS x := by
  intro x hx
  obtain ⟨y, hy, rfl⟩ := List.mem_map.1 hx
  have := bulkL_mem hy
  unfold bulkN bulkS at this
  exact ⟨by show y.f0.length ≤ _; omega, by show y.f1.size ≤ _; omega⟩
end Go.Proofs.YtcckamdpncbkoabDoor.G

namespace Go.Proofs.YtcckamdpncbkoabDoor.G
open Go.RowKit Go.Proofs.YtcckamdpncbkoabDoorW.PrintWords Go.Proofs.YtcckamdpncbkoabDoorW.PrintLast
set_option linter.unusedVariables false
set_option linter.unusedSimpArgs false
def daysD (y m : Int) : Int :=
  if m = 2 then (if Int.tmod y 4 = 0 ∧ (Int.tmod y 100 ≠ 0 ∨ Int.tmod y 400 = 0) then 29 else 28) else if m = 4 ∨ m = 6 ∨ m = 9 ∨ m = 11 then 30 else 31
def goodD (y m d : Int) (c : Bool) : Bool :=
  if y = 0 ∧ m = 0 ∧ d = 0 ∧ c = false then true
  else if ¬ (1 ≤ y ∧ y ≤ 2999 ∧ 0 ≤ m ∧ m ≤ 12) then false
  else if m = 0 then decide (d = 0)
  else if c then false else decide (0 ≤ d ∧ d ≤ daysD y m)
theorem tmod_400_4 (y : Int) (h : Int.tmod y 400 = 0) : Int.tmod y 4 = 0 := by
  have h1 : (400 : Int) ∣ y := Int.dvd_of_tmod_eq_zero h
  exact Int.tmod_eq_zero_of_dvd (Int.dvd_trans (by decide) h1)
theorem spec_days (k : Nat) (y m : Int) : spec_l3Days.f (k + 1) y m = some (daysD y m) := by
  unfold spec_l3Days.f daysD
  by_cases h2 : m = 2
  · subst h2
    simp only [if_true, spec_l3Days.j0]
    by_cases a : Int.tmod y 4 = 0 <;> by_cases b : Int.tmod y 100 = 0 <;> by_cases c : Int.tmod y 400 = 0 <;> simp [a, b, c]
    · exact a (tmod_400_4 y c)
    · exact a (tmod_400_4 y c)
  · by_cases a : m = 4 <;> by_cases b : m = 6 <;> by_cases c : m = 9 <;> by_cases d : m = 11 <;> simp [h2, a, b, c, d]
theorem impl_days (y m : Int) : impl_daysInMonth.f y m = some (daysD y m) := by
  unfold impl_daysInMonth.f daysD
  by_cases h2 : m = 2
  · subst h2
    by_cases a : Int.tmod y 4 = 0 <;> by_cases b : Int.tmod y 100 = 0 <;> by_cases c : Int.tmod y 400 = 0 <;> simp [a, b, c]
  · by_cases a : m = 4 <;> by_cases b : m = 6 <;> by_cases c : m = 9 <;> by_cases d : m = 11 <;> simp [h2, a, b, c, d]
theorem spec_good (k : Nat) (y m d : Int) (c : Bool) : spec_l3Good.f (k + 2) y m d c = some (goodD y m d c) := by
  unfold spec_l3Good.f goodD
  by_cases z : y = 0 ∧ m = 0 ∧ d = 0 ∧ c = false
  · obtain ⟨rfl, rfl, rfl, rfl⟩ := z; simp
  · rw [if_neg (by simpa using z), if_neg z]
    simp only [spec_l1In.f]
    by_cases a : 1 ≤ y <;> by_cases b : y ≤ 2999 <;> by_cases e : 0 ≤ m <;> by_cases f : m ≤ 12 <;> simp [a, b, e, f, spec_l3Good.j0]
    rw [spec_days]
    by_cases g : m = 0 <;> by_cases h : d = 0 <;> by_cases i : 0 ≤ d <;> cases c <;> simp [g, h, i, spec_l1In.f, impl_inside.f]
theorem impl_good (k : Nat) (y m d : Int) (c : Bool) : impl_IsValidDate.f (k + 2) y m d c = some (goodD y m d c) := by
  unfold impl_IsValidDate.f goodD
  by_cases z : y = 0 ∧ m = 0 ∧ d = 0 ∧ c = false
  · obtain ⟨rfl, rfl, rfl, rfl⟩ := z; simp
  · rw [if_neg (by simpa using z), if_neg z]
    simp only [impl_inside.f]
    by_cases a : 1 ≤ y <;> by_cases b : y ≤ 2999 <;> by_cases e : 0 ≤ m <;> by_cases f : m ≤ 12 <;> simp [a, b, e, f, impl_IsValidDate.j0]
    rw [impl_days]
    by_cases g : m = 0 <;> by_cases h : d = 0 <;> by_cases i : 0 ≤ d <;> cases c <;> simp [g, h, i, spec_l1In.f, impl_inside.f]
end Go.Proofs.YtcckamdpncbkoabDoor.G

namespace Go.Proofs.YtcckamdpncbkoabDoor.G
open Go.RowKit Go.Proofs.YtcckamdpncbkoabDoorW.PrintWords Go.Proofs.YtcckamdpncbkoabDoorW.PrintLast Go.Proofs.YtcckamdpncbkoabDoorW.PrintMore
open Go.Proofs.YtcckamdpncbkoabDoor.Gl Go.Proofs.YtcckamdpncbkoabDoor.Ext
attribute [local go_sem] max2_int min2_int max_two min_two max_three min_three max_four min_four   -- for this text's walks alone
set_option linter.unusedVariables false
set_option linter.unusedSimpArgs false

/-! ### spec_IsValidEntry: function 42 -/
def spec_IsValidEntry.f (k : Nat) (a0_0 : ByteArray) (a0_1 : Int) (l0_2 : List (S34)) (l0_3 : List (S34)) (a0_4 : ByteArray) (a0_5 : ByteArray) (a0_6 : ByteArray) (a0_7 : Int) (a0_8 : Int) (a0_9 : Int) (a0_10 : Bool) (a0_11 : Int) (a0_12 : ByteArray) (a0_13 : ByteArray) : Option (Bool) := (spec_l4Entry.f k a0_0 a0_1 l0_2 l0_3 a0_4 a0_5 a0_6 a0_7 a0_8 a0_9 a0_10 a0_11 a0_12 a0_13).bind fun t645 => (some t645)
theorem spec_IsValidEntry.mono : ∀ a0 a1 a2 a3 a4 a5 a6 a7 a8 a9 a10 a11 a12 a13 k, LeO (spec_IsValidEntry.f k a0 a1 a2 a3 a4 a5 a6 a7 a8 a9 a10 a11 a12 a13) (spec_IsValidEntry.f (k + 1) a0 a1 a2 a3 a4 a5 a6 a7 a8 a9 a10 a11 a12 a13) := by
 intro a0 a1 a2 a3 a4 a5 a6 a7 a8 a9 a10 a11 a12 a13 k
 unfold spec_IsValidEntry.f
 repeat' first
   | (with_reducible exact spec_l4Entry.mono _ _ _ _ _ _ _ _ _ _ _ _ _ _ _)
   | (with_reducible exact LeO.refl _)
   | (with_reducible exact LeO.none _)
   | (with_reducible refine LeO.ite ?_ ?_)
   | (with_reducible refine LeO.bind ?_ (fun _ => ?_))
   | exact spec_l4Entry.mono _ _ _ _ _ _ _ _ _ _ _ _ _ _ _
   | exact LeO.none _
   | refine LeO.ite ?_ ?_
   | refine LeO.bind ?_ (fun _ => ?_)
set_option maxHeartbeats 8000000 in
set_option maxRecDepth 100000 in
theorem spec_IsValidEntry.calls (k : Nat) (a0_0 : ByteArray) (a0_1 : Int) (A0_2 : Option Addr) (c0_2 : Nat) (l0_2 : List (S34)) (A0_3 : Option Addr) (c0_3 : Nat) (l0_3 : List (S34)) (a0_4 : ByteArray) (a0_5 : ByteArray) (a0_6 : ByteArray) (a0_7 : Int) (a0_8 : Int) (a0_9 : Int) (a0_10 : Bool) (a0_11 : Int) (a0_12 : ByteArray) (a0_13 : ByteArray) (r : Bool) (w : World) (hr0_2 : Kd.C k34 w A0_2 l0_2.length l0_2) (hc0_2 : l0_2.length ≤ c0_2) (hr0_3 : Kd.C k34 w A0_3 l0_3.length l0_3) (hc0_3 : l0_3.length ≤ c0_3) (h : spec_IsValidEntry.f k a0_0 a0_1 l0_2 l0_3 a0_4 a0_5 a0_6 a0_7 a0_8 a0_9 a0_10 a0_11 a0_12 a0_13 = some r) :
  Calls Tryd.prog 42 #[.agg #[.string a0_0, .int .i64 a0_1, .slice A0_2 l0_2.length c0_2, .slice A0_3 l0_3.length c0_3, .string a0_4, .string a0_5, .string a0_6, .int .i64 a0_7, .int .i64 a0_8, .int .i64 a0_9, .bool a0_10, .int .i64 a0_11, .string a0_12, .string a0_13]] w fun e w' => e = .returned (.bool r) ∧ Below w.heap.size w w' := by
 have hu65 := Tryd.underlying65
 have HR0_2 := Aside0.mk hr0_2
 have HC0_2 := Aside0.mk hc0_2
 clear hr0_2 hc0_2
 have HR0_3 := Aside0.mk hr0_3
 have HC0_3 := Aside0.mk hc0_3
 clear hr0_3 hc0_3
 have HB := Aside0.mk (Below.refl w.heap.size w)
 have H : ((spec_l4Entry.f k a0_0 a0_1 l0_2 l0_3 a0_4 a0_5 a0_6 a0_7 a0_8 a0_9 a0_10 a0_11 a0_12 a0_13).bind fun t645 => (some t645)) = some r := h
 clear h
 replace H := Option.bind_eq_some_iff.mp H
 obtain ⟨t645, A20, H⟩ := H
 try dsimp only at H
 have A2 := Aside0.mk A20
 clear A20
 obtain rfl := Option.some.inj H
 go_enter Tryd.func42, Tryd.ntmps42
 go_wp2_with (first | ((with_reducible refine gate_dst (N := 1) rfl ?_); refine box_event ?hg (N := 1) ?hd (cs := #[.string a0_0, .int .i64 a0_1, .slice A0_2 l0_2.length c0_2, .slice A0_3 l0_3.length c0_3, .string a0_4, .string a0_5, .string a0_6, .int .i64 a0_7, .int .i64 a0_8, .int .i64 a0_9, .bool a0_10, .int .i64 a0_11, .string a0_12, .string a0_13]) (t := 65) ?hr ?_; (case hd => rfl); (case hg => rfl); (case hr => first | (go_simp; done) | (go_simp; rfl)); intro gb644 hg w3 hbox hb; have n0_ := Aside0.mk (below_step au31 hb); have n1_ := Aside0.mk (hbox); have n2_ := Aside0.mk ((by rw [hg]; exact (below_size au31) : w.heap.size ≤ gb644)); have n3_ := Aside0.mk ((by rw [hg]; exact (below_size au31) : w.heap.size ≤ gb644)); clear HB; have HB := n0_; have BK644 := n1_; have GW644 := n2_; have GE644 := n3_; clear n0_ n1_ n2_ n3_; clear hb hbox hg; have hcz4_0 : w3.cell? ⟨gb644, 0, none⟩ = some (.string a0_0) := (blk_cell BK644.out 0).trans rfl; have hcz4_1 : w3.cell? ⟨gb644, 1, none⟩ = some (.int .i64 a0_1) := (blk_cell BK644.out 1).trans rfl; have hcz4_2 : w3.cell? ⟨gb644, 2, none⟩ = some (.slice A0_2 l0_2.length c0_2) := (blk_cell BK644.out 2).trans rfl; have hcz4_3 : w3.cell? ⟨gb644, 3, none⟩ = some (.slice A0_3 l0_3.length c0_3) := (blk_cell BK644.out 3).trans rfl; have hcz4_4 : w3.cell? ⟨gb644, 4, none⟩ = some (.string a0_4) := (blk_cell BK644.out 4).trans rfl; have hcz4_5 : w3.cell? ⟨gb644, 5, none⟩ = some (.string a0_5) := (blk_cell BK644.out 5).trans rfl; have hcz4_6 : w3.cell? ⟨gb644, 6, none⟩ = some (.string a0_6) := (blk_cell BK644.out 6).trans rfl; have hcz4_7 : w3.cell? ⟨gb644, 7, none⟩ = some (.int .i64 a0_7) := (blk_cell BK644.out 7).trans rfl; have hcz4_8 : w3.cell? ⟨gb644, 8, none⟩ = some (.int .i64 a0_8) := (blk_cell BK644.out 8).trans rfl; have hcz4_9 : w3.cell? ⟨gb644, 9, none⟩ = some (.int .i64 a0_9) := (blk_cell BK644.out 9).trans rfl; have hcz4_10 : w3.cell? ⟨gb644, 10, none⟩ = some (.bool a0_10) := (blk_cell BK644.out 10).trans rfl; have hcz4_11 : w3.cell? ⟨gb644, 11, none⟩ = some (.int .i64 a0_11) := (blk_cell BK644.out 11).trans rfl; have hcz4_12 : w3.cell? ⟨gb644, 12, none⟩ = some (.string a0_12) := (blk_cell BK644.out 12).trans rfl; have hcz4_13 : w3.cell? ⟨gb644, 13, none⟩ = some (.string a0_13) := (blk_cell BK644.out 13).trans rfl; have hfz4_0 := blk_frozen BK644.out 0; have hfz4_1 := blk_frozen BK644.out 1; have hfz4_2 := blk_frozen BK644.out 2; have hfz4_3 := blk_frozen BK644.out 3; have hfz4_4 := blk_frozen BK644.out 4; have hfz4_5 := blk_frozen BK644.out 5; have hfz4_6 := blk_frozen BK644.out 6; have hfz4_7 := blk_frozen BK644.out 7; have hfz4_8 := blk_frozen BK644.out 8; have hfz4_9 := blk_frozen BK644.out 9; have hfz4_10 := blk_frozen BK644.out 10; have hfz4_11 := blk_frozen BK644.out 11; have hfz4_12 := blk_frozen BK644.out 12; have hfz4_13 := blk_frozen BK644.out 13) | ((with_reducible refine gate_callee (f := 101) rfl ?_); refine goesL_ (some 4) rfl rfl Tryd.func101 (by kernel_rfl) rfl #[.agg #[.string a0_0, .int .i64 a0_1, .slice A0_2 l0_2.length c0_2, .slice A0_3 l0_3.length c0_3, .string a0_4, .string a0_5, .string a0_6, .int .i64 a0_7, .int .i64 a0_8, .int .i64 a0_9, .bool a0_10, .int .i64 a0_11, .string a0_12, .string a0_13]] rfl au30 ?_; (with_reducible refine (spec_l4Entry.calls k a0_0 a0_1 _ _ l0_2 _ _ l0_3 a0_4 a0_5 a0_6 a0_7 a0_8 a0_9 a0_10 a0_11 a0_12 a0_13 t645 _ ?side1 ?side2 ?side3 ?side4 A2.out).mono ?_); (case side1 => repeat (first | exact (Kd.C_below HR0_2.out HB.out) | (with_reducible refine Kd.C_alloc ?_ _) | (with_reducible refine Kd.C_drewN ?_ _) | (with_reducible refine Kd.C_drew ?_))); (case side2 => exact HC0_2.out); (case side3 => repeat (first | exact (Kd.C_below HR0_3.out HB.out) | (with_reducible refine Kd.C_alloc ?_ _) | (with_reducible refine Kd.C_drewN ?_ _) | (with_reducible refine Kd.C_drew ?_))); (case side4 => exact HC0_3.out); rintro e w5 ⟨rfl, hb⟩; refine ⟨_, rfl, ?_⟩; have n0_ := Aside0.mk (blk_below (g := gb644) (o := .cells #[.string a0_0, .int .i64 a0_1, .slice A0_2 l0_2.length c0_2, .slice A0_3 l0_3.length c0_3, .string a0_4, .string a0_5, .string a0_6, .int .i64 a0_7, .int .i64 a0_8, .int .i64 a0_9, .bool a0_10, .int .i64 a0_11, .string a0_12, .string a0_13] 65 (0, 0)) (by (with_reducible repeat (first | refine blk_drewN ?_ _ | refine blk_drew ?_ | refine blk_alloc ?_ _)); exact BK644.out) hb); have n1_ := Aside0.mk (below_step (by repeat (first | (with_reducible first | exact HB.out | apply below_alloc | apply pw_below_drewN | apply below_drew1 | refine below_set ?_ GE644.out) | exact HB.out)) hb); clear BK644; clear HB; have BK644 := n0_; have HB := n1_; clear n0_ n1_; (try clear hb); (try clear hb2); (try clear hk); (try clear hi)))
 go_ret
 exact ⟨by first | rfl | (simp [errW_none, errW_some] <;> rfl) | (simp [*, errW_none, errW_some] <;> rfl), by repeat (first | (with_reducible first | exact HB.out | apply below_alloc | apply pw_below_drewN | apply below_drew1 | refine below_set ?_ GE644.out) | exact HB.out)⟩

end Go.Proofs.YtcckamdpncbkoabDoor.G

namespace Go.Proofs.YtcckamdpncbkoabDoor.G
open Go.RowKit Go.Proofs.YtcckamdpncbkoabDoorW.PrintWords Go.Proofs.YtcckamdpncbkoabDoorW.PrintLast Go.Proofs.YtcckamdpncbkoabDoor.B Go.Proofs.YtcckamdpncbkoabDoor.Opn
set_option linter.unusedVariables false
set_option linter.unusedSimpArgs false
def kindD (n : Int) : Bool := decide (1 ≤ n) && decide (n ≤ 4)
def volD (n : Int) : Bool := decide (0 ≤ n) && decide (n ≤ 9999)
def crossD (X K : ByteArray) : Bool := decide (X.size = 0) || (keyD X && (X.toList != K.toList))
theorem in_kind (n : Int) : (if n ≥ 1 then some (decide (n ≤ 4)) else some false) = some (kindD n) := by
  unfold kindD
  by_cases h : n ≥ 1
  · rw [if_pos h, decide_eq_true (show 1 ≤ n from h)]; rfl
  · rw [if_neg h, decide_eq_false (show ¬ 1 ≤ n from h)]; rfl
theorem in_vol (n : Int) : (if n ≥ 0 then some (decide (n ≤ 9999)) else some false) = some (volD n) := by
  unfold volD
  by_cases h : n ≥ 0
  · rw [if_pos h, decide_eq_true (show 0 ≤ n from h)]; rfl
  · rw [if_neg h, decide_eq_false (show ¬ 0 ≤ n from h)]; rfl
theorem spec_date (y m d : Int) (c : Bool) : Ev (fun k => spec_l3Good.f k y m d c) (goodD y m d c) := ⟨2, fun k hk => by
  obtain ⟨k', rfl⟩ : ∃ k', k = k' + 2 := ⟨k - 2, by omega⟩
  exact spec_good k' y m d c⟩
theorem impl_date (y m d : Int) (c : Bool) : Ev (fun k => impl_IsValidDate.f k y m d c) (goodD y m d c) := ⟨2, fun k hk => by
  obtain ⟨k', rfl⟩ : ∃ k', k = k' + 2 := ⟨k - 2, by omega⟩
  exact impl_good k' y m d c⟩
theorem spec_cross (X K : ByteArray) : Ev (fun k => if X.toList = ([] : List UInt8) then (some true) else ((spec_l4Key.f k X).bind fun t643 => (if t643 = true then (some (X.toList != K.toList)) else (some false)))) (crossD X K) := by
  unfold crossD
  by_cases h : X.size = 0
  · exact ev_pos ((nil_iff X).2 h) (ev_eq (Ev.now _) (by simp [h]))
  · refine ev_neg (fun e => h ((nil_iff X).1 e)) (Ev.bind (spec_key X) ?_)
    cases keyD X with
    | true => exact ev_pos rfl (ev_eq (Ev.now _) (by simp [h]))
    | false => exact ev_neg (by simp) (ev_eq (Ev.now _) (by simp [h]))
theorem impl_cross (X K : ByteArray) : Ev (fun k => if X.toList = ([] : List UInt8) then (some true) else ((impl_isKey.f k X).bind fun t643 => (if t643 = true then (some (X.toList != K.toList)) else (some false)))) (crossD X K) := by
  unfold crossD
  by_cases h : X.size = 0
  · exact ev_pos ((nil_iff X).2 h) (ev_eq (Ev.now _) (by simp [h]))
  · refine ev_neg (fun e => h ((nil_iff X).1 e)) (Ev.bind (impl_key X) ?_)
    cases keyD X with
    | true => exact ev_pos rfl (ev_eq (Ev.now _) (by simp [h]))
    | false => exact ev_neg (by simp) (ev_eq (Ev.now _) (by simp [h]))
def headE (K : ByteArray) (kd : Int) (A E : List S34) : Bool := keyD K && (kindD kd && (listD A && listD E))
def textsE (T C Pb Pg : ByteArray) : Bool := textD T && (textD C && (textD Pb && textD Pg))
def tailE (y m d : Int) (c : Bool) (v : Int) : Bool := goodD y m d c && volD v
def entD (K : ByteArray) (kd : Int) (A E : List S34) (T C Pb : ByteArray) (y m d : Int) (c : Bool) (v : Int) (Pg X : ByteArray) : Bool :=
  headE K kd A E && (textsE T C Pb Pg && (tailE y m d c v && crossD X K))
theorem ev_and {g : Nat → Option Bool} {f n : Nat → Option Bool} {b r : Bool} (h : Ev g b) (hn : Ev n false) (hf : b = true → Ev f r) : Ev (fun k => (g k).bind fun t => if t = true then f k else n k) (b && r) := by
  refine Ev.bind h ?_
  cases b with
  | true => exact ev_pos rfl (ev_eq (hf rfl) (by simp))
  | false => exact ev_neg (by simp) (ev_eq hn (by simp))
theorem ev_and0 {o : Option Bool} {f n : Nat → Option Bool} {b r : Bool} (h : o = some b) (hn : Ev n false) (hf : b = true → Ev f r) : Ev (fun k => o.bind fun t => if t = true then f k else n k) (b && r) := by
  subst h
  cases b with
  | true => exact ev_bind0 rfl (ev_pos rfl (ev_eq (hf rfl) (by simp)))
  | false => exact ev_bind0 rfl (ev_neg (by simp) (ev_eq hn (by simp)))
theorem ev_last {g f n : Nat → Option Bool} {J : Nat → Bool → Option Bool} {b r : Bool} (h : Ev g b) (hn : Ev (fun k => J k true) false) (hf : Ev (fun k => J k false) r) : Ev (fun k => (g k).bind fun t => J k (!t)) (b && r) := by
  refine Ev.bind h ?_
  cases b with
  | true => exact ev_eq hf (by simp)
  | false => exact ev_eq hn (by simp)
section
variable (K : ByteArray) (kd : Int) (A E : List S34) (T C Pb : ByteArray) (y m d : Int) (c : Bool) (v : Int) (Pg X : ByteArray)
theorem spec_ent (hA : ∀ x ∈ A, okS x) (lA : A.length ≤ 1048576) (hE : ∀ x ∈ E, okS x) (lE : E.length ≤ 1048576) : Ev (fun k => spec_l4Entry.f k K kd A E T C Pb y m d c v Pg X) (entD K kd A E T C Pb y m d c v Pg X) := by
  have n1 : Ev (fun k => spec_l4Entry.j1 k true K kd A E T C Pb y m d c v Pg X) false := Ev.step (f := fun _ => some false) (fun k => by simp [spec_l4Entry.j1]) (Ev.now _)
  have n0 : Ev (fun k => spec_l4Entry.j0 k true K kd A E T C Pb y m d c v Pg X) false := Ev.step (f := fun _ => some false) (fun k => by simp [spec_l4Entry.j0]) (Ev.now _)
  have p1 : Ev (fun k => spec_l4Entry.j1 k false K kd A E T C Pb y m d c v Pg X) (goodD y m d c && (volD v && crossD X K)) := by
    refine Ev.step (f := fun k => (spec_l3Good.f k y m d c).bind fun t641 => (if t641 = true then ((spec_l1In.f v 0 9999).bind fun t642 => (if t642 = true then (if X.toList = ([] : List UInt8) then (some true) else ((spec_l4Key.f k X).bind fun t643 => (if t643 = true then (some (X.toList != K.toList)) else (some false)))) else (some false))) else (some false))) (fun k => by simp [spec_l4Entry.j1]) ?_
    exact ev_and (spec_date y m d c) (Ev.now _) (fun _ => ev_and0 (by unfold spec_l1In.f; exact in_vol v) (Ev.now _) (fun _ => spec_cross X K))
  have p0 : Ev (fun k => spec_l4Entry.j0 k false K kd A E T C Pb y m d c v Pg X) (textD T && (textD C && (textD Pb && (textD Pg && (goodD y m d c && (volD v && crossD X K)))))) := by
    refine Ev.step (f := fun k => (spec_l4Text.f k T).bind fun t637 => (if t637 = true then ((spec_l4Text.f k C).bind fun t638 => (if t638 = true then ((spec_l4Text.f k Pb).bind fun t639 => (if t639 = true then ((spec_l4Text.f k Pg).bind fun t640 => (spec_l4Entry.j1 k (!t640) K kd A E T C Pb y m d c v Pg X)) else (spec_l4Entry.j1 k true K kd A E T C Pb y m d c v Pg X))) else (spec_l4Entry.j1 k true K kd A E T C Pb y m d c v Pg X))) else (spec_l4Entry.j1 k true K kd A E T C Pb y m d c v Pg X))) (fun k => by simp [spec_l4Entry.j0]) ?_
    exact ev_and (spec_text T) n1 (fun _ => ev_and (spec_text C) n1 (fun _ => ev_and (spec_text Pb) n1 (fun _ => ev_last (f := fun _ => none) (n := fun _ => none) (J := fun k b => spec_l4Entry.j1 k b K kd A E T C Pb y m d c v Pg X) (spec_text Pg) n1 p1)))
  unfold spec_l4Entry.f
  refine ev_eq (ev_and (spec_key K) n0 (fun _ => ev_and0 (by unfold spec_l1In.f; exact in_kind kd) n0 (fun _ => ev_and (spec_list A hA lA) n0 (fun _ => ev_last (f := fun _ => none) (n := fun _ => none) (J := fun k b => spec_l4Entry.j0 k b K kd A E T C Pb y m d c v Pg X) (spec_list E hE lE) n0 p0)))) ?_
  unfold entD headE textsE tailE
  simp only [Bool.and_assoc]
theorem impl_ent (hA : ∀ x ∈ A, okS x) (lA : A.length ≤ 1048576) (hE : ∀ x ∈ E, okS x) (lE : E.length ≤ 1048576) : Ev (fun k => impl_IsValidEntry.f k K kd A E T C Pb y m d c v Pg X) (entD K kd A E T C Pb y m d c v Pg X) := by
  have n0 : Ev (fun k => impl_IsValidEntry.j0 k true K kd A E T C Pb y m d c v Pg X) false := Ev.step (f := fun _ => some false) (fun k => by simp [impl_IsValidEntry.j0]) (Ev.now _)
  have p0 : Ev (fun k => impl_IsValidEntry.j0 k false K kd A E T C Pb y m d c v Pg X) (textD T && (textD C && (textD Pb && (textD Pg && crossD X K)))) := by
    refine Ev.step (f := fun k => (impl_isText.f k T).bind fun t685 => (if t685 = true then ((impl_isText.f k C).bind fun t686 => (if t686 = true then ((impl_isText.f k Pb).bind fun t687 => (if t687 = true then ((impl_isText.f k Pg).bind fun t688 => (if t688 = true then (if X.toList = ([] : List UInt8) then (some true) else ((impl_isKey.f k X).bind fun t689 => (if t689 = true then (some (X.toList != K.toList)) else (some false)))) else (some false))) else (some false))) else (some false))) else (some false))) (fun k => by simp [impl_IsValidEntry.j0]) ?_
    exact ev_and (impl_text T) (Ev.now _) (fun _ => ev_and (impl_text C) (Ev.now _) (fun _ => ev_and (impl_text Pb) (Ev.now _) (fun _ => ev_and (impl_text Pg) (Ev.now _) (fun _ => impl_cross X K))))
  have hk : impl_isKind.f kd = some (kindD kd) := by unfold impl_isKind.f impl_inside.f; rw [in_kind]; rfl
  have hv : impl_inside.f v 0 9999 = some (volD v) := by unfold impl_inside.f; exact in_vol v
  unfold impl_IsValidEntry.f
  refine ev_eq (ev_and (impl_key K) n0 (fun _ => ev_and0 hk n0 (fun _ => ev_and (impl_list A hA lA) n0 (fun _ => ev_and (impl_list E hE lE) n0 (fun _ => ev_and (impl_date y m d c) n0 (fun _ => ev_last (f := fun _ => none) (n := fun _ => none) (J := fun k b => impl_IsValidEntry.j0 k b K kd A E T C Pb y m d c v Pg X) (Ev.congr (fun _ => hv) (Ev.now _)) n0 p0)))))) ?_
  unfold entD headE textsE tailE
  simp only [Bool.and_assoc]
  cases keyD K <;> cases kindD kd <;> cases listD A <;> cases listD E <;> simp only [Bool.true_and, Bool.false_and]
  cases textD T <;> cases textD C <;> cases textD Pb <;> cases textD Pg <;> cases goodD y m d c <;> cases volD v <;> simp
end
def bulkE (K : ByteArray) (A E : List S89) (T C Pb Pg X : ByteArray) : Nat := K.size + (A.length + bulkL A) + (E.length + bulkL E) + T.size + C.size + Pb.size + Pg.size + X.size
theorem szE_ev (K : ByteArray) (kd : Int) (A E : List S89) (T C Pb : ByteArray) (y m d : Int) (c : Bool) (v : Int) (Pg X : ByteArray) (hA : ∀ x ∈ A, ok89 x) (lA : A.length ≤ 9223372036854775807) (hE : ∀ x ∈ E, ok89 x) (lE : E.length ≤ 9223372036854775807)
    (bK : K.size ≤ 9223372036854775807) (bT : T.size ≤ 9223372036854775807) (bC : C.size ≤ 9223372036854775807) (bP : Pb.size ≤ 9223372036854775807) (bG : Pg.size ≤ 9223372036854775807) (bX : X.size ≤ 9223372036854775807) (left : Int) (h0 : 0 ≤ left) (h1 : left ≤ 1048576) :
    Ev (fun k => laws_szEntry.f k K kd A E T C Pb y m d c v Pg X left) (lftOf left (bulkE K A E T C Pb Pg X)) := by
  have neg : ∀ n : Nat, ¬ (n : Int) ≤ left → lftOf left n = -1 := fun n h => by unfold lftOf; rw [if_neg h]
  unfold laws_szEntry.f
  have w0 : wrap64 (left - (K.size : Int)) = left - (K.size : Int) := w64 (by omega) (by omega)
  rw [w0]
  by_cases c0 : left - (K.size : Int) < 0
  · exact ev_pos c0 (ev_eq (Ev.now _) (neg _ (by unfold bulkE; omega)).symm)
  refine ev_neg c0 (Ev.bind (szL_ev A hA lA _ (by omega) (by omega)) ?_)
  by_cases c1 : ((A.length + bulkL A : Nat) : Int) ≤ left - (K.size : Int)
  · have e : lftOf (left - (K.size : Int)) (A.length + bulkL A) = left - (K.size : Int) - (A.length + bulkL A : Nat) := by unfold lftOf; rw [if_pos c1]
    rw [e]
    refine ev_neg (by omega) (Ev.bind (szL_ev E hE lE _ (by omega) (by omega)) ?_)
    by_cases c2 : ((E.length + bulkL E : Nat) : Int) ≤ left - (K.size : Int) - (A.length + bulkL A : Nat)
    · have e : lftOf (left - (K.size : Int) - (A.length + bulkL A : Nat)) (E.length + bulkL E) = left - (K.size : Int) - (A.length + bulkL A : Nat) - (E.length + bulkL E : Nat) := by unfold lftOf; rw [if_pos c2]
      rw [e]
      obtain ⟨l2, hl2⟩ : ∃ l2, l2 = left - (K.size : Int) - (A.length + bulkL A : Nat) - (E.length + bulkL E : Nat) := ⟨_, rfl⟩
      rw [← hl2]
      refine ev_neg (by omega) ?_
      have w1 : wrap64 (l2 - (T.size : Int)) = l2 - (T.size : Int) := w64 (by omega) (by omega)
      rw [w1]
      by_cases c3 : l2 - (T.size : Int) < 0
      · exact ev_pos c3 (ev_eq (Ev.now _) (neg _ (by unfold bulkE; omega)).symm)
      refine ev_neg c3 ?_
      have w2 : wrap64 (l2 - (T.size : Int) - (C.size : Int)) = l2 - (T.size : Int) - (C.size : Int) := w64 (by omega) (by omega)
      rw [w2]
      by_cases c4 : l2 - (T.size : Int) - (C.size : Int) < 0
      · exact ev_pos c4 (ev_eq (Ev.now _) (neg _ (by unfold bulkE; omega)).symm)
      refine ev_neg c4 ?_
      have w3 : wrap64 (l2 - (T.size : Int) - (C.size : Int) - (Pb.size : Int)) = l2 - (T.size : Int) - (C.size : Int) - (Pb.size : Int) := w64 (by omega) (by omega)
      rw [w3]
      by_cases c5 : l2 - (T.size : Int) - (C.size : Int) - (Pb.size : Int) < 0
      · exact ev_pos c5 (ev_eq (Ev.now _) (neg _ (by unfold bulkE; omega)).symm)
      refine ev_neg c5 ?_
      have w4 : wrap64 (l2 - (T.size : Int) - (C.size : Int) - (Pb.size : Int) - (Pg.size : Int)) = l2 - (T.size : Int) - (C.size : Int) - (Pb.size : Int) - (Pg.size : Int) := w64 (by omega) (by omega)
      rw [w4]
      by_cases c6 : l2 - (T.size : Int) - (C.size : Int) - (Pb.size : Int) - (Pg.size : Int) < 0
      · exact ev_pos c6 (ev_eq (Ev.now _) (neg _ (by unfold bulkE; omega)).symm)
      refine ev_neg c6 ?_
      have w5 : wrap64 (l2 - (T.size : Int) - (C.size : Int) - (Pb.size : Int) - (Pg.size : Int) - (X.size : Int)) = l2 - (T.size : Int) - (C.size : Int) - (Pb.size : Int) - (Pg.size : Int) - (X.size : Int) := w64 (by omega) (by omega)
      rw [w5]
      by_cases c7 : l2 - (T.size : Int) - (C.size : Int) - (Pb.size : Int) - (Pg.size : Int) - (X.size : Int) < 0
      · exact ev_pos c7 (ev_eq (Ev.now _) (neg _ (by unfold bulkE; omega)).symm)
      · exact ev_neg c7 (ev_eq (Ev.now _) (by unfold lftOf; rw [if_pos (by unfold bulkE; omega)]; unfold bulkE; omega))
    · have e : lftOf (left - (K.size : Int) - (A.length + bulkL A : Nat)) (E.length + bulkL E) = -1 := by unfold lftOf; rw [if_neg c2]
      rw [e]
      exact ev_pos (by omega) (ev_eq (Ev.now _) (neg _ (by unfold bulkE; omega)).symm)
  · have e : lftOf (left - (K.size : Int)) (A.length + bulkL A) = -1 := by unfold lftOf; rw [if_neg c1]
    rw [e]
    exact ev_pos (by omega) (ev_eq (Ev.now _) (neg _ (by unfold bulkE; omega)).symm)
theorem toE_ev (K : ByteArray) (kd : Int) (A E : List S89) (T C Pb : ByteArray) (y m d : Int) (c : Bool) (v : Int) (Pg X : ByteArray) (lA : A.length ≤ 1048576) (sA : ∀ x ∈ A, x.f0.length ≤ 1048576) (lE : E.length ≤ 1048576) (sE : ∀ x ∈ E, x.f0.length ≤ 1048576) :
    Ev (fun k => laws_toEntry.f k K kd A E T C Pb y m d c v Pg X) (K, kd, A.map conv, E.map conv, T, C, Pb, y, m, d, c, v, Pg, X) := by
  unfold laws_toEntry.f
  exact Ev.bind (toL_ev A lA sA) (Ev.bind (toL_ev E lE sE) (Ev.now _))
theorem eqE_same (K : ByteArray) (kd : Int) (A E : List S34) (T C Pb : ByteArray) (y m d : Int) (c : Bool) (v : Int) (Pg X : ByteArray) (hA : ∀ x ∈ A, okS x) (lA : A.length ≤ 1048576) (hE : ∀ x ∈ E, okS x) (lE : E.length ≤ 1048576) :
    Ev (fun k => laws_eqEntry.f k K kd A E T C Pb y m d c v Pg X K kd A E T C Pb y m d c v Pg X) true := by
  have hd : laws_eqDate.f y m d c y m d c = some true := by unfold laws_eqDate.f; simp
  unfold laws_eqEntry.f
  exact ev_pos rfl (ev_pos rfl (Ev.bind (eqL_same A hA lA) (ev_pos rfl (Ev.bind (eqL_same E hE lE) (ev_pos rfl (ev_pos rfl (ev_pos rfl (ev_pos rfl (ev_bind0 hd (ev_pos rfl (ev_pos rfl (ev_pos rfl (ev_pos rfl (Ev.now _))))))))))))))
def convE (x : S60) : S65 := ⟨x.f0, x.f1, x.f2.map conv, x.f3.map conv, x.f4, x.f5, x.f6, (⟨x.f7.f0, x.f7.f1, x.f7.f2, x.f7.f3⟩ : S63), x.f8, x.f9, x.f10⟩
def bulk1 (x : S60) : Nat := bulkE x.f0 x.f2 x.f3 x.f4 x.f5 x.f6 x.f9 x.f10
def bulkB (l : List S60) : Nat := (l.map bulk1).sum
theorem rdLE (l : List S60) (i : Nat) (h : i < l.length) : rd_T60 l (i : Int) = l[i] := by simp [rd_T60, h]
theorem rdIE (l : List S65) (i : Nat) (h : i < l.length) : rd_T65 l (i : Int) = l[i] := by simp [rd_T65, h]
theorem bulkB_cons (a : S60) (l : List S60) : bulkB (a :: l) = bulk1 a + bulkB l := by simp [bulkB]
theorem bulkB_mem {l : List S60} {x : S60} (h : x ∈ l) : bulk1 x ≤ bulkB l := by
  induction l with
  | nil => simp at h
  | cons a l ih =>
    rw [bulkB_cons]
    rcases List.mem_cons.1 h with rfl | h
    · omega
    · have := ih h; omega
theorem sz1_ev (x : S60) (hx : ok60 x) (left : Int) (h0 : 0 ≤ left) (h1 : left ≤ 1048576) : Ev (fun k => laws_szEntry.f k (x).f0 (x).f1 (x).f2 (x).f3 (x).f4 (x).f5 (x).f6 (x).f7.f0 (x).f7.f1 (x).f7.f2 (x).f7.f3 (x).f8 (x).f9 (x).f10 left) (lftOf left (bulk1 x)) := by
  obtain ⟨b0, _, b2, b3, b4, b5, b6, _, _, b9, b10⟩ := hx
  exact szE_ev (x).f0 (x).f1 (x).f2 (x).f3 (x).f4 (x).f5 (x).f6 (x).f7.f0 (x).f7.f1 (x).f7.f2 (x).f7.f3 (x).f8 (x).f9 (x).f10 b2.2 b2.1 b3.2 b3.1 b0 b4 b5 b6 b9 b10 left h0 h1
theorem szB_loop (l : List S60) (hb : ∀ x ∈ l, ok60 x) (hl : l.length ≤ 9223372036854775807) (d : Nat) : ∀ (left : Int) (i : Nat), 0 ≤ left → left ≤ 1048576 → l.length - i = d → i ≤ l.length →
    Ev (fun k => laws_szEntryS.l0 k l left (i : Int)) (lftOf left (bulkB (l.drop i))) := by
  induction d with
  | zero =>
    intro left i h0 h1 hd hi
    refine Ev.step (f := fun _ => some left) (fun k => ?_) (ev_eq (Ev.now _) ?_)
    · simp only [laws_szEntryS.l0]; rw [if_neg (by omega)]
    · rw [List.drop_of_length_le (by omega)]; unfold lftOf bulkB; simp; omega
  | succ d ih =>
    intro left i h0 h1 hd hi
    have hlt : i < l.length := by omega
    have hsz := sz1_ev l[i] (hb l[i] (List.getElem_mem hlt)) left h0 h1
    have hw : wrap64 ((i : Int) + 1) = ((i + 1 : Nat) : Int) := by rw [w64 (by omega) (by omega)]; rfl
    rw [List.drop_eq_getElem_cons hlt, bulkB_cons]
    refine Ev.step (f := fun k => (laws_szEntry.f k (l[i]).f0 (l[i]).f1 (l[i]).f2 (l[i]).f3 (l[i]).f4 (l[i]).f5 (l[i]).f6 (l[i]).f7.f0 (l[i]).f7.f1 (l[i]).f7.f2 (l[i]).f7.f3 (l[i]).f8 (l[i]).f9 (l[i]).f10 left).bind fun t276 => (if t276 < 0 then (some (-1)) else (laws_szEntryS.l0 k l t276 ((i + 1 : Nat) : Int)))) (fun k => ?_) (Ev.bind hsz ?_)
    · simp only [laws_szEntryS.l0, rdLE l i hlt, hw]
      rw [if_pos (by omega), if_pos (by omega)]
    · by_cases c : (bulk1 l[i] : Int) ≤ left
      · have e : lftOf left (bulk1 l[i]) = left - bulk1 l[i] := by unfold lftOf; rw [if_pos c]
        rw [e]
        refine ev_neg (by omega) (ev_eq (ih _ (i + 1) (by omega) (by omega) (by omega) (by omega)) ?_)
        unfold lftOf; split <;> split <;> omega
      · have e : lftOf left (bulk1 l[i]) = -1 := by unfold lftOf; rw [if_neg c]
        rw [e]
        exact ev_pos (by omega) (ev_eq (Ev.now _) (by unfold lftOf; rw [if_neg (by omega)]))
theorem szB_ev (l : List S60) (hb : ∀ x ∈ l, ok60 x) (hl : l.length ≤ 9223372036854775807) (left : Int) (h0 : 0 ≤ left) (h1 : left ≤ 1048576) :
    Ev (fun k => laws_szLibrary.f k l left) (lftOf left (l.length + bulkB l)) := by
  have inner : Ev (fun k => laws_szEntryS.f k l left) (lftOf left (l.length + bulkB l)) := by
    unfold laws_szEntryS.f
    have hw : wrap64 (left - (l.length : Int)) = left - (l.length : Int) := w64 (by omega) (by omega)
    rw [hw]
    by_cases hn : left - (l.length : Int) < 0
    · exact ev_pos hn (ev_eq (Ev.now _) (by unfold lftOf; rw [if_neg (by omega)]))
    · refine ev_neg hn (ev_eq (szB_loop l hb hl l.length (left - l.length) 0 (by omega) (by omega) rfl (by omega)) ?_)
      rw [List.drop_zero]
      unfold lftOf; split <;> split <;> omega
  unfold laws_szLibrary.f
  refine Ev.bind inner ?_
  by_cases c : ((l.length + bulkB l : Nat) : Int) ≤ left
  · exact ev_neg (by unfold lftOf; rw [if_pos c]; omega) (Ev.now _)
  · have e : lftOf left (l.length + bulkB l) = -1 := by unfold lftOf; rw [if_neg c]
    rw [e]; exact ev_pos (by omega) (Ev.now _)
theorem parts1 {x : S60} (h : bulk1 x ≤ 1048576) : (x.f2.length ≤ 1048576 ∧ bulkL x.f2 ≤ 1048576) ∧ (x.f3.length ≤ 1048576 ∧ bulkL x.f3 ≤ 1048576) := by
  unfold bulk1 bulkE at h; omega
theorem given1 {l : List S89} (h : bulkL l ≤ 1048576) : ∀ x ∈ l, x.f0.length ≤ 1048576 := fun x hx => by have := bulkL_mem hx; unfold bulkN bulkS at this; omega
theorem toB_loop (l : List S60) (hl : l.length ≤ 1048576) (hs : ∀ x ∈ l, bulk1 x ≤ 1048576) (d : Nat) : ∀ (i : Nat), l.length - i = d → i ≤ l.length →
    Ev (fun k => laws_toEntryS.l0 k l ((l.take i).map convE ++ List.replicate (l.length - i) z65) (i : Int)) (l.map convE) := by
  induction d with
  | zero =>
    intro i hd hi
    refine Ev.step (f := fun _ => some (l.map convE)) (fun k => ?_) (Ev.now _)
    simp only [laws_toEntryS.l0]; rw [if_neg (by omega), hd, List.take_of_length_le (by omega)]; simp
  | succ d ih =>
    intro i hd hi
    have hlt : i < l.length := by omega
    have hw : wrap64 ((i : Int) + 1) = ((i + 1 : Nat) : Int) := by rw [w64 (by omega) (by omega)]; rfl
    have hlen : ((l.take i).map convE).length = i := by simp; omega
    have hall : ((l.take i).map convE ++ List.replicate (l.length - i) z65).length = l.length := by simp; omega
    have e : ((l.take i).map convE ++ List.replicate (l.length - i) z65).set i (convE l[i]) = (l.take (i + 1)).map convE ++ List.replicate (l.length - (i + 1)) z65 := by
      rw [List.set_append_right _ _ (by omega), hlen, Nat.sub_self, show l.length - i = (l.length - (i + 1)) + 1 by omega, List.replicate_succ, List.set_cons_zero, List.take_succ_eq_append_getElem hlt, List.map_append, List.append_assoc]
      rfl
    obtain ⟨⟨p1, p2⟩, p3, p4⟩ := parts1 (hs _ (List.getElem_mem hlt))
    have ht := toE_ev (l[i]).f0 (l[i]).f1 (l[i]).f2 (l[i]).f3 (l[i]).f4 (l[i]).f5 (l[i]).f6 (l[i]).f7.f0 (l[i]).f7.f1 (l[i]).f7.f2 (l[i]).f7.f3 (l[i]).f8 (l[i]).f9 (l[i]).f10 p1 (given1 p2) p3 (given1 p4)
    obtain ⟨K, hK⟩ := ht
    obtain ⟨K', hK'⟩ := ih (i + 1) (by omega) (by omega)
    refine ⟨K + K' + 1, fun k hk => ?_⟩
    obtain ⟨k', rfl⟩ : ∃ k', k = k' + 1 := ⟨k - 1, by omega⟩
    have e1 := hK k' (by omega)
    have e2 := hK' k' (by omega)
    simp only at e1 e2
    have a3 : (i : Int) < ((((l.take i).map convE ++ List.replicate (l.length - i) z65).length : Nat) : Int) := by rw [hall]; omega
    simp only [laws_toEntryS.l0, rdLE l i hlt, hw, if_pos a3, Int.toNat_natCast]
    rw [if_pos (by omega), if_pos (by omega), e1]
    simp only [Option.bind_some]
    rw [← e] at e2
    exact e2
theorem toB_ev (l : List S60) (hl : l.length ≤ 1048576) (hs : ∀ x ∈ l, bulk1 x ≤ 1048576) : Ev (fun k => laws_toLibrary.f k l) (l.map convE) := by
  unfold laws_toLibrary.f laws_toEntryS.f
  refine Ev.bind (ev_pos (by omega) (ev_pos (by omega) ?_)) (Ev.now _)
  have := toB_loop l hl hs l.length 0 rfl (by omega)
  simpa using this
structure EOk (x : S65) : Prop where
  a : ∀ y ∈ x.f2, okS y
  la : x.f2.length ≤ 1048576
  e : ∀ y ∈ x.f3, okS y
  le : x.f3.length ≤ 1048576
theorem convE_ok {l : List S60} (h : ∀ x ∈ l, bulk1 x ≤ 1048576) : ∀ x ∈ l.map convE, EOk x := by
  intro x hx
  obtain ⟨y, hy, rfl⟩ := List.mem_map.1 hx
  obtain ⟨⟨p1, p2⟩, p3, p4⟩ := parts1 (h y hy)
  exact ⟨conv_ok p2, by show (y.f2.map conv).length ≤ _; rw [List.length_map]; exact p1, conv_ok p4, by show (y.f3.map conv).length ≤ _; rw [List.length_map]; exact p3⟩
theorem eqB_loop (l : List S65) (ho : ∀ x ∈ l, EOk x) (hl : l.length ≤ 1048576) (d : Nat) : ∀ i : Nat, i ≤ l.length → l.length - i = d → Ev (fun k => laws_eqEntryS.l0 k l l (i : Int)) true := by
  induction d with
  | zero =>
    intro i h1 hd
    refine Ev.step (f := fun _ => some true) (fun k => ?_) (Ev.now _)
    simp only [laws_eqEntryS.l0]; rw [if_neg (by omega)]
  | succ d ih =>
    intro i h1 hd
    have hi : i < l.length := by omega
    have hw : wrap64 ((i : Int) + 1) = ((i + 1 : Nat) : Int) := by rw [w64 (by omega) (by omega)]; rfl
    have o := ho _ (List.getElem_mem hi)
    refine Ev.step (f := fun k => (laws_eqEntry.f k (l[i]).f0 (l[i]).f1 (l[i]).f2 (l[i]).f3 (l[i]).f4 (l[i]).f5 (l[i]).f6 (l[i]).f7.f0 (l[i]).f7.f1 (l[i]).f7.f2 (l[i]).f7.f3 (l[i]).f8 (l[i]).f9 (l[i]).f10 (l[i]).f0 (l[i]).f1 (l[i]).f2 (l[i]).f3 (l[i]).f4 (l[i]).f5 (l[i]).f6 (l[i]).f7.f0 (l[i]).f7.f1 (l[i]).f7.f2 (l[i]).f7.f3 (l[i]).f8 (l[i]).f9 (l[i]).f10).bind fun t308 => (if t308 = true then (laws_eqEntryS.l0 k l l ((i + 1 : Nat) : Int)) else (some false))) (fun k => ?_) (Ev.bind (eqE_same (l[i]).f0 (l[i]).f1 (l[i]).f2 (l[i]).f3 (l[i]).f4 (l[i]).f5 (l[i]).f6 (l[i]).f7.f0 (l[i]).f7.f1 (l[i]).f7.f2 (l[i]).f7.f3 (l[i]).f8 (l[i]).f9 (l[i]).f10 o.a o.la o.e o.le) (ev_pos rfl (ih (i + 1) (by omega) (by omega))))
    simp only [laws_eqEntryS.l0, rdIE l i hi, hw]
    rw [if_pos (by omega), if_pos (by omega), if_pos (by omega)]
theorem eqB_same (l : List S65) (ho : ∀ x ∈ l, EOk x) (hl : l.length ≤ 1048576) : Ev (fun k => laws_eqLibrary.f k l l) true := by
  unfold laws_eqLibrary.f laws_eqEntryS.f
  exact Ev.bind (ev_pos rfl (eqB_loop l ho hl _ 0 (by omega) rfl)) (ev_pos rfl (Ev.now _))
def entS (x : S65) : Bool := entD (x).f0 (x).f1 (x).f2 (x).f3 (x).f4 (x).f5 (x).f6 (x).f7.f0 (x).f7.f1 (x).f7.f2 (x).f7.f3 (x).f8 (x).f9 (x).f10
theorem spec_entS (x : S65) (o : EOk x) : Ev (fun k => spec_l4Entry.f k (x).f0 (x).f1 (x).f2 (x).f3 (x).f4 (x).f5 (x).f6 (x).f7.f0 (x).f7.f1 (x).f7.f2 (x).f7.f3 (x).f8 (x).f9 (x).f10) (entS x) := spec_ent (x).f0 (x).f1 (x).f2 (x).f3 (x).f4 (x).f5 (x).f6 (x).f7.f0 (x).f7.f1 (x).f7.f2 (x).f7.f3 (x).f8 (x).f9 (x).f10 o.a o.la o.e o.le
theorem impl_entS (x : S65) (o : EOk x) : Ev (fun k => impl_IsValidEntry.f k (x).f0 (x).f1 (x).f2 (x).f3 (x).f4 (x).f5 (x).f6 (x).f7.f0 (x).f7.f1 (x).f7.f2 (x).f7.f3 (x).f8 (x).f9 (x).f10) (entS x) := impl_ent (x).f0 (x).f1 (x).f2 (x).f3 (x).f4 (x).f5 (x).f6 (x).f7.f0 (x).f7.f1 (x).f7.f2 (x).f7.f3 (x).f8 (x).f9 (x).f10 o.a o.la o.e o.le
def stepD (l : List S65) (i : Nat) : Bool := entS (rd_T65 l (i : Int)) && (decide (i = 0) || Op.bytesLess ((rd_T65 l ((i : Int) - 1)).f0).toList ((rd_T65 l (i : Int)).f0).toList)
def libF (l : List S65) : Nat → Nat → Bool
  | 0, _ => true
  | d + 1, i => stepD l i && libF l d (i + 1)
def libD (l : List S65) : Bool := libF l l.length 0 && decide (l.length ≤ 8)
theorem spec_lib_loop (l : List S65) (ho : ∀ x ∈ l, EOk x) (hl : l.length ≤ 1048576) (d : Nat) : ∀ i : Nat, i ≤ l.length → l.length - i = d → Ev (fun k => spec_l4Good.l0 k (i : Int) l) (libF l d i) := by
  induction d with
  | zero =>
    intro i h1 hd
    refine Ev.step (f := fun _ => some true) (fun k => ?_) (Ev.now _)
    simp only [spec_l4Good.l0]; rw [if_neg (by omega)]
  | succ d ih =>
    intro i h1 hd
    have hi : i < l.length := by omega
    have hw : wrap64 ((i : Int) + 1) = ((i + 1 : Nat) : Int) := by rw [w64 (by omega) (by omega)]; rfl
    have hw' : wrap64 ((i : Int) - 1) = (i : Int) - 1 := w64 (by omega) (by omega)
    have hr := rdIE l i hi
    have he := spec_entS l[i] (ho _ (List.getElem_mem hi))
    have hn := ih (i + 1) (by omega) (by omega)
    show Ev _ (stepD l i && libF l d (i + 1))
    unfold stepD
    rw [hr]
    refine Ev.step (f := fun k => (spec_l4Entry.f k (l[i]).f0 (l[i]).f1 (l[i]).f2 (l[i]).f3 (l[i]).f4 (l[i]).f5 (l[i]).f6 (l[i]).f7.f0 (l[i]).f7.f1 (l[i]).f7.f2 (l[i]).f7.f3 (l[i]).f8 (l[i]).f9 (l[i]).f10).bind fun t763 => (if t763 = true then (if (decide (i = 0) || Op.bytesLess ((rd_T65 l ((i : Int) - 1)).f0).toList (l[i].f0).toList) = true then (spec_l4Good.l0 k ((i + 1 : Nat) : Int) l) else (some false)) else (some false))) (fun k => ?_) ?_
    · simp only [spec_l4Good.l0, hr, hw, hw']
      rw [if_pos (by omega), if_pos (by omega)]
      by_cases c : i = 0
      · have c' : ¬ (i : Int) > 0 := by omega
        simp only [if_neg c', decide_eq_true c, Bool.true_or, if_true]
      · have c' : (i : Int) > 0 := by omega
        have a1 : (0 : Int) ≤ (i : Int) - 1 := by omega
        have a2 : (i : Int) - 1 < (l.length : Int) := by omega
        simp only [if_pos c', if_pos a1, if_pos a2, decide_eq_false c, Bool.false_or]
    · refine Ev.bind he ?_
      cases entS l[i] with
      | false => exact ev_neg (by simp) (ev_eq (Ev.now _) (by simp))
      | true =>
        refine ev_pos rfl ?_
        cases (decide (i = 0) || Op.bytesLess ((rd_T65 l ((i : Int) - 1)).f0).toList (l[i].f0).toList) with
        | true => exact ev_pos rfl (ev_eq hn (by simp))
        | false => exact ev_neg (by simp) (ev_eq (Ev.now _) (by simp))
theorem impl_lib_loop (l : List S65) (ho : ∀ x ∈ l, EOk x) (hl : l.length ≤ 1048576) (d : Nat) : ∀ i : Nat, i ≤ l.length → l.length - i = d → Ev (fun k => impl_IsValidLibrary.l0 k l (l.length : Int) (i : Int) l) (libF l d i && decide (l.length ≤ 8)) := by
  induction d with
  | zero =>
    intro i h1 hd
    refine Ev.step (f := fun _ => some (decide ((l.length : Int) ≤ 8))) (fun k => ?_) (ev_eq (Ev.now _) ?_)
    · simp only [impl_IsValidLibrary.l0]; rw [if_neg (by omega)]
    · show _ = (true && _)
      rw [Bool.true_and, decide_eq_decide]; omega
  | succ d ih =>
    intro i h1 hd
    have hi : i < l.length := by omega
    have hw : wrap64 ((i : Int) + 1) = ((i + 1 : Nat) : Int) := by rw [w64 (by omega) (by omega)]; rfl
    have hw' : wrap64 ((i : Int) - 1) = (i : Int) - 1 := w64 (by omega) (by omega)
    have hr := rdIE l i hi
    have he := impl_entS l[i] (ho _ (List.getElem_mem hi))
    have hn := ih (i + 1) (by omega) (by omega)
    show Ev _ ((stepD l i && libF l d (i + 1)) && _)
    unfold stepD
    rw [hr]
    refine Ev.step (f := fun k => (impl_IsValidEntry.f k (l[i]).f0 (l[i]).f1 (l[i]).f2 (l[i]).f3 (l[i]).f4 (l[i]).f5 (l[i]).f6 (l[i]).f7.f0 (l[i]).f7.f1 (l[i]).f7.f2 (l[i]).f7.f3 (l[i]).f8 (l[i]).f9 (l[i]).f10).bind fun t763 => (if t763 = true then (if (decide (i = 0) || Op.bytesLess ((rd_T65 l ((i : Int) - 1)).f0).toList (l[i].f0).toList) = true then (impl_IsValidLibrary.l0 k l (l.length : Int) ((i + 1 : Nat) : Int) l) else (some false)) else (some false))) (fun k => ?_) ?_
    · simp only [impl_IsValidLibrary.l0, hr, hw, hw']
      rw [if_pos (by omega), if_pos (by omega), if_pos (by omega)]
      by_cases c : i = 0
      · have c' : ¬ (i : Int) > 0 := by omega
        simp only [if_neg c', decide_eq_true c, Bool.true_or, if_true]
      · have c' : (i : Int) > 0 := by omega
        have a1 : (0 : Int) ≤ (i : Int) - 1 := by omega
        have a2 : (i : Int) - 1 < (l.length : Int) := by omega
        simp only [if_pos c', if_pos a1, if_pos a2, decide_eq_false c, Bool.false_or]
    · refine Ev.bind he ?_
      cases entS l[i] with
      | false => exact ev_neg (by simp) (ev_eq (Ev.now _) (by simp))
      | true =>
        refine ev_pos rfl ?_
        cases (decide (i = 0) || Op.bytesLess ((rd_T65 l ((i : Int) - 1)).f0).toList (l[i].f0).toList) with
        | true => exact ev_pos rfl (ev_eq hn (by simp))
        | false => exact ev_neg (by simp) (ev_eq (Ev.now _) (by simp))
theorem spec_lib (l : List S65) (ho : ∀ x ∈ l, EOk x) (hl : l.length ≤ 1048576) : Ev (fun k => spec_l4Good.f k l) (libD l) := by
  unfold spec_l4Good.f libD
  by_cases c : l.length ≤ 8
  · exact ev_neg (by omega) (ev_eq (spec_lib_loop l ho hl _ 0 (by omega) rfl) (by simp [c]))
  · exact ev_pos (by omega) (ev_eq (Ev.now _) (by simp [c]))
theorem impl_lib (l : List S65) (ho : ∀ x ∈ l, EOk x) (hl : l.length ≤ 1048576) : Ev (fun k => impl_IsValidLibrary.f k l) (libD l) := by
  unfold impl_IsValidLibrary.f libD
  exact impl_lib_loop l ho hl _ 0 (by omega) rfl
end Go.Proofs.YtcckamdpncbkoabDoor.G

namespace Go.Proofs.YtcckamdpncbkoabDoor.Pure
open Go.RowKit Go.Proofs.YtcckamdpncbkoabDoor.G Go.Proofs.YtcckamdpncbkoabDoorW.PrintWords Go.Proofs.YtcckamdpncbkoabDoorW.PrintLast Go.Proofs.YtcckamdpncbkoabDoor.B Go.Proofs.YtcckamdpncbkoabDoor.Opn
set_option linter.unusedVariables false
set_option linter.unusedSimpArgs false
theorem FnExactIsValidLibrary : laws_FnExactIsValidLibrary.Pur := by
  intro l hb
  apply Ev.rounds
  unfold laws_FnExactIsValidLibrary.f
  refine Ev.bind (szB_ev l hb.2 hb.1 1048576 (by omega) (by omega)) ?_
  by_cases q : ((l.length + bulkB l : Nat) : Int) ≤ 1048576
  · have hl : lftOf 1048576 (l.length + bulkB l) = 1048576 - (l.length + bulkB l : Nat) := by unfold lftOf; rw [if_pos q]
    rw [hl]
    have hs : ∀ x ∈ l, bulk1 x ≤ 1048576 := fun x hx => by have := bulkB_mem hx; omega
    have ho := convE_ok hs
    have ll : (l.map convE).length ≤ 1048576 := by rw [List.length_map]; omega
    have ht := toB_ev l (by omega) hs
    have hsp : Ev (fun k => spec_IsValidLibrary.f k (l.map convE)) (libD (l.map convE)) := by
      unfold spec_IsValidLibrary.f
      exact Ev.bind (spec_lib _ ho ll) (Ev.now _)
    have hi := impl_lib _ ho ll
    have he := eqB_same _ ho ll
    exact ev_neg (by omega) (Ev.bind ht (Ev.bind hsp (Ev.bind ht (Ev.bind hi (ev_neg (by simp) (Ev.bind ht (Ev.bind he (ev_pos rfl (Ev.now _)))))))))
  · have hl : lftOf 1048576 (l.length + bulkB l) = -1 := by unfold lftOf; rw [if_neg q]
    rw [hl]
    exact ev_pos (by omega) (Ev.now _)
end Go.Proofs.YtcckamdpncbkoabDoor.Pure
