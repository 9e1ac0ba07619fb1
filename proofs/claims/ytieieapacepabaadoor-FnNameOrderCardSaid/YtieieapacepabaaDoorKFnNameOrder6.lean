/- Texts of this session for the law FnNameOrder, put together by a program (merge.py): each ends with its namespace; conditions stand with each theorem. -/
import Derived.Test.YtieieapacepabaaDoorKFnNameOrder2
import Derived.Test.YtieieapacepabaaDoorKFnNameOrder4
import Derived.Test.YtieieapacepabaaDoorKFnNameOrder5
import Derived.Test.YtieieapacepabaaDoorKFnNameOrder1
import Derived.Deep.Slices
import Derived.Laws.Bits64b
import Derived.Lib.SplitLaws
import Derived.Lib.IndexBytes
import Derived.Lib.IndexLaws
import Derived.Test.YtieieapacepabaaDoorKFnNameOrder3
namespace Go.Proofs.YtieieapacepabaaDoor.G
open Go.RowKit Go.Proofs.YtieieapacepabaaDoorW.PrintWords Go.Proofs.YtieieapacepabaaDoorW.PrintLast Go.Proofs.YtieieapacepabaaDoorW.PrintMore
open Go.Proofs.YtieieapacepabaaDoor.Gl Go.Proofs.YtieieapacepabaaDoor.Ext
attribute [local go_sem] max2_int min2_int max_two min_two max_three min_three max_four min_four   -- for this text's walks alone
set_option linter.unusedVariables false
set_option linter.unusedSimpArgs false

/-! ### impl_MayBeSame: function 9 -/
def impl_MayBeSame.f (k : Nat) (l0_0 : List ByteArray) (a0_1 : ByteArray) (a0_2 : ByteArray) (a0_3 : ByteArray) (l1_0 : List ByteArray) (a1_1 : ByteArray) (a1_2 : ByteArray) (a1_3 : ByteArray) : Option (Bool × Bool) := (impl_IsValidName.f k l0_0 a0_1 a0_2 a0_3).bind fun t383 => (if t383 = true then ((impl_IsValidName.f k l1_0 a1_1 a1_2 a1_3).bind fun t384 => (if t384 = true then ((impl_mayBeSame.f k l0_0 a0_1 a0_2 a0_3 l1_0 a1_1 a1_2 a1_3).bind fun t385 => (some (t385, true))) else (some (false, false)))) else (some (false, false)))
theorem impl_MayBeSame.mono : ∀ a0 a1 a2 a3 a4 a5 a6 a7 k, LeO (impl_MayBeSame.f k a0 a1 a2 a3 a4 a5 a6 a7) (impl_MayBeSame.f (k + 1) a0 a1 a2 a3 a4 a5 a6 a7) := by
 intro a0 a1 a2 a3 a4 a5 a6 a7 k
 unfold impl_MayBeSame.f
 repeat' first
   | (with_reducible exact impl_IsValidName.mono _ _ _ _ _)
   | (with_reducible exact impl_mayBeSame.mono _ _ _ _ _ _ _ _ _)
   | (with_reducible exact LeO.refl _)
   | (with_reducible exact LeO.none _)
   | (with_reducible refine LeO.ite ?_ ?_)
   | (with_reducible refine LeO.bind ?_ (fun _ => ?_))
   | exact impl_IsValidName.mono _ _ _ _ _
   | exact impl_mayBeSame.mono _ _ _ _ _ _ _ _ _
   | exact LeO.none _
   | refine LeO.ite ?_ ?_
   | refine LeO.bind ?_ (fun _ => ?_)
set_option maxHeartbeats 8000000 in
set_option maxRecDepth 100000 in
theorem impl_MayBeSame.calls (k : Nat) (A0_0 : Option Addr) (c0_0 : Nat) (l0_0 : List ByteArray) (a0_1 : ByteArray) (a0_2 : ByteArray) (a0_3 : ByteArray) (A1_0 : Option Addr) (c1_0 : Nat) (l1_0 : List ByteArray) (a1_1 : ByteArray) (a1_2 : ByteArray) (a1_3 : ByteArray) (r1 : Bool) (r2 : Bool) (w : World) {gF1 gF2 gF3 : Bool} (hG : GL gF1 gF2 gF3 w) (hr0_0 : Kd.C Kd.string w A0_0 l0_0.length l0_0) (hc0_0 : l0_0.length ≤ c0_0) (hr1_0 : Kd.C Kd.string w A1_0 l1_0.length l1_0) (hc1_0 : l1_0.length ≤ c1_0) (h : impl_MayBeSame.f k l0_0 a0_1 a0_2 a0_3 l1_0 a1_1 a1_2 a1_3 = some (r1, r2)) :
  Calls Tryd.prog 9 #[.agg #[.slice A0_0 l0_0.length c0_0, .string a0_1, .string a0_2, .string a0_3], .agg #[.slice A1_0 l1_0.length c1_0, .string a1_1, .string a1_2, .string a1_3]] w fun e w' => e = .returned (.tuple #[.bool r1, .bool r2]) ∧ Below w.heap.size w w' := by
 have HG := Aside0.mk hG
 clear hG
 have hu26 := Tryd.underlying26
 have HR0_0 := Aside0.mk hr0_0
 have HC0_0 := Aside0.mk hc0_0
 clear hr0_0 hc0_0
 have HR1_0 := Aside0.mk hr1_0
 have HC1_0 := Aside0.mk hc1_0
 clear hr1_0 hc1_0
 have HB := Aside0.mk (Below.refl w.heap.size w)
 have H : ((impl_IsValidName.f k l0_0 a0_1 a0_2 a0_3).bind fun t383 => (if t383 = true then ((impl_IsValidName.f k l1_0 a1_1 a1_2 a1_3).bind fun t384 => (if t384 = true then ((impl_mayBeSame.f k l0_0 a0_1 a0_2 a0_3 l1_0 a1_1 a1_2 a1_3).bind fun t385 => (some (t385, true))) else (some (false, false)))) else (some (false, false)))) = some (r1, r2) := h
 clear h
 replace H := Option.bind_eq_some_iff.mp H
 obtain ⟨t383, A30, H⟩ := H
 try dsimp only at H
 have A3 := Aside0.mk A30
 clear A30
 by_cases c4 : t383 = true
 ·
  subst c4
  replace H := (if_pos rfl).symm.trans H
  replace H := Option.bind_eq_some_iff.mp H
  obtain ⟨t384, A50, H⟩ := H
  try dsimp only at H
  have A5 := Aside0.mk A50
  clear A50
  by_cases c6 : t384 = true
  ·
   subst c6
   replace H := (if_pos rfl).symm.trans H
   replace H := Option.bind_eq_some_iff.mp H
   obtain ⟨t385, A70, H⟩ := H
   try dsimp only at H
   have A7 := Aside0.mk A70
   clear A70
   simp only [Option.some.injEq, Prod.mk.injEq] at H
   obtain ⟨rfl, rfl⟩ := H
   go_enter Tryd.func9, Tryd.ntmps9
   go_wp2_with (first | ((with_reducible refine gate_dst (N := 2) rfl ?_); refine box_event ?hg (N := 2) ?hd (cs := #[.slice A0_0 l0_0.length c0_0, .string a0_1, .string a0_2, .string a0_3]) (t := 26) ?hr ?_; (case hd => rfl); (case hg => rfl); (case hr => first | (go_simp; done) | (go_simp; rfl)); intro gb381 hg w8 hbox hb; have n0_ := Aside0.mk (below_step au58 hb); have n1_ := Aside0.mk (hbox); have n2_ := Aside0.mk ((by rw [hg]; exact (below_size au58) : w.heap.size ≤ gb381)); have n3_ := Aside0.mk ((by rw [hg]; exact (below_size au58) : w.heap.size ≤ gb381)); clear HB; have HB := n0_; have BK381 := n1_; have GW381 := n2_; have GE381 := n3_; clear n0_ n1_ n2_ n3_; clear hb hbox hg) | ((with_reducible refine gate_dst (N := 3) rfl ?_); refine box_event ?hg (N := 3) ?hd (cs := #[.slice A1_0 l1_0.length c1_0, .string a1_1, .string a1_2, .string a1_3]) (t := 26) ?hr ?_; (case hd => rfl); (case hg => rfl); (case hr => first | (go_simp; done) | (go_simp; rfl)); intro gb382 hg w9 hbox hb; have n0_ := Aside0.mk (blk_below (g := gb381) (o := .cells #[.slice A0_0 l0_0.length c0_0, .string a0_1, .string a0_2, .string a0_3] 26 (0, 0)) au87 hb); have n1_ := Aside0.mk (below_step au54 hb); have n2_ := Aside0.mk (hbox); have n3_ := Aside0.mk ((by rw [hg]; exact (below_size au54) : w.heap.size ≤ gb382)); have n4_ := Aside0.mk ((by rw [hg]; exact (below_size au54) : w.heap.size ≤ gb382)); have n5_ := Aside0.mk ((by rw [hg]; exact Nat.ne_of_lt (blk_lt (g := gb381) (o := .cells #[.slice A0_0 l0_0.length c0_0, .string a0_1, .string a0_2, .string a0_3] 26 (0, 0)) au87) : gb381 ≠ gb382)); have n6_ := Aside0.mk ((by rw [hg]; exact Nat.ne_of_gt (blk_lt (g := gb381) (o := .cells #[.slice A0_0 l0_0.length c0_0, .string a0_1, .string a0_2, .string a0_3] 26 (0, 0)) au87) : gb382 ≠ gb381)); clear BK381; clear HB; have BK381 := n0_; have HB := n1_; have BK382 := n2_; have GW382 := n3_; have GE382 := n4_; have NB381_382 := n5_; have NB382_381 := n6_; clear n0_ n1_ n2_ n3_ n4_ n5_ n6_; clear hb hbox hg; have hnb10 := NB381_382.out; have hnc10 := NB382_381.out; have hcz11_0 : w9.cell? ⟨gb381, 0, none⟩ = some (.slice A0_0 l0_0.length c0_0) := (blk_cell BK381.out 0).trans rfl; have hcz11_1 : w9.cell? ⟨gb381, 1, none⟩ = some (.string a0_1) := (blk_cell BK381.out 1).trans rfl; have hcz11_2 : w9.cell? ⟨gb381, 2, none⟩ = some (.string a0_2) := (blk_cell BK381.out 2).trans rfl; have hcz11_3 : w9.cell? ⟨gb381, 3, none⟩ = some (.string a0_3) := (blk_cell BK381.out 3).trans rfl; have hfz11_0 := blk_frozen BK381.out 0; have hfz11_1 := blk_frozen BK381.out 1; have hfz11_2 := blk_frozen BK381.out 2; have hfz11_3 := blk_frozen BK381.out 3) | ((with_reducible refine gate_callee (f := 19) rfl ?_); refine goesL_ (some 7) rfl rfl Tryd.func19 (by kernel_rfl) rfl #[.agg #[.slice A0_0 l0_0.length c0_0, .string a0_1, .string a0_2, .string a0_3]] rfl au57 ?_; (with_reducible refine (impl_IsValidName.calls (hG := au5) k _ _ l0_0 a0_1 a0_2 a0_3 true _ ?side1 ?side2 A3.out).mono ?_); (case side1 => repeat (first | exact (Kd.C_below HR0_0.out HB.out) | (with_reducible refine Kd.C_alloc ?_ _) | (with_reducible refine Kd.C_drewN ?_ _) | (with_reducible refine Kd.C_drew ?_))); (case side2 => exact HC0_0.out); rintro e w12 ⟨rfl, hb⟩; refine ⟨_, rfl, ?_⟩; have n0_ := Aside0.mk (blk_below (g := gb381) (o := .cells #[.slice A0_0 l0_0.length c0_0, .string a0_1, .string a0_2, .string a0_3] 26 (0, 0)) au87 hb); have n1_ := Aside0.mk (blk_below (g := gb382) (o := .cells #[.slice A1_0 l1_0.length c1_0, .string a1_1, .string a1_2, .string a1_3] 26 (0, 0)) au88 hb); have n2_ := Aside0.mk (below_step au32 hb); clear BK381; clear BK382; clear HB; have BK381 := n0_; have BK382 := n1_; have HB := n2_; clear n0_ n1_ n2_; (try clear hb); (try clear hb2); (try clear hk); (try clear hi); have hcz13_0 : w12.cell? ⟨gb382, 0, none⟩ = some (.slice A1_0 l1_0.length c1_0) := (blk_cell BK382.out 0).trans rfl; have hcz13_1 : w12.cell? ⟨gb382, 1, none⟩ = some (.string a1_1) := (blk_cell BK382.out 1).trans rfl; have hcz13_2 : w12.cell? ⟨gb382, 2, none⟩ = some (.string a1_2) := (blk_cell BK382.out 2).trans rfl; have hcz13_3 : w12.cell? ⟨gb382, 3, none⟩ = some (.string a1_3) := (blk_cell BK382.out 3).trans rfl; have hfz13_0 := blk_frozen BK382.out 0; have hfz13_1 := blk_frozen BK382.out 1; have hfz13_2 := blk_frozen BK382.out 2; have hfz13_3 := blk_frozen BK382.out 3) | (go_at_call 19; (with_reducible refine (impl_IsValidName.calls (hG := au5) k _ _ l1_0 a1_1 a1_2 a1_3 true _ ?side1 ?side2 A5.out).mono ?_); (case side1 => repeat (first | exact (Kd.C_below HR1_0.out HB.out) | (with_reducible refine Kd.C_alloc ?_ _) | (with_reducible refine Kd.C_drewN ?_ _) | (with_reducible refine Kd.C_drew ?_))); (case side2 => exact HC1_0.out); rintro e w14 ⟨rfl, hb⟩; have n0_ := Aside0.mk (blk_below (g := gb381) (o := .cells #[.slice A0_0 l0_0.length c0_0, .string a0_1, .string a0_2, .string a0_3] 26 (0, 0)) au87 hb); have n1_ := Aside0.mk (blk_below (g := gb382) (o := .cells #[.slice A1_0 l1_0.length c1_0, .string a1_1, .string a1_2, .string a1_3] 26 (0, 0)) au88 hb); have n2_ := Aside0.mk (below_step au32 hb); clear BK381; clear BK382; clear HB; have BK381 := n0_; have BK382 := n1_; have HB := n2_; clear n0_ n1_ n2_; (try clear hb); (try clear hb2); (try clear hk); (try clear hi); have hcz15_0 : w14.cell? ⟨gb381, 0, none⟩ = some (.slice A0_0 l0_0.length c0_0) := (blk_cell BK381.out 0).trans rfl; have hcz15_1 : w14.cell? ⟨gb381, 1, none⟩ = some (.string a0_1) := (blk_cell BK381.out 1).trans rfl; have hcz15_2 : w14.cell? ⟨gb381, 2, none⟩ = some (.string a0_2) := (blk_cell BK381.out 2).trans rfl; have hcz15_3 : w14.cell? ⟨gb381, 3, none⟩ = some (.string a0_3) := (blk_cell BK381.out 3).trans rfl; have hfz15_0 := blk_frozen BK381.out 0; have hfz15_1 := blk_frozen BK381.out 1; have hfz15_2 := blk_frozen BK381.out 2; have hfz15_3 := blk_frozen BK381.out 3; have hcz16_0 : w14.cell? ⟨gb382, 0, none⟩ = some (.slice A1_0 l1_0.length c1_0) := (blk_cell BK382.out 0).trans rfl; have hcz16_1 : w14.cell? ⟨gb382, 1, none⟩ = some (.string a1_1) := (blk_cell BK382.out 1).trans rfl; have hcz16_2 : w14.cell? ⟨gb382, 2, none⟩ = some (.string a1_2) := (blk_cell BK382.out 2).trans rfl; have hcz16_3 : w14.cell? ⟨gb382, 3, none⟩ = some (.string a1_3) := (blk_cell BK382.out 3).trans rfl; have hfz16_0 := blk_frozen BK382.out 0; have hfz16_1 := blk_frozen BK382.out 1; have hfz16_2 := blk_frozen BK382.out 2; have hfz16_3 := blk_frozen BK382.out 3) | ((with_reducible refine gate_callee (f := 23) rfl ?_); refine goesL_ (some 16) rfl rfl Tryd.func23 (by kernel_rfl) rfl #[.agg #[.slice A0_0 l0_0.length c0_0, .string a0_1, .string a0_2, .string a0_3], .agg #[.slice A1_0 l1_0.length c1_0, .string a1_1, .string a1_2, .string a1_3]] rfl au57 ?_; (with_reducible refine (impl_mayBeSame.calls k _ _ l0_0 a0_1 a0_2 a0_3 _ _ l1_0 a1_1 a1_2 a1_3 t385 _ ?side1 ?side2 ?side3 ?side4 A7.out).mono ?_); (case side1 => repeat (first | exact (Kd.C_below HR0_0.out HB.out) | (with_reducible refine Kd.C_alloc ?_ _) | (with_reducible refine Kd.C_drewN ?_ _) | (with_reducible refine Kd.C_drew ?_))); (case side2 => exact HC0_0.out); (case side3 => repeat (first | exact (Kd.C_below HR1_0.out HB.out) | (with_reducible refine Kd.C_alloc ?_ _) | (with_reducible refine Kd.C_drewN ?_ _) | (with_reducible refine Kd.C_drew ?_))); (case side4 => exact HC1_0.out); rintro e w17 ⟨rfl, hb⟩; refine ⟨_, rfl, ?_⟩; have n0_ := Aside0.mk (blk_below (g := gb381) (o := .cells #[.slice A0_0 l0_0.length c0_0, .string a0_1, .string a0_2, .string a0_3] 26 (0, 0)) au87 hb); have n1_ := Aside0.mk (blk_below (g := gb382) (o := .cells #[.slice A1_0 l1_0.length c1_0, .string a1_1, .string a1_2, .string a1_3] 26 (0, 0)) au88 hb); have n2_ := Aside0.mk (below_step au32 hb); clear BK381; clear BK382; clear HB; have BK381 := n0_; have BK382 := n1_; have HB := n2_; clear n0_ n1_ n2_; (try clear hb); (try clear hb2); (try clear hk); (try clear hi)))
   go_ret2
   exact ax13
  ·
   replace c6 := Bool.eq_false_iff.mpr c6
   subst c6
   replace H := (if_neg (show ¬ (false = true) by decide)).symm.trans H
   simp only [Option.some.injEq, Prod.mk.injEq] at H
   obtain ⟨rfl, rfl⟩ := H
   go_enter Tryd.func9, Tryd.ntmps9
   go_wp2_with (first | ((with_reducible refine gate_dst (N := 2) rfl ?_); refine box_event ?hg (N := 2) ?hd (cs := #[.slice A0_0 l0_0.length c0_0, .string a0_1, .string a0_2, .string a0_3]) (t := 26) ?hr ?_; (case hd => rfl); (case hg => rfl); (case hr => first | (go_simp; done) | (go_simp; rfl)); intro gb381 hg w18 hbox hb; have n0_ := Aside0.mk (below_step au58 hb); have n1_ := Aside0.mk (hbox); have n2_ := Aside0.mk ((by rw [hg]; exact (below_size au58) : w.heap.size ≤ gb381)); have n3_ := Aside0.mk ((by rw [hg]; exact (below_size au58) : w.heap.size ≤ gb381)); clear HB; have HB := n0_; have BK381 := n1_; have GW381 := n2_; have GE381 := n3_; clear n0_ n1_ n2_ n3_; clear hb hbox hg) | ((with_reducible refine gate_dst (N := 3) rfl ?_); refine box_event ?hg (N := 3) ?hd (cs := #[.slice A1_0 l1_0.length c1_0, .string a1_1, .string a1_2, .string a1_3]) (t := 26) ?hr ?_; (case hd => rfl); (case hg => rfl); (case hr => first | (go_simp; done) | (go_simp; rfl)); intro gb382 hg w19 hbox hb; have n0_ := Aside0.mk (blk_below (g := gb381) (o := .cells #[.slice A0_0 l0_0.length c0_0, .string a0_1, .string a0_2, .string a0_3] 26 (0, 0)) au87 hb); have n1_ := Aside0.mk (below_step au54 hb); have n2_ := Aside0.mk (hbox); have n3_ := Aside0.mk ((by rw [hg]; exact (below_size au54) : w.heap.size ≤ gb382)); have n4_ := Aside0.mk ((by rw [hg]; exact (below_size au54) : w.heap.size ≤ gb382)); have n5_ := Aside0.mk ((by rw [hg]; exact Nat.ne_of_lt (blk_lt (g := gb381) (o := .cells #[.slice A0_0 l0_0.length c0_0, .string a0_1, .string a0_2, .string a0_3] 26 (0, 0)) au87) : gb381 ≠ gb382)); have n6_ := Aside0.mk ((by rw [hg]; exact Nat.ne_of_gt (blk_lt (g := gb381) (o := .cells #[.slice A0_0 l0_0.length c0_0, .string a0_1, .string a0_2, .string a0_3] 26 (0, 0)) au87) : gb382 ≠ gb381)); clear BK381; clear HB; have BK381 := n0_; have HB := n1_; have BK382 := n2_; have GW382 := n3_; have GE382 := n4_; have NB381_382 := n5_; have NB382_381 := n6_; clear n0_ n1_ n2_ n3_ n4_ n5_ n6_; clear hb hbox hg; have hnb20 := NB381_382.out; have hnc20 := NB382_381.out; have hcz21_0 : w19.cell? ⟨gb381, 0, none⟩ = some (.slice A0_0 l0_0.length c0_0) := (blk_cell BK381.out 0).trans rfl; have hcz21_1 : w19.cell? ⟨gb381, 1, none⟩ = some (.string a0_1) := (blk_cell BK381.out 1).trans rfl; have hcz21_2 : w19.cell? ⟨gb381, 2, none⟩ = some (.string a0_2) := (blk_cell BK381.out 2).trans rfl; have hcz21_3 : w19.cell? ⟨gb381, 3, none⟩ = some (.string a0_3) := (blk_cell BK381.out 3).trans rfl; have hfz21_0 := blk_frozen BK381.out 0; have hfz21_1 := blk_frozen BK381.out 1; have hfz21_2 := blk_frozen BK381.out 2; have hfz21_3 := blk_frozen BK381.out 3) | ((with_reducible refine gate_callee (f := 19) rfl ?_); refine goesL_ (some 7) rfl rfl Tryd.func19 (by kernel_rfl) rfl #[.agg #[.slice A0_0 l0_0.length c0_0, .string a0_1, .string a0_2, .string a0_3]] rfl au57 ?_; (with_reducible refine (impl_IsValidName.calls (hG := au5) k _ _ l0_0 a0_1 a0_2 a0_3 true _ ?side1 ?side2 A3.out).mono ?_); (case side1 => repeat (first | exact (Kd.C_below HR0_0.out HB.out) | (with_reducible refine Kd.C_alloc ?_ _) | (with_reducible refine Kd.C_drewN ?_ _) | (with_reducible refine Kd.C_drew ?_))); (case side2 => exact HC0_0.out); rintro e w22 ⟨rfl, hb⟩; refine ⟨_, rfl, ?_⟩; have n0_ := Aside0.mk (blk_below (g := gb381) (o := .cells #[.slice A0_0 l0_0.length c0_0, .string a0_1, .string a0_2, .string a0_3] 26 (0, 0)) au87 hb); have n1_ := Aside0.mk (blk_below (g := gb382) (o := .cells #[.slice A1_0 l1_0.length c1_0, .string a1_1, .string a1_2, .string a1_3] 26 (0, 0)) au88 hb); have n2_ := Aside0.mk (below_step au32 hb); clear BK381; clear BK382; clear HB; have BK381 := n0_; have BK382 := n1_; have HB := n2_; clear n0_ n1_ n2_; (try clear hb); (try clear hb2); (try clear hk); (try clear hi); have hcz23_0 : w22.cell? ⟨gb382, 0, none⟩ = some (.slice A1_0 l1_0.length c1_0) := (blk_cell BK382.out 0).trans rfl; have hcz23_1 : w22.cell? ⟨gb382, 1, none⟩ = some (.string a1_1) := (blk_cell BK382.out 1).trans rfl; have hcz23_2 : w22.cell? ⟨gb382, 2, none⟩ = some (.string a1_2) := (blk_cell BK382.out 2).trans rfl; have hcz23_3 : w22.cell? ⟨gb382, 3, none⟩ = some (.string a1_3) := (blk_cell BK382.out 3).trans rfl; have hfz23_0 := blk_frozen BK382.out 0; have hfz23_1 := blk_frozen BK382.out 1; have hfz23_2 := blk_frozen BK382.out 2; have hfz23_3 := blk_frozen BK382.out 3) | (go_at_call 19; (with_reducible refine (impl_IsValidName.calls (hG := au5) k _ _ l1_0 a1_1 a1_2 a1_3 false _ ?side1 ?side2 A5.out).mono ?_); (case side1 => repeat (first | exact (Kd.C_below HR1_0.out HB.out) | (with_reducible refine Kd.C_alloc ?_ _) | (with_reducible refine Kd.C_drewN ?_ _) | (with_reducible refine Kd.C_drew ?_))); (case side2 => exact HC1_0.out); rintro e w24 ⟨rfl, hb⟩; have n0_ := Aside0.mk (blk_below (g := gb381) (o := .cells #[.slice A0_0 l0_0.length c0_0, .string a0_1, .string a0_2, .string a0_3] 26 (0, 0)) au87 hb); have n1_ := Aside0.mk (blk_below (g := gb382) (o := .cells #[.slice A1_0 l1_0.length c1_0, .string a1_1, .string a1_2, .string a1_3] 26 (0, 0)) au88 hb); have n2_ := Aside0.mk (below_step au32 hb); clear BK381; clear BK382; clear HB; have BK381 := n0_; have BK382 := n1_; have HB := n2_; clear n0_ n1_ n2_; (try clear hb); (try clear hb2); (try clear hk); (try clear hi)))
   go_ret2
   exact ax13
 ·
  replace c4 := Bool.eq_false_iff.mpr c4
  subst c4
  replace H := (if_neg (show ¬ (false = true) by decide)).symm.trans H
  simp only [Option.some.injEq, Prod.mk.injEq] at H
  obtain ⟨rfl, rfl⟩ := H
  go_enter Tryd.func9, Tryd.ntmps9
  go_wp2_with (first | ((with_reducible refine gate_dst (N := 2) rfl ?_); refine box_event ?hg (N := 2) ?hd (cs := #[.slice A0_0 l0_0.length c0_0, .string a0_1, .string a0_2, .string a0_3]) (t := 26) ?hr ?_; (case hd => rfl); (case hg => rfl); (case hr => first | (go_simp; done) | (go_simp; rfl)); intro gb381 hg w25 hbox hb; have n0_ := Aside0.mk (below_step au58 hb); have n1_ := Aside0.mk (hbox); have n2_ := Aside0.mk ((by rw [hg]; exact (below_size au58) : w.heap.size ≤ gb381)); have n3_ := Aside0.mk ((by rw [hg]; exact (below_size au58) : w.heap.size ≤ gb381)); clear HB; have HB := n0_; have BK381 := n1_; have GW381 := n2_; have GE381 := n3_; clear n0_ n1_ n2_ n3_; clear hb hbox hg) | ((with_reducible refine gate_dst (N := 3) rfl ?_); refine box_event ?hg (N := 3) ?hd (cs := #[.slice A1_0 l1_0.length c1_0, .string a1_1, .string a1_2, .string a1_3]) (t := 26) ?hr ?_; (case hd => rfl); (case hg => rfl); (case hr => first | (go_simp; done) | (go_simp; rfl)); intro gb382 hg w26 hbox hb; have n0_ := Aside0.mk (blk_below (g := gb381) (o := .cells #[.slice A0_0 l0_0.length c0_0, .string a0_1, .string a0_2, .string a0_3] 26 (0, 0)) au87 hb); have n1_ := Aside0.mk (below_step au54 hb); have n2_ := Aside0.mk (hbox); have n3_ := Aside0.mk ((by rw [hg]; exact (below_size au54) : w.heap.size ≤ gb382)); have n4_ := Aside0.mk ((by rw [hg]; exact (below_size au54) : w.heap.size ≤ gb382)); have n5_ := Aside0.mk ((by rw [hg]; exact Nat.ne_of_lt (blk_lt (g := gb381) (o := .cells #[.slice A0_0 l0_0.length c0_0, .string a0_1, .string a0_2, .string a0_3] 26 (0, 0)) au87) : gb381 ≠ gb382)); have n6_ := Aside0.mk ((by rw [hg]; exact Nat.ne_of_gt (blk_lt (g := gb381) (o := .cells #[.slice A0_0 l0_0.length c0_0, .string a0_1, .string a0_2, .string a0_3] 26 (0, 0)) au87) : gb382 ≠ gb381)); clear BK381; clear HB; have BK381 := n0_; have HB := n1_; have BK382 := n2_; have GW382 := n3_; have GE382 := n4_; have NB381_382 := n5_; have NB382_381 := n6_; clear n0_ n1_ n2_ n3_ n4_ n5_ n6_; clear hb hbox hg; have hnb27 := NB381_382.out; have hnc27 := NB382_381.out; have hcz28_0 : w26.cell? ⟨gb381, 0, none⟩ = some (.slice A0_0 l0_0.length c0_0) := (blk_cell BK381.out 0).trans rfl; have hcz28_1 : w26.cell? ⟨gb381, 1, none⟩ = some (.string a0_1) := (blk_cell BK381.out 1).trans rfl; have hcz28_2 : w26.cell? ⟨gb381, 2, none⟩ = some (.string a0_2) := (blk_cell BK381.out 2).trans rfl; have hcz28_3 : w26.cell? ⟨gb381, 3, none⟩ = some (.string a0_3) := (blk_cell BK381.out 3).trans rfl; have hfz28_0 := blk_frozen BK381.out 0; have hfz28_1 := blk_frozen BK381.out 1; have hfz28_2 := blk_frozen BK381.out 2; have hfz28_3 := blk_frozen BK381.out 3) | ((with_reducible refine gate_callee (f := 19) rfl ?_); refine goesL_ (some 7) rfl rfl Tryd.func19 (by kernel_rfl) rfl #[.agg #[.slice A0_0 l0_0.length c0_0, .string a0_1, .string a0_2, .string a0_3]] rfl au57 ?_; (with_reducible refine (impl_IsValidName.calls (hG := au5) k _ _ l0_0 a0_1 a0_2 a0_3 false _ ?side1 ?side2 A3.out).mono ?_); (case side1 => repeat (first | exact (Kd.C_below HR0_0.out HB.out) | (with_reducible refine Kd.C_alloc ?_ _) | (with_reducible refine Kd.C_drewN ?_ _) | (with_reducible refine Kd.C_drew ?_))); (case side2 => exact HC0_0.out); rintro e w29 ⟨rfl, hb⟩; refine ⟨_, rfl, ?_⟩; have n0_ := Aside0.mk (blk_below (g := gb381) (o := .cells #[.slice A0_0 l0_0.length c0_0, .string a0_1, .string a0_2, .string a0_3] 26 (0, 0)) au87 hb); have n1_ := Aside0.mk (blk_below (g := gb382) (o := .cells #[.slice A1_0 l1_0.length c1_0, .string a1_1, .string a1_2, .string a1_3] 26 (0, 0)) au88 hb); have n2_ := Aside0.mk (below_step au32 hb); clear BK381; clear BK382; clear HB; have BK381 := n0_; have BK382 := n1_; have HB := n2_; clear n0_ n1_ n2_; (try clear hb); (try clear hb2); (try clear hk); (try clear hi)))
  go_ret2
  exact ax13


/-! ### laws_FnNameOrder: function 3 -/
def laws_FnNameOrder.j0 : Nat → Int → Bool → Bool → List ByteArray → ByteArray → ByteArray → ByteArray → List ByteArray → ByteArray → ByteArray → ByteArray → Option (Bool)
 | 0, _, _, _, _, _, _, _, _, _, _, _ => none
 | k + 1, x5, x6, x60, x415000, x415001, x415002, x415003, x416000, x416001, x416002, x416003 => if x60 = true then (some false) else ((impl_MayBeSame.f k x415000 x415001 x415002 x415003 x416000 x416001 x416002 x416003).bind fun bt422 => ((impl_MayBeSame.f k x416000 x416001 x416002 x416003 x415000 x415001 x415002 x415003).bind fun bt424 => ((spec_MayBeSame.f k x415000 x415001 x415002 x415003 x416000 x416001 x416002 x416003).bind fun bt426 => (if (bt422.1 != bt426.1) = true then (some false) else (if (bt422.2 != bt426.2) = true then (some false) else (if (bt424.2 != bt422.2) = true then (some false) else (if (bt424.1 != bt422.1) = true then (some false) else (if x6 = true then ((laws_vName.f k x415000 x415001 x415002 x415003 x416000 x416001 x416002 x416003).bind fun t428 => (if ((x5 == 0) == t428) = true then (if x5 = 0 then (some bt422.1) else (some true)) else (some false))) else (some true)))))))))
def laws_FnNameOrder.f (k : Nat) (l0 : List Int) : Option (Bool) := (laws_vBig.f l0).bind fun t401 => (if t401 = true then (some true) else ((spec_DrawCompareNames.f k l0).bind fun bt402 => ((impl_CompareNames.f k bt402.1 bt402.2.1 bt402.2.2.1 bt402.2.2.2.1 bt402.2.2.2.2.1 bt402.2.2.2.2.2.1 bt402.2.2.2.2.2.2.1 bt402.2.2.2.2.2.2.2).bind fun bt416 => ((impl_CompareNames.f k bt402.2.2.2.2.1 bt402.2.2.2.2.2.1 bt402.2.2.2.2.2.2.1 bt402.2.2.2.2.2.2.2 bt402.1 bt402.2.1 bt402.2.2.1 bt402.2.2.2.1).bind fun bt418 => ((spec_CompareNames.f k bt402.1 bt402.2.1 bt402.2.2.1 bt402.2.2.2.1 bt402.2.2.2.2.1 bt402.2.2.2.2.2.1 bt402.2.2.2.2.2.2.1 bt402.2.2.2.2.2.2.2).bind fun bt420 => (if bt416.1 = bt420.1 then (if (bt416.2 != bt420.2) = true then (laws_FnNameOrder.j0 k bt416.1 bt416.2 true bt402.1 bt402.2.1 bt402.2.2.1 bt402.2.2.2.1 bt402.2.2.2.2.1 bt402.2.2.2.2.2.1 bt402.2.2.2.2.2.2.1 bt402.2.2.2.2.2.2.2) else (if (bt418.2 != bt416.2) = true then (laws_FnNameOrder.j0 k bt416.1 bt416.2 true bt402.1 bt402.2.1 bt402.2.2.1 bt402.2.2.2.1 bt402.2.2.2.2.1 bt402.2.2.2.2.2.1 bt402.2.2.2.2.2.2.1 bt402.2.2.2.2.2.2.2) else (laws_FnNameOrder.j0 k bt416.1 bt416.2 (bt418.1 != (wrap64 (-bt416.1))) bt402.1 bt402.2.1 bt402.2.2.1 bt402.2.2.2.1 bt402.2.2.2.2.1 bt402.2.2.2.2.2.1 bt402.2.2.2.2.2.2.1 bt402.2.2.2.2.2.2.2))) else (laws_FnNameOrder.j0 k bt416.1 bt416.2 true bt402.1 bt402.2.1 bt402.2.2.1 bt402.2.2.2.1 bt402.2.2.2.2.1 bt402.2.2.2.2.2.1 bt402.2.2.2.2.2.2.1 bt402.2.2.2.2.2.2.2)))))))
theorem laws_FnNameOrder.mono_l : ∀ k, (∀ y0 y1 y2 y3 y4 y5 y6 y7 y8 y9 y10, LeO (laws_FnNameOrder.j0 k y0 y1 y2 y3 y4 y5 y6 y7 y8 y9 y10) (laws_FnNameOrder.j0 (k + 1) y0 y1 y2 y3 y4 y5 y6 y7 y8 y9 y10))
 | 0 => fun _ _ _ _ _ _ _ _ _ _ _ r h => by simp [laws_FnNameOrder.j0] at h
 | k + 1 => by
  have ih0 := laws_FnNameOrder.mono_l k
  ·
   intro y0 y1 y2 y3 y4 y5 y6 y7 y8 y9 y10
   unfold laws_FnNameOrder.j0
   repeat' first
   | (with_reducible exact ih0 _ _ _ _ _ _ _ _ _ _ _)
   | (with_reducible exact impl_CompareNames.mono _ _ _ _ _ _ _ _ _)
   | (with_reducible exact impl_MayBeSame.mono _ _ _ _ _ _ _ _ _)
   | (with_reducible exact laws_vName.mono _ _ _ _ _ _ _ _ _)
   | (with_reducible exact spec_CompareNames.mono _ _ _ _ _ _ _ _ _)
   | (with_reducible exact spec_DrawCompareNames.mono _ _)
   | (with_reducible exact spec_MayBeSame.mono _ _ _ _ _ _ _ _ _)
   | (with_reducible exact LeO.refl _)
   | (with_reducible exact LeO.none _)
   | (with_reducible refine LeO.ite ?_ ?_)
   | (with_reducible refine LeO.bind ?_ (fun _ => ?_))
   | exact ih0 _ _ _ _ _ _ _ _ _ _ _
   | exact impl_CompareNames.mono _ _ _ _ _ _ _ _ _
   | exact impl_MayBeSame.mono _ _ _ _ _ _ _ _ _
   | exact laws_vName.mono _ _ _ _ _ _ _ _ _
   | exact spec_CompareNames.mono _ _ _ _ _ _ _ _ _
   | exact spec_DrawCompareNames.mono _ _
   | exact spec_MayBeSame.mono _ _ _ _ _ _ _ _ _
   | exact LeO.none _
   | refine LeO.ite ?_ ?_
   | refine LeO.bind ?_ (fun _ => ?_)
theorem laws_FnNameOrder.mono : ∀ a0 k, LeO (laws_FnNameOrder.f k a0) (laws_FnNameOrder.f (k + 1) a0) := by
 intro a0 k
 have ih0 := laws_FnNameOrder.mono_l k
 unfold laws_FnNameOrder.f
 repeat' first
   | (with_reducible exact ih0 _ _ _ _ _ _ _ _ _ _ _)
   | (with_reducible exact impl_CompareNames.mono _ _ _ _ _ _ _ _ _)
   | (with_reducible exact impl_MayBeSame.mono _ _ _ _ _ _ _ _ _)
   | (with_reducible exact laws_vName.mono _ _ _ _ _ _ _ _ _)
   | (with_reducible exact spec_CompareNames.mono _ _ _ _ _ _ _ _ _)
   | (with_reducible exact spec_DrawCompareNames.mono _ _)
   | (with_reducible exact spec_MayBeSame.mono _ _ _ _ _ _ _ _ _)
   | (with_reducible exact LeO.refl _)
   | (with_reducible exact LeO.none _)
   | (with_reducible refine LeO.ite ?_ ?_)
   | (with_reducible refine LeO.bind ?_ (fun _ => ?_))
   | exact ih0 _ _ _ _ _ _ _ _ _ _ _
   | exact impl_CompareNames.mono _ _ _ _ _ _ _ _ _
   | exact impl_MayBeSame.mono _ _ _ _ _ _ _ _ _
   | exact laws_vName.mono _ _ _ _ _ _ _ _ _
   | exact spec_CompareNames.mono _ _ _ _ _ _ _ _ _
   | exact spec_DrawCompareNames.mono _ _
   | exact spec_MayBeSame.mono _ _ _ _ _ _ _ _ _
   | exact LeO.none _
   | refine LeO.ite ?_ ?_
   | refine LeO.bind ?_ (fun _ => ?_)
set_option maxRecDepth 100000 in
theorem laws_FnNameOrder.L0 {P : Prop} (h : P := by
  have hnb105 := NB414_415.out
  have hnc105 := NB415_414.out
  have hcz106_0 : wc.cell? ⟨gb414, 0, none⟩ = some (.slice Ao12 t402.length co12) := (blk_cell BK414.out 0).trans rfl
  have hcz106_1 : wc.cell? ⟨gb414, 1, none⟩ = some (.string t405) := (blk_cell BK414.out 1).trans rfl
  have hcz106_2 : wc.cell? ⟨gb414, 2, none⟩ = some (.string t406) := (blk_cell BK414.out 2).trans rfl
  have hcz106_3 : wc.cell? ⟨gb414, 3, none⟩ = some (.string t407) := (blk_cell BK414.out 3).trans rfl
  have hfz106_0 := blk_frozen BK414.out 0
  have hfz106_1 := blk_frozen BK414.out 1
  have hfz106_2 := blk_frozen BK414.out 2
  have hfz106_3 := blk_frozen BK414.out 3
  have hcz107_0 : wc.cell? ⟨gb415, 0, none⟩ = some (.slice Ao15 t408.length co15) := (blk_cell BK415.out 0).trans rfl
  have hcz107_1 : wc.cell? ⟨gb415, 1, none⟩ = some (.string t411) := (blk_cell BK415.out 1).trans rfl
  have hcz107_2 : wc.cell? ⟨gb415, 2, none⟩ = some (.string t412) := (blk_cell BK415.out 2).trans rfl
  have hcz107_3 : wc.cell? ⟨gb415, 3, none⟩ = some (.string t413) := (blk_cell BK415.out 3).trans rfl
  have hfz107_0 := blk_frozen BK415.out 0
  have hfz107_1 := blk_frozen BK415.out 1
  have hfz107_2 := blk_frozen BK415.out 2
  have hfz107_3 := blk_frozen BK415.out 3
  go_wp2_with (first | ((with_reducible refine gate_callee (f := 9) rfl ?_); refine goesL_ (some 64) rfl rfl Tryd.func9 (by kernel_rfl) rfl #[.agg #[.slice Ao12 t402.length co12, .string t405, .string t406, .string t407], .agg #[.slice Ao15 t408.length co15, .string t411, .string t412, .string t413]] rfl au57 ?_; (with_reducible refine (impl_MayBeSame.calls (hG := au5) kj7 _ _ t402 t405 t406 t407 _ _ t408 t411 t412 t413 t422 t423 _ ?side1 ?side2 ?side3 ?side4 A28.out).mono ?_); (case side1 => repeat (first | exact (Kd.R_reads' HO_415000.out).2.2 | (with_reducible refine Kd.C_alloc ?_ _) | (with_reducible refine Kd.C_drewN ?_ _) | (with_reducible refine Kd.C_drew ?_))); (case side2 => exact (Kd.R_reads' HO_415000.out).2.1); (case side3 => repeat (first | exact (Kd.R_reads' HO_416000.out).2.2 | (with_reducible refine Kd.C_alloc ?_ _) | (with_reducible refine Kd.C_drewN ?_ _) | (with_reducible refine Kd.C_drew ?_))); (case side4 => exact (Kd.R_reads' HO_416000.out).2.1); rintro e w108 ⟨rfl, hb⟩; refine ⟨_, rfl, ?_⟩; have n0_ := Aside0.mk (Kd.R_below au92 hb); have n1_ := Aside0.mk (Kd.R_below au93 hb); have n2_ := Aside0.mk (blk_below (g := gb414) (o := .cells #[.slice Ao12 t402.length co12, .string t405, .string t406, .string t407] 26 (0, 0)) au89 hb); have n3_ := Aside0.mk (blk_below (g := gb415) (o := .cells #[.slice Ao15 t408.length co15, .string t411, .string t412, .string t413] 26 (0, 0)) au90 hb); have n4_ := Aside0.mk (below_step au33 hb); clear HO_415000; clear HO_416000; clear BK414; clear BK415; clear HB; have HO_415000 := n0_; have HO_416000 := n1_; have BK414 := n2_; have BK415 := n3_; have HB := n4_; clear n0_ n1_ n2_ n3_ n4_; (try clear hb); (try clear hb2); (try clear hk); (try clear hi); have hcz109_0 : w108.cell? ⟨gb415, 0, none⟩ = some (.slice Ao15 t408.length co15) := (blk_cell BK415.out 0).trans rfl; have hcz109_1 : w108.cell? ⟨gb415, 1, none⟩ = some (.string t411) := (blk_cell BK415.out 1).trans rfl; have hcz109_2 : w108.cell? ⟨gb415, 2, none⟩ = some (.string t412) := (blk_cell BK415.out 2).trans rfl; have hcz109_3 : w108.cell? ⟨gb415, 3, none⟩ = some (.string t413) := (blk_cell BK415.out 3).trans rfl; have hfz109_0 := blk_frozen BK415.out 0; have hfz109_1 := blk_frozen BK415.out 1; have hfz109_2 := blk_frozen BK415.out 2; have hfz109_3 := blk_frozen BK415.out 3; have hcz110_0 : w108.cell? ⟨gb414, 0, none⟩ = some (.slice Ao12 t402.length co12) := (blk_cell BK414.out 0).trans rfl; have hcz110_1 : w108.cell? ⟨gb414, 1, none⟩ = some (.string t405) := (blk_cell BK414.out 1).trans rfl; have hcz110_2 : w108.cell? ⟨gb414, 2, none⟩ = some (.string t406) := (blk_cell BK414.out 2).trans rfl; have hcz110_3 : w108.cell? ⟨gb414, 3, none⟩ = some (.string t407) := (blk_cell BK414.out 3).trans rfl; have hfz110_0 := blk_frozen BK414.out 0; have hfz110_1 := blk_frozen BK414.out 1; have hfz110_2 := blk_frozen BK414.out 2; have hfz110_3 := blk_frozen BK414.out 3) | ((with_reducible refine gate_callee (f := 9) rfl ?_); refine goesL_ (some 70) rfl rfl Tryd.func9 (by kernel_rfl) rfl #[.agg #[.slice Ao15 t408.length co15, .string t411, .string t412, .string t413], .agg #[.slice Ao12 t402.length co12, .string t405, .string t406, .string t407]] rfl au57 ?_; (with_reducible refine (impl_MayBeSame.calls (hG := au5) kj7 _ _ t408 t411 t412 t413 _ _ t402 t405 t406 t407 t424 t425 _ ?side1 ?side2 ?side3 ?side4 A29.out).mono ?_); (case side1 => repeat (first | exact (Kd.R_reads' HO_416000.out).2.2 | (with_reducible refine Kd.C_alloc ?_ _) | (with_reducible refine Kd.C_drewN ?_ _) | (with_reducible refine Kd.C_drew ?_))); (case side2 => exact (Kd.R_reads' HO_416000.out).2.1); (case side3 => repeat (first | exact (Kd.R_reads' HO_415000.out).2.2 | (with_reducible refine Kd.C_alloc ?_ _) | (with_reducible refine Kd.C_drewN ?_ _) | (with_reducible refine Kd.C_drew ?_))); (case side4 => exact (Kd.R_reads' HO_415000.out).2.1); rintro e w111 ⟨rfl, hb⟩; refine ⟨_, rfl, ?_⟩; have n0_ := Aside0.mk (Kd.R_below au92 hb); have n1_ := Aside0.mk (Kd.R_below au93 hb); have n2_ := Aside0.mk (blk_below (g := gb414) (o := .cells #[.slice Ao12 t402.length co12, .string t405, .string t406, .string t407] 26 (0, 0)) au89 hb); have n3_ := Aside0.mk (blk_below (g := gb415) (o := .cells #[.slice Ao15 t408.length co15, .string t411, .string t412, .string t413] 26 (0, 0)) au90 hb); have n4_ := Aside0.mk (below_step au33 hb); clear HO_415000; clear HO_416000; clear BK414; clear BK415; clear HB; have HO_415000 := n0_; have HO_416000 := n1_; have BK414 := n2_; have BK415 := n3_; have HB := n4_; clear n0_ n1_ n2_ n3_ n4_; (try clear hb); (try clear hb2); (try clear hk); (try clear hi); have hcz112_0 : w111.cell? ⟨gb414, 0, none⟩ = some (.slice Ao12 t402.length co12) := (blk_cell BK414.out 0).trans rfl; have hcz112_1 : w111.cell? ⟨gb414, 1, none⟩ = some (.string t405) := (blk_cell BK414.out 1).trans rfl; have hcz112_2 : w111.cell? ⟨gb414, 2, none⟩ = some (.string t406) := (blk_cell BK414.out 2).trans rfl; have hcz112_3 : w111.cell? ⟨gb414, 3, none⟩ = some (.string t407) := (blk_cell BK414.out 3).trans rfl; have hfz112_0 := blk_frozen BK414.out 0; have hfz112_1 := blk_frozen BK414.out 1; have hfz112_2 := blk_frozen BK414.out 2; have hfz112_3 := blk_frozen BK414.out 3; have hcz113_0 : w111.cell? ⟨gb415, 0, none⟩ = some (.slice Ao15 t408.length co15) := (blk_cell BK415.out 0).trans rfl; have hcz113_1 : w111.cell? ⟨gb415, 1, none⟩ = some (.string t411) := (blk_cell BK415.out 1).trans rfl; have hcz113_2 : w111.cell? ⟨gb415, 2, none⟩ = some (.string t412) := (blk_cell BK415.out 2).trans rfl; have hcz113_3 : w111.cell? ⟨gb415, 3, none⟩ = some (.string t413) := (blk_cell BK415.out 3).trans rfl; have hfz113_0 := blk_frozen BK415.out 0; have hfz113_1 := blk_frozen BK415.out 1; have hfz113_2 := blk_frozen BK415.out 2; have hfz113_3 := blk_frozen BK415.out 3) | ((with_reducible refine gate_callee (f := 10) rfl ?_); refine goesL_ (some 76) rfl rfl Tryd.func10 (by kernel_rfl) rfl #[.agg #[.slice Ao12 t402.length co12, .string t405, .string t406, .string t407], .agg #[.slice Ao15 t408.length co15, .string t411, .string t412, .string t413]] rfl au57 ?_; (with_reducible refine (spec_MayBeSame.calls kj7 _ _ t402 t405 t406 t407 _ _ t408 t411 t412 t413 t426 t427 _ ?side1 ?side2 ?side3 ?side4 A30.out).mono ?_); (case side1 => repeat (first | exact (Kd.R_reads' HO_415000.out).2.2 | (with_reducible refine Kd.C_alloc ?_ _) | (with_reducible refine Kd.C_drewN ?_ _) | (with_reducible refine Kd.C_drew ?_))); (case side2 => exact (Kd.R_reads' HO_415000.out).2.1); (case side3 => repeat (first | exact (Kd.R_reads' HO_416000.out).2.2 | (with_reducible refine Kd.C_alloc ?_ _) | (with_reducible refine Kd.C_drewN ?_ _) | (with_reducible refine Kd.C_drew ?_))); (case side4 => exact (Kd.R_reads' HO_416000.out).2.1); rintro e w114 ⟨rfl, hb⟩; refine ⟨_, rfl, ?_⟩; have n0_ := Aside0.mk (Kd.R_below au92 hb); have n1_ := Aside0.mk (Kd.R_below au93 hb); have n2_ := Aside0.mk (blk_below (g := gb414) (o := .cells #[.slice Ao12 t402.length co12, .string t405, .string t406, .string t407] 26 (0, 0)) au89 hb); have n3_ := Aside0.mk (blk_below (g := gb415) (o := .cells #[.slice Ao15 t408.length co15, .string t411, .string t412, .string t413] 26 (0, 0)) au90 hb); have n4_ := Aside0.mk (below_step au33 hb); clear HO_415000; clear HO_416000; clear BK414; clear BK415; clear HB; have HO_415000 := n0_; have HO_416000 := n1_; have BK414 := n2_; have BK415 := n3_; have HB := n4_; clear n0_ n1_ n2_ n3_ n4_; (try clear hb); (try clear hb2); (try clear hk); (try clear hi); have hcz115_0 : w114.cell? ⟨gb414, 0, none⟩ = some (.slice Ao12 t402.length co12) := (blk_cell BK414.out 0).trans rfl; have hcz115_1 : w114.cell? ⟨gb414, 1, none⟩ = some (.string t405) := (blk_cell BK414.out 1).trans rfl; have hcz115_2 : w114.cell? ⟨gb414, 2, none⟩ = some (.string t406) := (blk_cell BK414.out 2).trans rfl; have hcz115_3 : w114.cell? ⟨gb414, 3, none⟩ = some (.string t407) := (blk_cell BK414.out 3).trans rfl; have hfz115_0 := blk_frozen BK414.out 0; have hfz115_1 := blk_frozen BK414.out 1; have hfz115_2 := blk_frozen BK414.out 2; have hfz115_3 := blk_frozen BK414.out 3; have hcz116_0 : w114.cell? ⟨gb415, 0, none⟩ = some (.slice Ao15 t408.length co15) := (blk_cell BK415.out 0).trans rfl; have hcz116_1 : w114.cell? ⟨gb415, 1, none⟩ = some (.string t411) := (blk_cell BK415.out 1).trans rfl; have hcz116_2 : w114.cell? ⟨gb415, 2, none⟩ = some (.string t412) := (blk_cell BK415.out 2).trans rfl; have hcz116_3 : w114.cell? ⟨gb415, 3, none⟩ = some (.string t413) := (blk_cell BK415.out 3).trans rfl; have hfz116_0 := blk_frozen BK415.out 0; have hfz116_1 := blk_frozen BK415.out 1; have hfz116_2 := blk_frozen BK415.out 2; have hfz116_3 := blk_frozen BK415.out 3) | (go_at_call 11; (with_reducible refine (laws_vName.calls kj7 _ _ t402 t405 t406 t407 _ _ t408 t411 t412 t413 t428 _ ?side1 ?side2 ?side3 ?side4 A76.out).mono ?_); (case side1 => repeat (first | exact (Kd.R_reads' HO_415000.out).2.2 | (with_reducible refine Kd.C_alloc ?_ _) | (with_reducible refine Kd.C_drewN ?_ _) | (with_reducible refine Kd.C_drew ?_))); (case side2 => exact (Kd.R_reads' HO_415000.out).2.1); (case side3 => repeat (first | exact (Kd.R_reads' HO_416000.out).2.2 | (with_reducible refine Kd.C_alloc ?_ _) | (with_reducible refine Kd.C_drewN ?_ _) | (with_reducible refine Kd.C_drew ?_))); (case side4 => exact (Kd.R_reads' HO_416000.out).2.1); rintro e w117 ⟨rfl, hb⟩; have n0_ := Aside0.mk (Kd.R_below au92 hb); have n1_ := Aside0.mk (Kd.R_below au93 hb); have n2_ := Aside0.mk (blk_below (g := gb414) (o := .cells #[.slice Ao12 t402.length co12, .string t405, .string t406, .string t407] 26 (0, 0)) au89 hb); have n3_ := Aside0.mk (blk_below (g := gb415) (o := .cells #[.slice Ao15 t408.length co15, .string t411, .string t412, .string t413] 26 (0, 0)) au90 hb); have n4_ := Aside0.mk (below_step au33 hb); clear HO_415000; clear HO_416000; clear BK414; clear BK415; clear HB; have HO_415000 := n0_; have HO_416000 := n1_; have BK414 := n2_; have BK415 := n3_; have HB := n4_; clear n0_ n1_ n2_ n3_ n4_; (try clear hb); (try clear hb2); (try clear hk); (try clear hi)))
  go_ret
  exact ⟨by first | rfl | (simp [errW_none, errW_some] <;> rfl) | (simp [*, errW_none, errW_some] <;> rfl), by repeat (first | (with_reducible first | exact HB.out | apply below_alloc | apply pw_below_drewN | apply below_drew1 | refine below_set ?_ GE414.out | refine below_set ?_ GE415.out) | exact HB.out)⟩) : P := h
set_option maxRecDepth 100000 in
theorem laws_FnNameOrder.L1 {P : Prop} (h : P := by
  have hnb118 := NB414_415.out
  have hnc118 := NB415_414.out
  have hcz119_0 : wc.cell? ⟨gb414, 0, none⟩ = some (.slice Ao12 t402.length co12) := (blk_cell BK414.out 0).trans rfl
  have hcz119_1 : wc.cell? ⟨gb414, 1, none⟩ = some (.string t405) := (blk_cell BK414.out 1).trans rfl
  have hcz119_2 : wc.cell? ⟨gb414, 2, none⟩ = some (.string t406) := (blk_cell BK414.out 2).trans rfl
  have hcz119_3 : wc.cell? ⟨gb414, 3, none⟩ = some (.string t407) := (blk_cell BK414.out 3).trans rfl
  have hfz119_0 := blk_frozen BK414.out 0
  have hfz119_1 := blk_frozen BK414.out 1
  have hfz119_2 := blk_frozen BK414.out 2
  have hfz119_3 := blk_frozen BK414.out 3
  have hcz120_0 : wc.cell? ⟨gb415, 0, none⟩ = some (.slice Ao15 t408.length co15) := (blk_cell BK415.out 0).trans rfl
  have hcz120_1 : wc.cell? ⟨gb415, 1, none⟩ = some (.string t411) := (blk_cell BK415.out 1).trans rfl
  have hcz120_2 : wc.cell? ⟨gb415, 2, none⟩ = some (.string t412) := (blk_cell BK415.out 2).trans rfl
  have hcz120_3 : wc.cell? ⟨gb415, 3, none⟩ = some (.string t413) := (blk_cell BK415.out 3).trans rfl
  have hfz120_0 := blk_frozen BK415.out 0
  have hfz120_1 := blk_frozen BK415.out 1
  have hfz120_2 := blk_frozen BK415.out 2
  have hfz120_3 := blk_frozen BK415.out 3
  go_wp2_with (first | ((with_reducible refine gate_callee (f := 9) rfl ?_); refine goesL_ (some 64) rfl rfl Tryd.func9 (by kernel_rfl) rfl #[.agg #[.slice Ao12 t402.length co12, .string t405, .string t406, .string t407], .agg #[.slice Ao15 t408.length co15, .string t411, .string t412, .string t413]] rfl au57 ?_; (with_reducible refine (impl_MayBeSame.calls (hG := au5) kj7 _ _ t402 t405 t406 t407 _ _ t408 t411 t412 t413 t422 t423 _ ?side1 ?side2 ?side3 ?side4 A28.out).mono ?_); (case side1 => repeat (first | exact (Kd.R_reads' HO_415000.out).2.2 | (with_reducible refine Kd.C_alloc ?_ _) | (with_reducible refine Kd.C_drewN ?_ _) | (with_reducible refine Kd.C_drew ?_))); (case side2 => exact (Kd.R_reads' HO_415000.out).2.1); (case side3 => repeat (first | exact (Kd.R_reads' HO_416000.out).2.2 | (with_reducible refine Kd.C_alloc ?_ _) | (with_reducible refine Kd.C_drewN ?_ _) | (with_reducible refine Kd.C_drew ?_))); (case side4 => exact (Kd.R_reads' HO_416000.out).2.1); rintro e w121 ⟨rfl, hb⟩; refine ⟨_, rfl, ?_⟩; have n0_ := Aside0.mk (Kd.R_below au92 hb); have n1_ := Aside0.mk (Kd.R_below au93 hb); have n2_ := Aside0.mk (blk_below (g := gb414) (o := .cells #[.slice Ao12 t402.length co12, .string t405, .string t406, .string t407] 26 (0, 0)) au89 hb); have n3_ := Aside0.mk (blk_below (g := gb415) (o := .cells #[.slice Ao15 t408.length co15, .string t411, .string t412, .string t413] 26 (0, 0)) au90 hb); have n4_ := Aside0.mk (below_step au33 hb); clear HO_415000; clear HO_416000; clear BK414; clear BK415; clear HB; have HO_415000 := n0_; have HO_416000 := n1_; have BK414 := n2_; have BK415 := n3_; have HB := n4_; clear n0_ n1_ n2_ n3_ n4_; (try clear hb); (try clear hb2); (try clear hk); (try clear hi); have hcz122_0 : w121.cell? ⟨gb415, 0, none⟩ = some (.slice Ao15 t408.length co15) := (blk_cell BK415.out 0).trans rfl; have hcz122_1 : w121.cell? ⟨gb415, 1, none⟩ = some (.string t411) := (blk_cell BK415.out 1).trans rfl; have hcz122_2 : w121.cell? ⟨gb415, 2, none⟩ = some (.string t412) := (blk_cell BK415.out 2).trans rfl; have hcz122_3 : w121.cell? ⟨gb415, 3, none⟩ = some (.string t413) := (blk_cell BK415.out 3).trans rfl; have hfz122_0 := blk_frozen BK415.out 0; have hfz122_1 := blk_frozen BK415.out 1; have hfz122_2 := blk_frozen BK415.out 2; have hfz122_3 := blk_frozen BK415.out 3; have hcz123_0 : w121.cell? ⟨gb414, 0, none⟩ = some (.slice Ao12 t402.length co12) := (blk_cell BK414.out 0).trans rfl; have hcz123_1 : w121.cell? ⟨gb414, 1, none⟩ = some (.string t405) := (blk_cell BK414.out 1).trans rfl; have hcz123_2 : w121.cell? ⟨gb414, 2, none⟩ = some (.string t406) := (blk_cell BK414.out 2).trans rfl; have hcz123_3 : w121.cell? ⟨gb414, 3, none⟩ = some (.string t407) := (blk_cell BK414.out 3).trans rfl; have hfz123_0 := blk_frozen BK414.out 0; have hfz123_1 := blk_frozen BK414.out 1; have hfz123_2 := blk_frozen BK414.out 2; have hfz123_3 := blk_frozen BK414.out 3) | ((with_reducible refine gate_callee (f := 9) rfl ?_); refine goesL_ (some 70) rfl rfl Tryd.func9 (by kernel_rfl) rfl #[.agg #[.slice Ao15 t408.length co15, .string t411, .string t412, .string t413], .agg #[.slice Ao12 t402.length co12, .string t405, .string t406, .string t407]] rfl au57 ?_; (with_reducible refine (impl_MayBeSame.calls (hG := au5) kj7 _ _ t408 t411 t412 t413 _ _ t402 t405 t406 t407 t424 t425 _ ?side1 ?side2 ?side3 ?side4 A29.out).mono ?_); (case side1 => repeat (first | exact (Kd.R_reads' HO_416000.out).2.2 | (with_reducible refine Kd.C_alloc ?_ _) | (with_reducible refine Kd.C_drewN ?_ _) | (with_reducible refine Kd.C_drew ?_))); (case side2 => exact (Kd.R_reads' HO_416000.out).2.1); (case side3 => repeat (first | exact (Kd.R_reads' HO_415000.out).2.2 | (with_reducible refine Kd.C_alloc ?_ _) | (with_reducible refine Kd.C_drewN ?_ _) | (with_reducible refine Kd.C_drew ?_))); (case side4 => exact (Kd.R_reads' HO_415000.out).2.1); rintro e w124 ⟨rfl, hb⟩; refine ⟨_, rfl, ?_⟩; have n0_ := Aside0.mk (Kd.R_below au92 hb); have n1_ := Aside0.mk (Kd.R_below au93 hb); have n2_ := Aside0.mk (blk_below (g := gb414) (o := .cells #[.slice Ao12 t402.length co12, .string t405, .string t406, .string t407] 26 (0, 0)) au89 hb); have n3_ := Aside0.mk (blk_below (g := gb415) (o := .cells #[.slice Ao15 t408.length co15, .string t411, .string t412, .string t413] 26 (0, 0)) au90 hb); have n4_ := Aside0.mk (below_step au33 hb); clear HO_415000; clear HO_416000; clear BK414; clear BK415; clear HB; have HO_415000 := n0_; have HO_416000 := n1_; have BK414 := n2_; have BK415 := n3_; have HB := n4_; clear n0_ n1_ n2_ n3_ n4_; (try clear hb); (try clear hb2); (try clear hk); (try clear hi); have hcz125_0 : w124.cell? ⟨gb414, 0, none⟩ = some (.slice Ao12 t402.length co12) := (blk_cell BK414.out 0).trans rfl; have hcz125_1 : w124.cell? ⟨gb414, 1, none⟩ = some (.string t405) := (blk_cell BK414.out 1).trans rfl; have hcz125_2 : w124.cell? ⟨gb414, 2, none⟩ = some (.string t406) := (blk_cell BK414.out 2).trans rfl; have hcz125_3 : w124.cell? ⟨gb414, 3, none⟩ = some (.string t407) := (blk_cell BK414.out 3).trans rfl; have hfz125_0 := blk_frozen BK414.out 0; have hfz125_1 := blk_frozen BK414.out 1; have hfz125_2 := blk_frozen BK414.out 2; have hfz125_3 := blk_frozen BK414.out 3; have hcz126_0 : w124.cell? ⟨gb415, 0, none⟩ = some (.slice Ao15 t408.length co15) := (blk_cell BK415.out 0).trans rfl; have hcz126_1 : w124.cell? ⟨gb415, 1, none⟩ = some (.string t411) := (blk_cell BK415.out 1).trans rfl; have hcz126_2 : w124.cell? ⟨gb415, 2, none⟩ = some (.string t412) := (blk_cell BK415.out 2).trans rfl; have hcz126_3 : w124.cell? ⟨gb415, 3, none⟩ = some (.string t413) := (blk_cell BK415.out 3).trans rfl; have hfz126_0 := blk_frozen BK415.out 0; have hfz126_1 := blk_frozen BK415.out 1; have hfz126_2 := blk_frozen BK415.out 2; have hfz126_3 := blk_frozen BK415.out 3) | ((with_reducible refine gate_callee (f := 10) rfl ?_); refine goesL_ (some 76) rfl rfl Tryd.func10 (by kernel_rfl) rfl #[.agg #[.slice Ao12 t402.length co12, .string t405, .string t406, .string t407], .agg #[.slice Ao15 t408.length co15, .string t411, .string t412, .string t413]] rfl au57 ?_; (with_reducible refine (spec_MayBeSame.calls kj7 _ _ t402 t405 t406 t407 _ _ t408 t411 t412 t413 t426 t427 _ ?side1 ?side2 ?side3 ?side4 A30.out).mono ?_); (case side1 => repeat (first | exact (Kd.R_reads' HO_415000.out).2.2 | (with_reducible refine Kd.C_alloc ?_ _) | (with_reducible refine Kd.C_drewN ?_ _) | (with_reducible refine Kd.C_drew ?_))); (case side2 => exact (Kd.R_reads' HO_415000.out).2.1); (case side3 => repeat (first | exact (Kd.R_reads' HO_416000.out).2.2 | (with_reducible refine Kd.C_alloc ?_ _) | (with_reducible refine Kd.C_drewN ?_ _) | (with_reducible refine Kd.C_drew ?_))); (case side4 => exact (Kd.R_reads' HO_416000.out).2.1); rintro e w127 ⟨rfl, hb⟩; refine ⟨_, rfl, ?_⟩; have n0_ := Aside0.mk (Kd.R_below au92 hb); have n1_ := Aside0.mk (Kd.R_below au93 hb); have n2_ := Aside0.mk (blk_below (g := gb414) (o := .cells #[.slice Ao12 t402.length co12, .string t405, .string t406, .string t407] 26 (0, 0)) au89 hb); have n3_ := Aside0.mk (blk_below (g := gb415) (o := .cells #[.slice Ao15 t408.length co15, .string t411, .string t412, .string t413] 26 (0, 0)) au90 hb); have n4_ := Aside0.mk (below_step au33 hb); clear HO_415000; clear HO_416000; clear BK414; clear BK415; clear HB; have HO_415000 := n0_; have HO_416000 := n1_; have BK414 := n2_; have BK415 := n3_; have HB := n4_; clear n0_ n1_ n2_ n3_ n4_; (try clear hb); (try clear hb2); (try clear hk); (try clear hi)))
  go_ret
  exact ⟨by first | rfl | (simp [errW_none, errW_some] <;> rfl) | (simp [*, errW_none, errW_some] <;> rfl), by repeat (first | (with_reducible first | exact HB.out | apply below_alloc | apply pw_below_drewN | apply below_drew1 | refine below_set ?_ GE414.out | refine below_set ?_ GE415.out) | exact HB.out)⟩) : P := h
set_option maxRecDepth 100000 in
theorem laws_FnNameOrder.L2 {P : Prop} (h : P := by
  go_wp2
  go_meet
  case rel => first | (exact ⟨_, ((t418 != (wrap64 (-t416)))), au105, H', ⟨by first | omega | exact Nat.le_refl _⟩, ⟨by (with_reducible repeat (first | apply Kd.R_alloc | apply Kd.R_drewN | apply Kd.R_drew)); exact HO404.out⟩, ⟨by (with_reducible repeat (first | apply Kd.R_alloc | apply Kd.R_drewN | apply Kd.R_drew)); exact HO410.out⟩, ⟨by (with_reducible repeat (first | refine blk_drewN ?_ _ | refine blk_drew ?_ | refine blk_alloc ?_ _)); exact BK414.out⟩, ⟨by (with_reducible repeat (first | refine blk_drewN ?_ _ | refine blk_drew ?_ | refine blk_alloc ?_ _)); exact BK415.out⟩, ⟨by repeat (first | (with_reducible first | exact HB.out | apply below_alloc | apply pw_below_drewN | apply below_drew1 | refine below_set ?_ GE414.out | refine below_set ?_ GE415.out) | exact HB.out)⟩⟩) | (exact ⟨_, (true), au105, H', ⟨by first | omega | exact Nat.le_refl _⟩, ⟨by (with_reducible repeat (first | apply Kd.R_alloc | apply Kd.R_drewN | apply Kd.R_drew)); exact HO404.out⟩, ⟨by (with_reducible repeat (first | apply Kd.R_alloc | apply Kd.R_drewN | apply Kd.R_drew)); exact HO410.out⟩, ⟨by (with_reducible repeat (first | refine blk_drewN ?_ _ | refine blk_drew ?_ | refine blk_alloc ?_ _)); exact BK414.out⟩, ⟨by (with_reducible repeat (first | refine blk_drewN ?_ _ | refine blk_drew ?_ | refine blk_alloc ?_ _)); exact BK415.out⟩, ⟨by repeat (first | (with_reducible first | exact HB.out | apply below_alloc | apply pw_below_drewN | apply below_drew1 | refine below_set ?_ GE414.out | refine below_set ?_ GE415.out) | exact HB.out)⟩⟩)) : P := h
set_option maxHeartbeats 8000000 in
set_option maxRecDepth 100000 in
theorem laws_FnNameOrder.calls (k : Nat) (A0 : Option Addr) (c0 : Nat) (l0 : List Int) (r : Bool) (w : World) {gF1 gF2 gF3 : Bool} (hG : GL gF1 gF2 gF3 w) (hr0 : Kd.C (Kd.int .u8) w A0 l0.length l0) (hc0 : l0.length ≤ c0) (h : laws_FnNameOrder.f k l0 = some r) :
  Calls Tryd.prog 3 #[.slice A0 l0.length c0] w fun e w' => e = .returned (.bool r) ∧ Below w.heap.size w w' := by
 have HG := Aside0.mk hG
 clear hG
 have hu26 := Tryd.underlying26
 have HR0 := Aside0.mk hr0
 have HC0 := Aside0.mk hc0
 clear hr0 hc0
 have HB := Aside0.mk (Below.refl w.heap.size w)
 have H : ((laws_vBig.f l0).bind fun t401 => (if t401 = true then (some true) else ((spec_DrawCompareNames.f k l0).bind fun bt402 => ((impl_CompareNames.f k bt402.1 bt402.2.1 bt402.2.2.1 bt402.2.2.2.1 bt402.2.2.2.2.1 bt402.2.2.2.2.2.1 bt402.2.2.2.2.2.2.1 bt402.2.2.2.2.2.2.2).bind fun bt416 => ((impl_CompareNames.f k bt402.2.2.2.2.1 bt402.2.2.2.2.2.1 bt402.2.2.2.2.2.2.1 bt402.2.2.2.2.2.2.2 bt402.1 bt402.2.1 bt402.2.2.1 bt402.2.2.2.1).bind fun bt418 => ((spec_CompareNames.f k bt402.1 bt402.2.1 bt402.2.2.1 bt402.2.2.2.1 bt402.2.2.2.2.1 bt402.2.2.2.2.2.1 bt402.2.2.2.2.2.2.1 bt402.2.2.2.2.2.2.2).bind fun bt420 => (if bt416.1 = bt420.1 then (if (bt416.2 != bt420.2) = true then (laws_FnNameOrder.j0 k bt416.1 bt416.2 true bt402.1 bt402.2.1 bt402.2.2.1 bt402.2.2.2.1 bt402.2.2.2.2.1 bt402.2.2.2.2.2.1 bt402.2.2.2.2.2.2.1 bt402.2.2.2.2.2.2.2) else (if (bt418.2 != bt416.2) = true then (laws_FnNameOrder.j0 k bt416.1 bt416.2 true bt402.1 bt402.2.1 bt402.2.2.1 bt402.2.2.2.1 bt402.2.2.2.2.1 bt402.2.2.2.2.2.1 bt402.2.2.2.2.2.2.1 bt402.2.2.2.2.2.2.2) else (laws_FnNameOrder.j0 k bt416.1 bt416.2 (bt418.1 != (wrap64 (-bt416.1))) bt402.1 bt402.2.1 bt402.2.2.1 bt402.2.2.2.1 bt402.2.2.2.2.1 bt402.2.2.2.2.2.1 bt402.2.2.2.2.2.2.1 bt402.2.2.2.2.2.2.2))) else (laws_FnNameOrder.j0 k bt416.1 bt416.2 true bt402.1 bt402.2.1 bt402.2.2.1 bt402.2.2.2.1 bt402.2.2.2.2.1 bt402.2.2.2.2.2.1 bt402.2.2.2.2.2.2.1 bt402.2.2.2.2.2.2.2)))))))) = some r := h
 clear h
 replace H := Option.bind_eq_some_iff.mp H
 obtain ⟨t401, A20, H⟩ := H
 try dsimp only at H
 have A2 := Aside0.mk A20
 clear A20
 by_cases c3 : t401 = true
 ·
  subst c3
  replace H := (if_pos rfl).symm.trans H
  obtain rfl := Option.some.inj H
  go_enter Tryd.func3, Tryd.ntmps3
  go_wp2_with (first | ((with_reducible refine gate_callee (f := 5) rfl ?_); refine goesL_ (some 18) rfl rfl Tryd.func5 (by kernel_rfl) rfl #[.slice A0 l0.length c0] rfl au57 ?_; (with_reducible refine (laws_vBig.calls _ _ l0 _ _ ?side1 ?side2 A2.out).mono ?_); (case side1 => repeat (first | exact HR0.out | (with_reducible refine Kd.C_alloc ?_ _) | (with_reducible refine Kd.C_drewN ?_ _) | (with_reducible refine Kd.C_drew ?_))); (case side2 => exact HC0.out); rintro e w' ⟨rfl, ⟨nd, rfl⟩⟩; refine ⟨_, rfl, ?_⟩))
  go_ret
  exact ax2
 ·
  replace c3 := Bool.eq_false_iff.mpr c3
  subst c3
  replace H := (if_neg (show ¬ (false = true) by decide)).symm.trans H
  replace H := Option.bind_eq_some_iff.mp H
  obtain ⟨⟨t402, t405, t406, t407, t408, t411, t412, t413⟩, A40, H⟩ := H
  replace H : ((impl_CompareNames.f k t402 t405 t406 t407 t408 t411 t412 t413).bind fun bt416 => ((impl_CompareNames.f k t408 t411 t412 t413 t402 t405 t406 t407).bind fun bt418 => ((spec_CompareNames.f k t402 t405 t406 t407 t408 t411 t412 t413).bind fun bt420 => (if bt416.1 = bt420.1 then (if (bt416.2 != bt420.2) = true then (laws_FnNameOrder.j0 k bt416.1 bt416.2 true t402 t405 t406 t407 t408 t411 t412 t413) else (if (bt418.2 != bt416.2) = true then (laws_FnNameOrder.j0 k bt416.1 bt416.2 true t402 t405 t406 t407 t408 t411 t412 t413) else (laws_FnNameOrder.j0 k bt416.1 bt416.2 (bt418.1 != (wrap64 (-bt416.1))) t402 t405 t406 t407 t408 t411 t412 t413))) else (laws_FnNameOrder.j0 k bt416.1 bt416.2 true t402 t405 t406 t407 t408 t411 t412 t413))))) = some r := H
  have A4 := Aside0.mk A40
  clear A40
  replace H := Option.bind_eq_some_iff.mp H
  obtain ⟨⟨t416, t417⟩, A50, H⟩ := H
  replace H : ((impl_CompareNames.f k t408 t411 t412 t413 t402 t405 t406 t407).bind fun bt418 => ((spec_CompareNames.f k t402 t405 t406 t407 t408 t411 t412 t413).bind fun bt420 => (if t416 = bt420.1 then (if (t417 != bt420.2) = true then (laws_FnNameOrder.j0 k t416 t417 true t402 t405 t406 t407 t408 t411 t412 t413) else (if (bt418.2 != t417) = true then (laws_FnNameOrder.j0 k t416 t417 true t402 t405 t406 t407 t408 t411 t412 t413) else (laws_FnNameOrder.j0 k t416 t417 (bt418.1 != (wrap64 (-t416))) t402 t405 t406 t407 t408 t411 t412 t413))) else (laws_FnNameOrder.j0 k t416 t417 true t402 t405 t406 t407 t408 t411 t412 t413)))) = some r := H
  have A5 := Aside0.mk A50
  clear A50
  replace H := Option.bind_eq_some_iff.mp H
  obtain ⟨⟨t418, t419⟩, A60, H⟩ := H
  replace H : ((spec_CompareNames.f k t402 t405 t406 t407 t408 t411 t412 t413).bind fun bt420 => (if t416 = bt420.1 then (if (t417 != bt420.2) = true then (laws_FnNameOrder.j0 k t416 t417 true t402 t405 t406 t407 t408 t411 t412 t413) else (if (t419 != t417) = true then (laws_FnNameOrder.j0 k t416 t417 true t402 t405 t406 t407 t408 t411 t412 t413) else (laws_FnNameOrder.j0 k t416 t417 (t418 != (wrap64 (-t416))) t402 t405 t406 t407 t408 t411 t412 t413))) else (laws_FnNameOrder.j0 k t416 t417 true t402 t405 t406 t407 t408 t411 t412 t413))) = some r := H
  have A6 := Aside0.mk A60
  clear A60
  replace H := Option.bind_eq_some_iff.mp H
  obtain ⟨⟨t420, t421⟩, A70, H⟩ := H
  replace H : (if t416 = t420 then (if (t417 != t421) = true then (laws_FnNameOrder.j0 k t416 t417 true t402 t405 t406 t407 t408 t411 t412 t413) else (if (t419 != t417) = true then (laws_FnNameOrder.j0 k t416 t417 true t402 t405 t406 t407 t408 t411 t412 t413) else (laws_FnNameOrder.j0 k t416 t417 (t418 != (wrap64 (-t416))) t402 t405 t406 t407 t408 t411 t412 t413))) else (laws_FnNameOrder.j0 k t416 t417 true t402 t405 t406 t407 t408 t411 t412 t413)) = some r := H
  have A7 := Aside0.mk A70
  clear A70
  have HC8 := Aside0.mk H
  clear H
  go_enter Tryd.func3, Tryd.ntmps3
  go_upto_region 7 with (first | ((with_reducible refine gate_callee (f := 5) rfl ?_); refine goesL_ (some 18) rfl rfl Tryd.func5 (by kernel_rfl) rfl #[.slice A0 l0.length c0] rfl au57 ?_; (with_reducible refine (laws_vBig.calls _ _ l0 _ _ ?side1 ?side2 A2.out).mono ?_); (case side1 => repeat (first | exact HR0.out | (with_reducible refine Kd.C_alloc ?_ _) | (with_reducible refine Kd.C_drewN ?_ _) | (with_reducible refine Kd.C_drew ?_))); (case side2 => exact HC0.out); rintro e w' ⟨rfl, ⟨nd, rfl⟩⟩; refine ⟨_, rfl, ?_⟩) | ((with_reducible refine gate_callee (f := 6) rfl ?_); refine goesL_ (some 21) rfl rfl Tryd.func6 (by kernel_rfl) rfl #[.slice A0 l0.length c0] rfl au57 ?_; (with_reducible refine (spec_DrawCompareNames.calls k _ _ l0 t402 t405 t406 t407 t408 t411 t412 t413 _ ?side1 ?side2 A4.out).mono ?_); (case side1 => repeat (first | exact HR0.out | (with_reducible refine Kd.C_alloc ?_ _) | (with_reducible refine Kd.C_drewN ?_ _) | (with_reducible refine Kd.C_drew ?_))); (case side2 => exact HC0.out); rintro e w9 ⟨v403, v409, rfl, ho0, ho1, hb⟩; refine ⟨_, rfl, ?_⟩; have n0_ := Aside0.mk (Kd.R_lower ho0 (below_size au58)); have n1_ := Aside0.mk (Kd.R_lower ho1 (below_size au58)); have n2_ := Aside0.mk (below_step au58 hb); clear HB; have HO404 := n0_; have HO410 := n1_; have HB := n2_; clear n0_ n1_ n2_; (try clear hb); (try clear hb2); (try clear hk); (try clear hi); (try clear ho0); (try clear ho1)) | ((with_reducible refine gate_dst (N := 3) rfl ?_); refine box_event ?hg (N := 3) ?hd (cs := #[.slice none 0 0, .string (⟨#[]⟩ : ByteArray), .string (⟨#[]⟩ : ByteArray), .string (⟨#[]⟩ : ByteArray)]) (t := 26) ?hr ?_; (case hd => rfl); (case hg => rfl); (case hr => first | (go_simp; done) | (go_simp; rfl)); intro gb414 hg w10 hbox hb; have n0_ := Aside0.mk (Kd.R_below au100 hb); have n1_ := Aside0.mk (Kd.R_below au101 hb); have n2_ := Aside0.mk (below_step au58 hb); have n3_ := Aside0.mk (hbox); have n4_ := Aside0.mk ((by rw [hg]; exact (below_size au58) : w.heap.size ≤ gb414)); have n5_ := Aside0.mk ((by rw [hg]; exact (below_size au58) : w.heap.size ≤ gb414)); clear HO404; clear HO410; clear HB; have HO404 := n0_; have HO410 := n1_; have HB := n2_; have BK414 := n3_; have GW414 := n4_; have GE414 := n5_; clear n0_ n1_ n2_ n3_ n4_ n5_; clear hb hbox hg) | ((with_reducible refine gate_dst (N := 4) rfl ?_); refine box_event ?hg (N := 4) ?hd (cs := #[.slice none 0 0, .string (⟨#[]⟩ : ByteArray), .string (⟨#[]⟩ : ByteArray), .string (⟨#[]⟩ : ByteArray)]) (t := 26) ?hr ?_; (case hd => rfl); (case hg => rfl); (case hr => first | (go_simp; done) | (go_simp; rfl)); intro gb415 hg w11 hbox hb; have n0_ := Aside0.mk (Kd.R_below au100 hb); have n1_ := Aside0.mk (Kd.R_below au101 hb); have n2_ := Aside0.mk (blk_below (g := gb414) (o := .cells #[.slice none 0 0, .string (⟨#[]⟩ : ByteArray), .string (⟨#[]⟩ : ByteArray), .string (⟨#[]⟩ : ByteArray)] 26 (0, 0)) au89 hb); have n3_ := Aside0.mk (below_step au55 hb); have n4_ := Aside0.mk (hbox); have n5_ := Aside0.mk ((by rw [hg]; exact (below_size au55) : w.heap.size ≤ gb415)); have n6_ := Aside0.mk ((by rw [hg]; exact (below_size au55) : w.heap.size ≤ gb415)); have n7_ := Aside0.mk ((by rw [hg]; exact Nat.ne_of_lt (blk_lt (g := gb414) (o := .cells #[.slice none 0 0, .string (⟨#[]⟩ : ByteArray), .string (⟨#[]⟩ : ByteArray), .string (⟨#[]⟩ : ByteArray)] 26 (0, 0)) au89) : gb414 ≠ gb415)); have n8_ := Aside0.mk ((by rw [hg]; exact Nat.ne_of_gt (blk_lt (g := gb414) (o := .cells #[.slice none 0 0, .string (⟨#[]⟩ : ByteArray), .string (⟨#[]⟩ : ByteArray), .string (⟨#[]⟩ : ByteArray)] 26 (0, 0)) au89) : gb415 ≠ gb414)); clear HO404; clear HO410; clear BK414; clear HB; have HO404 := n0_; have HO410 := n1_; have BK414 := n2_; have HB := n3_; have BK415 := n4_; have GW415 := n5_; have GE415 := n6_; have NB414_415 := n7_; have NB415_414 := n8_; clear n0_ n1_ n2_ n3_ n4_ n5_ n6_ n7_ n8_; clear hb hbox hg; obtain ⟨Ao12, co12, eo12⟩ := Kd.R_slice HO404.out; subst eo12; have hnb13 := NB414_415.out; have hnc13 := NB415_414.out; have hcz14_0 : w11.cell? ⟨gb414, 0, none⟩ = some (.slice none 0 0) := (blk_cell BK414.out 0).trans rfl; have hcz14_1 : w11.cell? ⟨gb414, 1, none⟩ = some (.string (⟨#[]⟩ : ByteArray)) := (blk_cell BK414.out 1).trans rfl; have hcz14_2 : w11.cell? ⟨gb414, 2, none⟩ = some (.string (⟨#[]⟩ : ByteArray)) := (blk_cell BK414.out 2).trans rfl; have hcz14_3 : w11.cell? ⟨gb414, 3, none⟩ = some (.string (⟨#[]⟩ : ByteArray)) := (blk_cell BK414.out 3).trans rfl; have hfz14_0 := blk_frozen BK414.out 0; have hfz14_1 := blk_frozen BK414.out 1; have hfz14_2 := blk_frozen BK414.out 2; have hfz14_3 := blk_frozen BK414.out 3; obtain ⟨Ao15, co15, eo15⟩ := Kd.R_slice HO410.out; subst eo15; have hcz16_0 : w11.cell? ⟨gb415, 0, none⟩ = some (.slice none 0 0) := (blk_cell BK415.out 0).trans rfl; have hcz16_1 : w11.cell? ⟨gb415, 1, none⟩ = some (.string (⟨#[]⟩ : ByteArray)) := (blk_cell BK415.out 1).trans rfl; have hcz16_2 : w11.cell? ⟨gb415, 2, none⟩ = some (.string (⟨#[]⟩ : ByteArray)) := (blk_cell BK415.out 2).trans rfl; have hcz16_3 : w11.cell? ⟨gb415, 3, none⟩ = some (.string (⟨#[]⟩ : ByteArray)) := (blk_cell BK415.out 3).trans rfl; have hfz16_0 := blk_frozen BK415.out 0; have hfz16_1 := blk_frozen BK415.out 1; have hfz16_2 := blk_frozen BK415.out 2; have hfz16_3 := blk_frozen BK415.out 3) | ((with_reducible refine gate_callee (f := 7) rfl ?_); refine goesL_ (some 27) rfl rfl Tryd.func7 (by kernel_rfl) rfl #[.agg #[.slice Ao12 t402.length co12, .string t405, .string t406, .string t407], .agg #[.slice Ao15 t408.length co15, .string t411, .string t412, .string t413]] rfl au57 ?_; (with_reducible refine (impl_CompareNames.calls (hG := au5) k _ _ t402 t405 t406 t407 _ _ t408 t411 t412 t413 t416 t417 _ ?side1 ?side2 ?side3 ?side4 A5.out).mono ?_); (case side1 => refine (Kd.R_reads' (e := 9) (base := w.heap.size) (ok := fun k_ => some k_ ≠ (.slice Ao15 t408.length co15 : Value).ownBlock) (n := t402.length) (c := co12) ?_).2.2; exact au2); (case side2 => exact (Kd.R_reads' HO404.out).2.1); (case side3 => refine (Kd.R_reads' (e := 9) (base := w.heap.size) (ok := fun k_ => some k_ ≠ (.slice Ao12 t402.length co12 : Value).ownBlock) (n := t408.length) (c := co15) ?_).2.2; exact au3); (case side4 => exact (Kd.R_reads' HO410.out).2.1); rintro e w17 ⟨rfl, hb⟩; refine ⟨_, rfl, ?_⟩; have n0_ := Aside0.mk (Kd.R_below au2 hb); have n1_ := Aside0.mk (Kd.R_below au3 hb); have n2_ := Aside0.mk (blk_below (g := gb414) (o := .cells #[.slice Ao12 t402.length co12, .string t405, .string t406, .string t407] 26 (0, 0)) (by (with_reducible repeat (first | refine blk_drewN ?_ _ | refine blk_drew ?_ | refine blk_alloc ?_ _)); refine blk_far ?_ NB414_415.out _; (with_reducible repeat (first | refine blk_drewN ?_ _ | refine blk_drew ?_ | refine blk_alloc ?_ _)); refine blk_far ?_ NB414_415.out _; (with_reducible repeat (first | refine blk_drewN ?_ _ | refine blk_drew ?_ | refine blk_alloc ?_ _)); refine blk_far ?_ NB414_415.out _; (with_reducible repeat (first | refine blk_drewN ?_ _ | refine blk_drew ?_ | refine blk_alloc ?_ _)); refine blk_far ?_ NB414_415.out _; (with_reducible repeat (first | refine blk_drewN ?_ _ | refine blk_drew ?_ | refine blk_alloc ?_ _)); refine blk_put (cs := #[.slice Ao12 t402.length co12, .string t405, .string t406, .string (⟨#[]⟩ : ByteArray)]) ?_ 3 _ rfl; (with_reducible repeat (first | refine blk_drewN ?_ _ | refine blk_drew ?_ | refine blk_alloc ?_ _)); refine blk_put (cs := #[.slice Ao12 t402.length co12, .string t405, .string (⟨#[]⟩ : ByteArray), .string (⟨#[]⟩ : ByteArray)]) ?_ 2 _ rfl; (with_reducible repeat (first | refine blk_drewN ?_ _ | refine blk_drew ?_ | refine blk_alloc ?_ _)); refine blk_put (cs := #[.slice Ao12 t402.length co12, .string (⟨#[]⟩ : ByteArray), .string (⟨#[]⟩ : ByteArray), .string (⟨#[]⟩ : ByteArray)]) ?_ 1 _ rfl; (with_reducible repeat (first | refine blk_drewN ?_ _ | refine blk_drew ?_ | refine blk_alloc ?_ _)); refine blk_put (cs := #[.slice none 0 0, .string (⟨#[]⟩ : ByteArray), .string (⟨#[]⟩ : ByteArray), .string (⟨#[]⟩ : ByteArray)]) ?_ 0 _ rfl; (with_reducible repeat (first | refine blk_drewN ?_ _ | refine blk_drew ?_ | refine blk_alloc ?_ _)); exact BK414.out) hb); have n3_ := Aside0.mk (blk_below (g := gb415) (o := .cells #[.slice Ao15 t408.length co15, .string t411, .string t412, .string t413] 26 (0, 0)) (by (with_reducible repeat (first | refine blk_drewN ?_ _ | refine blk_drew ?_ | refine blk_alloc ?_ _)); refine blk_put (cs := #[.slice Ao15 t408.length co15, .string t411, .string t412, .string (⟨#[]⟩ : ByteArray)]) ?_ 3 _ rfl; (with_reducible repeat (first | refine blk_drewN ?_ _ | refine blk_drew ?_ | refine blk_alloc ?_ _)); refine blk_put (cs := #[.slice Ao15 t408.length co15, .string t411, .string (⟨#[]⟩ : ByteArray), .string (⟨#[]⟩ : ByteArray)]) ?_ 2 _ rfl; (with_reducible repeat (first | refine blk_drewN ?_ _ | refine blk_drew ?_ | refine blk_alloc ?_ _)); refine blk_put (cs := #[.slice Ao15 t408.length co15, .string (⟨#[]⟩ : ByteArray), .string (⟨#[]⟩ : ByteArray), .string (⟨#[]⟩ : ByteArray)]) ?_ 1 _ rfl; (with_reducible repeat (first | refine blk_drewN ?_ _ | refine blk_drew ?_ | refine blk_alloc ?_ _)); refine blk_put (cs := #[.slice none 0 0, .string (⟨#[]⟩ : ByteArray), .string (⟨#[]⟩ : ByteArray), .string (⟨#[]⟩ : ByteArray)]) ?_ 0 _ rfl; (with_reducible repeat (first | refine blk_drewN ?_ _ | refine blk_drew ?_ | refine blk_alloc ?_ _)); refine blk_far ?_ NB415_414.out _; (with_reducible repeat (first | refine blk_drewN ?_ _ | refine blk_drew ?_ | refine blk_alloc ?_ _)); refine blk_far ?_ NB415_414.out _; (with_reducible repeat (first | refine blk_drewN ?_ _ | refine blk_drew ?_ | refine blk_alloc ?_ _)); refine blk_far ?_ NB415_414.out _; (with_reducible repeat (first | refine blk_drewN ?_ _ | refine blk_drew ?_ | refine blk_alloc ?_ _)); refine blk_far ?_ NB415_414.out _; (with_reducible repeat (first | refine blk_drewN ?_ _ | refine blk_drew ?_ | refine blk_alloc ?_ _)); exact BK415.out) hb); have n4_ := Aside0.mk (below_step au33 hb); clear HO404; clear HO410; clear BK414; clear BK415; clear HB; have HO404 := n0_; have HO410 := n1_; have BK414 := n2_; have BK415 := n3_; have HB := n4_; clear n0_ n1_ n2_ n3_ n4_; (try clear hb); (try clear hb2); (try clear hk); (try clear hi); have hcz18_0 : w17.cell? ⟨gb415, 0, none⟩ = some (.slice Ao15 t408.length co15) := (blk_cell BK415.out 0).trans rfl; have hcz18_1 : w17.cell? ⟨gb415, 1, none⟩ = some (.string t411) := (blk_cell BK415.out 1).trans rfl; have hcz18_2 : w17.cell? ⟨gb415, 2, none⟩ = some (.string t412) := (blk_cell BK415.out 2).trans rfl; have hcz18_3 : w17.cell? ⟨gb415, 3, none⟩ = some (.string t413) := (blk_cell BK415.out 3).trans rfl; have hfz18_0 := blk_frozen BK415.out 0; have hfz18_1 := blk_frozen BK415.out 1; have hfz18_2 := blk_frozen BK415.out 2; have hfz18_3 := blk_frozen BK415.out 3; have hcz19_0 : w17.cell? ⟨gb414, 0, none⟩ = some (.slice Ao12 t402.length co12) := (blk_cell BK414.out 0).trans rfl; have hcz19_1 : w17.cell? ⟨gb414, 1, none⟩ = some (.string t405) := (blk_cell BK414.out 1).trans rfl; have hcz19_2 : w17.cell? ⟨gb414, 2, none⟩ = some (.string t406) := (blk_cell BK414.out 2).trans rfl; have hcz19_3 : w17.cell? ⟨gb414, 3, none⟩ = some (.string t407) := (blk_cell BK414.out 3).trans rfl; have hfz19_0 := blk_frozen BK414.out 0; have hfz19_1 := blk_frozen BK414.out 1; have hfz19_2 := blk_frozen BK414.out 2; have hfz19_3 := blk_frozen BK414.out 3) | ((with_reducible refine gate_callee (f := 7) rfl ?_); refine goesL_ (some 33) rfl rfl Tryd.func7 (by kernel_rfl) rfl #[.agg #[.slice Ao15 t408.length co15, .string t411, .string t412, .string t413], .agg #[.slice Ao12 t402.length co12, .string t405, .string t406, .string t407]] rfl au57 ?_; (with_reducible refine (impl_CompareNames.calls (hG := au5) k _ _ t408 t411 t412 t413 _ _ t402 t405 t406 t407 t418 t419 _ ?side1 ?side2 ?side3 ?side4 A6.out).mono ?_); (case side1 => repeat (first | exact (Kd.R_reads' HO410.out).2.2 | (with_reducible refine Kd.C_alloc ?_ _) | (with_reducible refine Kd.C_drewN ?_ _) | (with_reducible refine Kd.C_drew ?_))); (case side2 => exact (Kd.R_reads' HO410.out).2.1); (case side3 => repeat (first | exact (Kd.R_reads' HO404.out).2.2 | (with_reducible refine Kd.C_alloc ?_ _) | (with_reducible refine Kd.C_drewN ?_ _) | (with_reducible refine Kd.C_drew ?_))); (case side4 => exact (Kd.R_reads' HO404.out).2.1); rintro e w20 ⟨rfl, hb⟩; refine ⟨_, rfl, ?_⟩; have n0_ := Aside0.mk (Kd.R_below au100 hb); have n1_ := Aside0.mk (Kd.R_below au101 hb); have n2_ := Aside0.mk (blk_below (g := gb414) (o := .cells #[.slice Ao12 t402.length co12, .string t405, .string t406, .string t407] 26 (0, 0)) au89 hb); have n3_ := Aside0.mk (blk_below (g := gb415) (o := .cells #[.slice Ao15 t408.length co15, .string t411, .string t412, .string t413] 26 (0, 0)) au90 hb); have n4_ := Aside0.mk (below_step au33 hb); clear HO404; clear HO410; clear BK414; clear BK415; clear HB; have HO404 := n0_; have HO410 := n1_; have BK414 := n2_; have BK415 := n3_; have HB := n4_; clear n0_ n1_ n2_ n3_ n4_; (try clear hb); (try clear hb2); (try clear hk); (try clear hi); have hcz21_0 : w20.cell? ⟨gb414, 0, none⟩ = some (.slice Ao12 t402.length co12) := (blk_cell BK414.out 0).trans rfl; have hcz21_1 : w20.cell? ⟨gb414, 1, none⟩ = some (.string t405) := (blk_cell BK414.out 1).trans rfl; have hcz21_2 : w20.cell? ⟨gb414, 2, none⟩ = some (.string t406) := (blk_cell BK414.out 2).trans rfl; have hcz21_3 : w20.cell? ⟨gb414, 3, none⟩ = some (.string t407) := (blk_cell BK414.out 3).trans rfl; have hfz21_0 := blk_frozen BK414.out 0; have hfz21_1 := blk_frozen BK414.out 1; have hfz21_2 := blk_frozen BK414.out 2; have hfz21_3 := blk_frozen BK414.out 3; have hcz22_0 : w20.cell? ⟨gb415, 0, none⟩ = some (.slice Ao15 t408.length co15) := (blk_cell BK415.out 0).trans rfl; have hcz22_1 : w20.cell? ⟨gb415, 1, none⟩ = some (.string t411) := (blk_cell BK415.out 1).trans rfl; have hcz22_2 : w20.cell? ⟨gb415, 2, none⟩ = some (.string t412) := (blk_cell BK415.out 2).trans rfl; have hcz22_3 : w20.cell? ⟨gb415, 3, none⟩ = some (.string t413) := (blk_cell BK415.out 3).trans rfl; have hfz22_0 := blk_frozen BK415.out 0; have hfz22_1 := blk_frozen BK415.out 1; have hfz22_2 := blk_frozen BK415.out 2; have hfz22_3 := blk_frozen BK415.out 3) | ((with_reducible refine gate_callee (f := 8) rfl ?_); refine goesL_ (some 39) rfl rfl Tryd.func8 (by kernel_rfl) rfl #[.agg #[.slice Ao12 t402.length co12, .string t405, .string t406, .string t407], .agg #[.slice Ao15 t408.length co15, .string t411, .string t412, .string t413]] rfl au57 ?_; (with_reducible refine (spec_CompareNames.calls k _ _ t402 t405 t406 t407 _ _ t408 t411 t412 t413 t420 t421 _ ?side1 ?side2 ?side3 ?side4 A7.out).mono ?_); (case side1 => repeat (first | exact (Kd.R_reads' HO404.out).2.2 | (with_reducible refine Kd.C_alloc ?_ _) | (with_reducible refine Kd.C_drewN ?_ _) | (with_reducible refine Kd.C_drew ?_))); (case side2 => exact (Kd.R_reads' HO404.out).2.1); (case side3 => repeat (first | exact (Kd.R_reads' HO410.out).2.2 | (with_reducible refine Kd.C_alloc ?_ _) | (with_reducible refine Kd.C_drewN ?_ _) | (with_reducible refine Kd.C_drew ?_))); (case side4 => exact (Kd.R_reads' HO410.out).2.1); rintro e w23 ⟨rfl, hb⟩; refine ⟨_, rfl, ?_⟩; have n0_ := Aside0.mk (Kd.R_below au100 hb); have n1_ := Aside0.mk (Kd.R_below au101 hb); have n2_ := Aside0.mk (blk_below (g := gb414) (o := .cells #[.slice Ao12 t402.length co12, .string t405, .string t406, .string t407] 26 (0, 0)) au89 hb); have n3_ := Aside0.mk (blk_below (g := gb415) (o := .cells #[.slice Ao15 t408.length co15, .string t411, .string t412, .string t413] 26 (0, 0)) au90 hb); have n4_ := Aside0.mk (below_step au33 hb); clear HO404; clear HO410; clear BK414; clear BK415; clear HB; have HO404 := n0_; have HO410 := n1_; have BK414 := n2_; have BK415 := n3_; have HB := n4_; clear n0_ n1_ n2_ n3_ n4_; (try clear hb); (try clear hb2); (try clear hk); (try clear hi)))
  (try simp only [Act.put, List.setIfInBounds_toArray, List.set_cons_zero, List.set_cons_succ])
  go_cut [60] (fun v60 wc => ∃ (kq : Nat) (x60_7 : Bool), v60 = .bool x60_7 ∧ Aside0 (laws_FnNameOrder.j0 kq t416 t417 x60_7 t402 t405 t406 t407 t408 t411 t412 t413 = some r) ∧ Aside0 (kq ≤ k) ∧ Aside0 (Kd.R Kd.string 9 wc w.heap.size (fun k_ => some k_ ≠ ((.slice Ao15 t408.length co15) : Value).ownBlock) (.slice Ao12 t402.length co12) t402) ∧ Aside0 (Kd.R Kd.string 9 wc w.heap.size (fun k_ => some k_ ≠ ((.slice Ao12 t402.length co12) : Value).ownBlock) (.slice Ao15 t408.length co15) t408) ∧ Aside0 (wc.heap[gb414]? = some (.cells #[(.slice Ao12 t402.length co12), .string t405, .string t406, .string t407] 26 (0, 0))) ∧ Aside0 (wc.heap[gb415]? = some (.cells #[(.slice Ao15 t408.length co15), .string t411, .string t412, .string t413] 26 (0, 0))) ∧ Aside0 (Below w.heap.size w wc))
  case first =>
   have H := HC8.out
   clear HC8
   by_cases c24 : t416 = t420
   ·
    rw [if_pos c24] at H
    have c24b0 : (t416 == t420) = true := beq_iff_eq.mpr c24
    have c24b1 : (t416 != t420) = false := bne_eq_false_iff_eq.mpr c24
    clear c24
    (first | rw [c24b0] | (simp only [i64_w, i32_w]; rw [c24b0]) | skip)
    by_cases c25 : (t417 != t421) = true
    ·
     rw [if_pos c25] at H
     have c25b0 : (t417 != t421) = true := c25
     (try (have c25b1 : decide (t417 = t421) = false := by simpa using c25))
     (try (have c25b2 : (t417 == t421) = false := by simpa using c25))
     (try (have c25b3 : ¬ (t417 = t421) := by simpa using c25))
     clear c25
     have H' := Aside0.mk H
     clear H
     exact laws_FnNameOrder.L2
    ·
     rw [if_neg c25] at H
     have c25b0 : (t417 != t421) = false := by simpa using c25
     (try (have c25b1 : decide (t417 = t421) = true := by simpa using c25))
     (try (have c25b2 : (t417 == t421) = true := by simpa using c25))
     clear c25
     by_cases c26 : (t419 != t417) = true
     ·
      rw [if_pos c26] at H
      have c26b0 : (t419 != t417) = true := c26
      (try (have c26b1 : decide (t419 = t417) = false := by simpa using c26))
      (try (have c26b2 : (t419 == t417) = false := by simpa using c26))
      (try (have c26b3 : ¬ (t419 = t417) := by simpa using c26))
      clear c26
      have H' := Aside0.mk H
      clear H
      exact laws_FnNameOrder.L2
     ·
      rw [if_neg c26] at H
      have c26b0 : (t419 != t417) = false := by simpa using c26
      (try (have c26b1 : decide (t419 = t417) = true := by simpa using c26))
      (try (have c26b2 : (t419 == t417) = true := by simpa using c26))
      clear c26
      have H' := Aside0.mk H
      clear H
      exact laws_FnNameOrder.L2
   ·
    rw [if_neg c24] at H
    have c24b0 : (t416 == t420) = false := beq_eq_false_iff_ne.mpr c24
    have c24b1 : (t416 != t420) = true := bne_iff_ne.mpr c24
    (first | rw [c24b0] | (simp only [i64_w, i32_w]; rw [c24b0]) | skip)
    have H' := Aside0.mk H
    clear H
    exact laws_FnNameOrder.L2
  case rest =>
   clear HC8
   try clear c1
   try clear c2
   try clear p2
   try clear c3
   try clear c5
   try clear c6
   try clear p6
   try clear c7
   try clear c8
   try clear c13
   try clear c24
   try clear c24b0
   try clear c24b1
   try clear c25
   try clear c25b0
   try clear c25b1
   try clear c25b2
   try clear c26
   try clear c26b0
   try clear c26b1
   try clear c26b2
   try clear hcz14_0
   try clear hcz14_1
   try clear hcz14_2
   try clear hcz14_3
   try clear hcz16_0
   try clear hcz16_1
   try clear hcz16_2
   try clear hcz16_3
   try clear hcz18_0
   try clear hcz18_1
   try clear hcz18_2
   try clear hcz18_3
   try clear hcz19_0
   try clear hcz19_1
   try clear hcz19_2
   try clear hcz19_3
   try clear hcz21_0
   try clear hcz21_1
   try clear hcz21_2
   try clear hcz21_3
   try clear hcz22_0
   try clear hcz22_1
   try clear hcz22_2
   try clear hcz22_3
   try clear hfz14_0
   try clear hfz14_1
   try clear hfz14_2
   try clear hfz14_3
   try clear hfz16_0
   try clear hfz16_1
   try clear hfz16_2
   try clear hfz16_3
   try clear hfz18_0
   try clear hfz18_1
   try clear hfz18_2
   try clear hfz18_3
   try clear hfz19_0
   try clear hfz19_1
   try clear hfz19_2
   try clear hfz19_3
   try clear hfz21_0
   try clear hfz21_1
   try clear hfz21_2
   try clear hfz21_3
   try clear hfz22_0
   try clear hfz22_1
   try clear hfz22_2
   try clear hfz22_3
   obtain ⟨kq, x60_7, rfl, HA, HJ7, HO_415000, HO_416000, BK414, BK415, HB⟩ := hcut
   cases kq with
   | zero => exact absurd HA.out (by simp [laws_FnNameOrder.j0])
   | succ kj7 =>
    have H := HA.out
    clear HA
    simp only [laws_FnNameOrder.j0] at H
    by_cases c27 : x60_7 = true
    ·
     subst c27
     replace H := (if_pos rfl).symm.trans H
     obtain rfl := Option.some.inj H
     go_wp2
     go_ret
     exact ⟨by first | rfl | (simp [errW_none, errW_some] <;> rfl) | (simp [*, errW_none, errW_some] <;> rfl), by repeat (first | (with_reducible first | exact HB.out | apply below_alloc | apply pw_below_drewN | apply below_drew1 | refine below_set ?_ GE414.out | refine below_set ?_ GE415.out) | exact HB.out)⟩
    ·
     replace c27 := Bool.eq_false_iff.mpr c27
     subst c27
     replace H := (if_neg (show ¬ (false = true) by decide)).symm.trans H
     replace H := Option.bind_eq_some_iff.mp H
     obtain ⟨⟨t422, t423⟩, A280, H⟩ := H
     replace H : ((impl_MayBeSame.f kj7 t408 t411 t412 t413 t402 t405 t406 t407).bind fun bt424 => ((spec_MayBeSame.f kj7 t402 t405 t406 t407 t408 t411 t412 t413).bind fun bt426 => (if (t422 != bt426.1) = true then (some false) else (if (t423 != bt426.2) = true then (some false) else (if (bt424.2 != t423) = true then (some false) else (if (bt424.1 != t422) = true then (some false) else (if t417 = true then ((laws_vName.f kj7 t402 t405 t406 t407 t408 t411 t412 t413).bind fun t428 => (if ((t416 == 0) == t428) = true then (if t416 = 0 then (some t422) else (some true)) else (some false))) else (some true)))))))) = some r := H
     have A28 := Aside0.mk A280
     clear A280
     replace H := Option.bind_eq_some_iff.mp H
     obtain ⟨⟨t424, t425⟩, A290, H⟩ := H
     replace H : ((spec_MayBeSame.f kj7 t402 t405 t406 t407 t408 t411 t412 t413).bind fun bt426 => (if (t422 != bt426.1) = true then (some false) else (if (t423 != bt426.2) = true then (some false) else (if (t425 != t423) = true then (some false) else (if (t424 != t422) = true then (some false) else (if t417 = true then ((laws_vName.f kj7 t402 t405 t406 t407 t408 t411 t412 t413).bind fun t428 => (if ((t416 == 0) == t428) = true then (if t416 = 0 then (some t422) else (some true)) else (some false))) else (some true))))))) = some r := H
     have A29 := Aside0.mk A290
     clear A290
     replace H := Option.bind_eq_some_iff.mp H
     obtain ⟨⟨t426, t427⟩, A300, H⟩ := H
     replace H : (if (t422 != t426) = true then (some false) else (if (t423 != t427) = true then (some false) else (if (t425 != t423) = true then (some false) else (if (t424 != t422) = true then (some false) else (if t417 = true then ((laws_vName.f kj7 t402 t405 t406 t407 t408 t411 t412 t413).bind fun t428 => (if ((t416 == 0) == t428) = true then (if t416 = 0 then (some t422) else (some true)) else (some false))) else (some true)))))) = some r := H
     have A30 := Aside0.mk A300
     clear A300
     by_cases c31 : (t422 != t426) = true
     ·
      rw [if_pos c31] at H
      have c31b0 : (t422 != t426) = true := c31
      (try (have c31b1 : decide (t422 = t426) = false := by simpa using c31))
      (try (have c31b2 : (t422 == t426) = false := by simpa using c31))
      (try (have c31b3 : ¬ (t422 = t426) := by simpa using c31))
      clear c31
      obtain rfl := Option.some.inj H
      exact laws_FnNameOrder.L1
     ·
      rw [if_neg c31] at H
      have c31b0 : (t422 != t426) = false := by simpa using c31
      (try (have c31b1 : decide (t422 = t426) = true := by simpa using c31))
      (try (have c31b2 : (t422 == t426) = true := by simpa using c31))
      clear c31
      by_cases c42 : (t423 != t427) = true
      ·
       rw [if_pos c42] at H
       have c42b0 : (t423 != t427) = true := c42
       (try (have c42b1 : decide (t423 = t427) = false := by simpa using c42))
       (try (have c42b2 : (t423 == t427) = false := by simpa using c42))
       (try (have c42b3 : ¬ (t423 = t427) := by simpa using c42))
       clear c42
       obtain rfl := Option.some.inj H
       exact laws_FnNameOrder.L1
      ·
       rw [if_neg c42] at H
       have c42b0 : (t423 != t427) = false := by simpa using c42
       (try (have c42b1 : decide (t423 = t427) = true := by simpa using c42))
       (try (have c42b2 : (t423 == t427) = true := by simpa using c42))
       clear c42
       by_cases c53 : (t425 != t423) = true
       ·
        rw [if_pos c53] at H
        have c53b0 : (t425 != t423) = true := c53
        (try (have c53b1 : decide (t425 = t423) = false := by simpa using c53))
        (try (have c53b2 : (t425 == t423) = false := by simpa using c53))
        (try (have c53b3 : ¬ (t425 = t423) := by simpa using c53))
        clear c53
        obtain rfl := Option.some.inj H
        exact laws_FnNameOrder.L1
       ·
        rw [if_neg c53] at H
        have c53b0 : (t425 != t423) = false := by simpa using c53
        (try (have c53b1 : decide (t425 = t423) = true := by simpa using c53))
        (try (have c53b2 : (t425 == t423) = true := by simpa using c53))
        clear c53
        by_cases c64 : (t424 != t422) = true
        ·
         rw [if_pos c64] at H
         have c64b0 : (t424 != t422) = true := c64
         (try (have c64b1 : decide (t424 = t422) = false := by simpa using c64))
         (try (have c64b2 : (t424 == t422) = false := by simpa using c64))
         (try (have c64b3 : ¬ (t424 = t422) := by simpa using c64))
         clear c64
         obtain rfl := Option.some.inj H
         exact laws_FnNameOrder.L1
        ·
         rw [if_neg c64] at H
         have c64b0 : (t424 != t422) = false := by simpa using c64
         (try (have c64b1 : decide (t424 = t422) = true := by simpa using c64))
         (try (have c64b2 : (t424 == t422) = true := by simpa using c64))
         clear c64
         by_cases c75 : t417 = true
         ·
          subst c75
          replace H := (if_pos rfl).symm.trans H
          replace H := Option.bind_eq_some_iff.mp H
          obtain ⟨t428, A760, H⟩ := H
          try dsimp only at H
          have A76 := Aside0.mk A760
          clear A760
          by_cases c77 : ((t416 == 0) == t428) = true
          ·
           rw [if_pos c77] at H
           have c77b0 : ((t416 == 0) == t428) = true := c77
           (try (have c77b1 : decide ((t416 == 0) = t428) = true := by simpa using c77))
           (try (have c77b2 : ((t416 == 0) == t428) = true := by simpa using c77))
           clear c77
           by_cases c78 : t416 = 0
           ·
            rw [if_pos c78] at H
            have c78b0 : (t416 == 0) = true := beq_iff_eq.mpr c78
            have c78b1 : (t416 != 0) = false := bne_eq_false_iff_eq.mpr c78
            (try (have c77e_ : t428 = true := by have h_ := c77b0; rw [c78b0] at h_; simpa using h_))
            clear c78
            obtain rfl := Option.some.inj H
            exact laws_FnNameOrder.L0
           ·
            rw [if_neg c78] at H
            have c78b0 : (t416 == 0) = false := beq_eq_false_iff_ne.mpr c78
            have c78b1 : (t416 != 0) = true := bne_iff_ne.mpr c78
            (try (have c77e_ : t428 = false := by have h_ := c77b0; rw [c78b0] at h_; simpa using h_))
            obtain rfl := Option.some.inj H
            exact laws_FnNameOrder.L0
          ·
           rw [if_neg c77] at H
           have c77b0 : ((t416 == 0) == t428) = false := by simpa using c77
           (try (have c77b1 : decide ((t416 == 0) = t428) = false := by simpa using c77))
           (try (have c77b2 : ((t416 == 0) == t428) = false := by simpa using c77))
           (try (have c77b3 : ¬ ((t416 == 0) = t428) := by simpa using c77))
           clear c77
           obtain rfl := Option.some.inj H
           exact laws_FnNameOrder.L0
         ·
          replace c75 := Bool.eq_false_iff.mpr c75
          subst c75
          replace H := (if_neg (show ¬ (false = true) by decide)).symm.trans H
          obtain rfl := Option.some.inj H
          exact laws_FnNameOrder.L1



end Go.Proofs.YtieieapacepabaaDoor.G

namespace Go.Proofs.YtieieapacepabaaDoor.Opn
open Go.RowKit Go.Proofs.YtieieapacepabaaDoorW.PrintWords
set_option linter.unusedVariables false
set_option linter.unusedSimpArgs false
variable {H : Type} {enc : TypeId × Value → H} {P : Program} {w : World} {base : Nat} {spare : Nat → Bool} {held : Bool}
def okInt (k : IntKind) (n : Int) : Prop := (Lit.int k n).wf = true
def okList {α : Type} (p : α → Prop) (xs : List α) : Prop := xs.length ≤ 9223372036854775807 ∧ ∀ x ∈ xs, p x
theorem of_int {t : TypeId} {k : IntKind} {fuel : Nat} {cs : List Value} {x : DataW H × List MemPlace} (ht : P.underlying t = some (.int k)) (h : DataW.trod enc P w base spare held fuel t cs = some x) :
    ∃ n, (Kd.int k).K w n cs ∧ okInt k n := by
  obtain ⟨n, rfl, rfl, hw⟩ := DataW.trod_int ht h
  exact ⟨n, rfl, hw⟩
theorem add_add (a : Addr) (k i : Nat) : (a.add k).add i = a.add (k + i) := by
  unfold Addr.add
  by_cases hk : k = 0 <;> by_cases hi : i = 0 <;> simp [hk, hi, Nat.add_assoc]
theorem of_slice {α : Type} {d : Kd α} {ok : α → Prop} {t e : TypeId} {fuel : Nat} {cs : List Value} {x : DataW H × List MemPlace} (ht : P.underlying t = some (.slice e)) (hc : P.cellsOf e = d.sz)
    (ih : ∀ n cs x, DataW.trod enc P w base spare held n e cs = some x → ∃ y, d.K w y cs ∧ ok y) (h : DataW.trod enc P w base spare held fuel t cs = some x) :
    ∃ ys, (Kd.slice e d).K w ys cs ∧ okList ok ys := by
  rcases Go.Deep.open_slice ht h with ⟨rfl, _⟩ | ⟨a, len, cap, m, n, D, Pl, rfl, hb, hl, hm, hmm, hxe, hel⟩
  · exact ⟨[], ⟨none, 0, rfl, by simp, rfl, by simp, fun h => absurd h (by simp)⟩, by simp, fun x hx => by simp at hx⟩
  · have hlm : len ≤ m := by rw [hmm]; split <;> omega
    have hm' : len ≤ 9223372036854775807 := by unfold maxLen at hm; omega
    have key : ∀ i, i < len → ∃ cs' y, w.cells? base (a.add (i * P.cellsOf e)) (P.cellsOf e) = some cs' ∧ d.K w y cs' ∧ ok y := by
      intro i hi
      obtain ⟨cs', h1, h2⟩ := hel i (by omega)
      obtain ⟨y, hy, ho⟩ := ih _ _ _ h2
      exact ⟨cs', y, h1, hy, ho⟩
    obtain ⟨ys, hlen, hys⟩ : ∃ ys : List α, ys.length = len ∧ ∀ i (hi : i < ys.length), ∃ cs', w.cells? base (a.add (i * P.cellsOf e)) (P.cellsOf e) = some cs' ∧ d.K w ys[i] cs' ∧ ok ys[i] := by
      clear h hxe hel hmm hlm hl hm hm'
      induction len with
      | zero => exact ⟨[], rfl, fun i hi => by simp at hi⟩
      | succ len ihl =>
        obtain ⟨ys, h1, h2⟩ := ihl (fun i hi => key i (by omega))
        obtain ⟨cs', y, h3, h4, h5⟩ := key len (by omega)
        refine ⟨ys ++ [y], by simp [h1], fun i hi => ?_⟩
        by_cases hi' : i < ys.length
        · rw [List.getElem_append_left hi']; exact h2 i hi'
        · have : i = len := by simp at hi; omega
          subst this
          refine ⟨cs', h3, ?_, ?_⟩ <;> rw [List.getElem_append_right (by omega)] <;> simpa [h1]
    refine ⟨ys, ⟨some a, cap, by rw [hlen], by omega, rfl, by omega, fun _ => ⟨a, rfl, fun j p hj => ?_⟩⟩, by omega, fun y hy => ?_⟩
    · obtain ⟨hj', rfl⟩ := List.getElem?_eq_some_iff.1 hj
      obtain ⟨cs', h1, h2, _⟩ := hys j hj'
      rw [hc] at h1
      refine ⟨cs', d.K_len h2, h2, fun i u hu => ?_⟩
      obtain ⟨_, hl', hcell⟩ := World.cells?_some h1
      have hi : i < d.sz := by have := (List.getElem?_eq_some_iff.1 hu).1; omega
      have := hcell i hi
      rw [hu, add_add] at this
      exact this
    · obtain ⟨i, hi, rfl⟩ := List.getElem_of_mem hy
      obtain ⟨_, _, _, h3⟩ := hys i hi
      exact h3
end Go.Proofs.YtieieapacepabaaDoor.Opn

namespace Go.Proofs.YtieieapacepabaaDoor.G
open Go.Proofs.YtieieapacepabaaDoor.Opn
open Go.RowKit Go.Proofs.YtieieapacepabaaDoorW.PrintWords Go.Proofs.YtieieapacepabaaDoorW.PrintLast Go.Proofs.YtieieapacepabaaDoorW.PrintMore
open Go.Proofs.YtieieapacepabaaDoor.Gl Go.Proofs.YtieieapacepabaaDoor.Ext
attribute [local go_sem] max2_int min2_int max_two min_two max_three min_three max_four min_four   -- for this text's walks alone
set_option linter.unusedVariables false
set_option linter.unusedSimpArgs false

theorem cells5 : Tryd.prog.cellsOf 5 = 1 := by kernel_rfl

def laws_FnNameOrder.Pur : Prop := ∀ (l0 : List Int), okList (okInt .u8) l0 → ∃ k, laws_FnNameOrder.f k l0 = some true
theorem laws_FnNameOrder.wlk (P : laws_FnNameOrder.Pur) (A0 : Option Addr) (c0 : Nat) (l0 : List Int) (w : World) (hr0 : Kd.C (Kd.int .u8) w A0 l0.length l0) (hc0 : l0.length ≤ c0) {gF1 gF2 gF3 : Bool} (hG : GL gF1 gF2 gF3 w) (bl0 : okList (okInt .u8) l0) :
    Calls Tryd.prog 3 #[.slice A0 l0.length c0] w fun e w' => e = .returned (.bool true) ∧ Below w.heap.size w w' := by
  obtain ⟨k, h⟩ := P l0 bl0
  refine (laws_FnNameOrder.calls k A0 c0 l0 true w hG hr0 hc0 h).mono ?_
  rintro e w' ⟨rfl, hd⟩
  exact ⟨rfl, hd⟩

end Go.Proofs.YtieieapacepabaaDoor.G

namespace Go.Proofs.YtieieapacepabaaDoor.G
open Go.RowKit Go.Proofs.YtieieapacepabaaDoorW.PrintWords Go.Proofs.YtieieapacepabaaDoorW.PrintLast Go.Proofs.YtieieapacepabaaDoor.B Go.Proofs.YtieieapacepabaaDoor.Opn
set_option linter.unusedVariables false
set_option linter.unusedSimpArgs false
def BtL (l : List Int) : Prop := l.length ≤ 65536 ∧ ∀ x ∈ l, 0 ≤ x ∧ x ≤ 255
theorem bt_of {l : List Int} (h : okList (okInt .u8) l) (hl : l.length ≤ 65536) : BtL l := by
  refine ⟨hl, fun x hx => ?_⟩
  have := h.2 x hx
  simp only [okInt, Lit.wf, Bool.and_eq_true, decide_eq_true_eq] at this
  have h1 : IntKind.u8.min = 0 := rfl
  have h2 : IntKind.u8.max = 255 := rfl
  omega
theorem rd_bd {l : List Int} (h : BtL l) (i : Int) : 0 ≤ rd l i ∧ rd l i ≤ 255 := by
  unfold rd
  by_cases c : i.toNat < l.length
  · rw [List.getD_eq_getElem?_getD, List.getElem?_eq_getElem c]
    exact h.2 _ (List.getElem_mem c)
  · rw [List.getD_eq_getElem?_getD, List.getElem?_eq_none (by omega)]
    exact ⟨by decide, by decide⟩
theorem and_bd (x : Int) : 0 ≤ wrap64 (Go.bits .and .u64 ((IntKind.u64.wrap x) / 1099511627776) 255) ∧ wrap64 (Go.bits .and .u64 ((IntKind.u64.wrap x) / 1099511627776) 255) ≤ 255 := by
  rw [IntKind.wrap_u64]
  obtain ⟨n, hn, hl⟩ : ∃ n : Nat, (x % 18446744073709551616) / 1099511627776 = (n : Int) ∧ n < 18446744073709551616 := ⟨((x % 18446744073709551616) / 1099511627776).toNat, by omega, by omega⟩
  rw [hn, show (255 : Int) = ((255 : Nat) : Int) from rfl, bits_and_u64_nat n 255 hl (by omega)]
  have := Nat.and_le_right (n := n) (m := 255)
  rw [w64 (by omega) (by omega)]
  omega
theorem next_ex {l : List Int} (h : BtL l) (a s : Int) (h0 : 0 ≤ a) (h1 : a ≤ 2305843009213693952) : ∃ x s', spec_l1Cur_next.f l a s = some (x, a + 1, s') ∧ 0 ≤ x ∧ x ≤ 255 := by
  unfold spec_l1Cur_next.f
  have hw : wrap64 (a + 1) = a + 1 := w64 (by omega) (by omega)
  rw [hw]
  have hr := rd_bd h a
  by_cases c : a < (l.length : Int)
  · rw [if_pos c, if_pos h0]
    by_cases c2 : a + 1 ≤ (l.length : Int)
    · rw [if_pos c2]; exact ⟨_, _, rfl, by rw [w64 (by omega) (by omega)]; exact hr⟩
    · rw [if_neg c2]; exact ⟨_, _, rfl, and_bd _⟩
  · rw [if_neg c]
    by_cases c2 : a + 1 ≤ (l.length : Int)
    · rw [if_pos c2]; exact ⟨_, _, rfl, by omega, by omega⟩
    · rw [if_neg c2]; exact ⟨_, _, rfl, and_bd _⟩
theorem tmod_bd {x n : Int} (h : 0 ≤ x) (hn : 1 ≤ n) : 0 ≤ Int.tmod x n ∧ Int.tmod x n < n := ⟨Int.tmod_nonneg n h, Int.tmod_lt_of_pos x (by omega)⟩
theorem pick_ex {l : List Int} (h : BtL l) (a s n : Int) (h0 : 0 ≤ a) (h1 : a ≤ 2305843009213693000) (hn : 1 ≤ n) : ∃ x a' s', spec_l1Cur_pick.f l a s n = some (x, a', s') ∧ 0 ≤ x ∧ x < n ∧ a ≤ a' ∧ a' ≤ a + 2 := by
  unfold spec_l1Cur_pick.f
  by_cases c : n ≤ 1
  · rw [if_pos c]; exact ⟨_, _, _, rfl, by omega, by omega, by omega, by omega⟩
  · rw [if_neg c]
    obtain ⟨x, s', e, b0, b1⟩ := next_ex h a s h0 (by omega)
    rw [e]
    by_cases c2 : n > 200
    · obtain ⟨x2, s2, e2, b2, b3⟩ := next_ex h (a + 1) s' (by omega) (by omega)
      refine ⟨Int.tmod (x * 256 + x2) n, a + 1 + 1, s2, ?_, (tmod_bd (x := x * 256 + x2) (n := n) (by omega) hn).1, (tmod_bd (x := x * 256 + x2) (n := n) (by omega) hn).2, ?_, ?_⟩
      · simp only [Option.bind_some]
        rw [if_pos c2, e2]
        simp only [Option.bind_some]
        rw [if_neg (by omega), w64 (x := x * 256) (by omega) (by omega), w64 (x := x * 256 + x2) (by omega) (by omega)]
      · omega
      · omega
    · refine ⟨Int.tmod x n, a + 1, s', ?_, (tmod_bd (x := x) (n := n) b0 hn).1, (tmod_bd (x := x) (n := n) b0 hn).2, ?_, ?_⟩
      · simp only [Option.bind_some]
        rw [if_neg c2, if_neg (by omega)]
      · omega
      · omega
theorem of_ex {l : List Int} (h : BtL l) (a s : Int) (ts : List ByteArray) (h0 : 0 ≤ a) (h1 : a ≤ 2305843009213693000) (hn : 1 ≤ ts.length) : ∃ x a' s', spec_l1Cur_of.f l a s ts = some (x, a', s') ∧ x ∈ ts ∧ a ≤ a' ∧ a' ≤ a + 2 := by
  unfold spec_l1Cur_of.f
  obtain ⟨x, a', s', e, b0, b1, b2, b3⟩ := pick_ex h a s (ts.length : Int) h0 h1 (by omega)
  rw [e]
  simp only [Option.bind_some]
  rw [if_pos b0, if_pos b1]
  refine ⟨_, _, _, rfl, ?_, b2, b3⟩
  unfold rdOf
  rw [List.getD_eq_getElem?_getD, List.getElem?_eq_getElem (by omega)]
  exact List.getElem_mem (by omega)
end Go.Proofs.YtieieapacepabaaDoor.G

namespace Go.Proofs.YtieieapacepabaaDoor.G
open Go.RowKit Go.Proofs.YtieieapacepabaaDoorW.PrintWords Go.Proofs.YtieieapacepabaaDoorW.PrintLast Go.Proofs.YtieieapacepabaaDoor.B
set_option linter.unusedVariables false
set_option linter.unusedSimpArgs false
def bytesS (l : List ByteArray) : Nat := (l.map (·.size)).sum
def bulkS (l : List ByteArray) : Nat := l.length + bytesS l
theorem bytesS_cons (a : ByteArray) (l : List ByteArray) : bytesS (a :: l) = a.size + bytesS l := by simp [bytesS]
end Go.Proofs.YtieieapacepabaaDoor.G

namespace Go.Proofs.YtieieapacepabaaDoor.B
open Go.RowKit Go.Proofs.YtieieapacepabaaDoorW.PrintWords Go.Proofs.YtieieapacepabaaDoorW.PrintLast
set_option linter.unusedVariables false
set_option linter.unusedSimpArgs false
def ahd (seg : List UInt8) : List (List UInt8) → List (List UInt8)
  | [] => [seg]
  | h :: t => (seg ++ h) :: t
def spl (b : UInt8) : List UInt8 → List (List UInt8)
  | [] => [[]]
  | c :: cs => if c = b then [] :: spl b cs else ahd [c] (spl b cs)
theorem spl_cons (b c : UInt8) (cs : List UInt8) : spl b (c :: cs) = if c = b then [] :: spl b cs else ahd [c] (spl b cs) := rfl
theorem spl_ne (b : UInt8) (l : List UInt8) : spl b l ≠ [] := by
  cases l with
  | nil => simp [spl]
  | cons c cs => unfold spl; split <;> simp; unfold ahd; split <;> simp
theorem ahd_nil (p : List (List UInt8)) (h : p ≠ []) : ahd [] p = p := by cases p <;> simp_all [ahd]
theorem ahd_ahd (a b : List UInt8) (p : List (List UInt8)) : ahd a (ahd b p) = ahd (a ++ b) p := by cases p <;> simp [ahd]
theorem spl_length (b : UInt8) (l : List UInt8) : (spl b l).length ≤ l.length + 1 := by
  induction l with
  | nil => simp [spl]
  | cons c cs ih =>
    unfold spl
    split
    · simp; omega
    · cases h : spl b cs with
      | nil => exact absurd h (spl_ne b cs)
      | cons p q => rw [h] at ih; simp [ahd] at ih ⊢; omega
theorem spl_step (b : UInt8) (l : List UInt8) (from_ i : Nat) (hi : i < l.length) (hf : from_ ≤ i) :
    ahd ((l.drop from_).take (i - from_)) (spl b (l.drop i)) =
      if l[i] = b then ((l.drop from_).take (i - from_)) :: spl b (l.drop (i + 1)) else ahd ((l.drop from_).take (i + 1 - from_)) (spl b (l.drop (i + 1))) := by
  rw [List.drop_eq_getElem_cons hi, spl_cons]
  by_cases h : l[i] = b
  · rw [if_pos h, if_pos h]
    simp [ahd]
  · rw [if_neg h, if_neg h]
    have e : (l.drop from_).take (i + 1 - from_) = (l.drop from_).take (i - from_) ++ [l[i]] := by
      rw [show i + 1 - from_ = (i - from_) + 1 by omega, List.take_succ_eq_append_getElem (by rw [List.length_drop]; omega)]
      congr 2
      rw [List.getElem_drop]
      congr 1
      omega
    rw [e]
    exact ahd_ahd _ _ _
theorem spl_none (c : UInt8) : ∀ l : List UInt8, (∀ k : Nat, l[k]? ≠ some c) → spl c l = [l]
  | [], _ => rfl
  | a :: l, h => by
    have h0 : a ≠ c := fun e => h 0 (by simp [e])
    rw [spl_cons, if_neg h0, spl_none c l (fun k => by simpa using h (k + 1))]; rfl
theorem spl_first (c : UInt8) : ∀ (i : Nat) (l : List UInt8), l[i]? = some c → (∀ k : Nat, k < i → l[k]? ≠ some c) → spl c l = l.take i :: spl c (l.drop (i + 1))
  | 0, [], h, _ => by simp at h
  | 0, a :: l, h, _ => by
    have h0 : a = c := by simpa using h
    rw [spl_cons, if_pos h0]; rfl
  | i + 1, [], h, _ => by simp at h
  | i + 1, a :: l, h, hk => by
    have h0 : a ≠ c := fun e => hk 0 (by omega) (by simp [e])
    rw [spl_cons, if_neg h0, spl_first c i l (by simpa using h) (fun k hk' => by simpa using hk (k + 1) (by omega))]
    rfl
theorem indexB_one (s : ByteArray) (c : UInt8) : Lib.indexB s (mkB [c]) = Lib.indexByte (L s) c := by
  unfold Lib.indexB
  have : (mkB [c]).data.toList = [c] := L_mk [c]
  rw [this]
  exact Lib.index_one _ _
theorem splitB_spl (c : UInt8) (n : Nat) : ∀ s : ByteArray, s.size ≤ n → (Lib.splitB (mkB [c]) 0 (Lib.countB s (mkB [c])) s).map L = spl c (L s) := by
  have h1 : (mkB [c]).size = 1 := by rw [size_mk]; rfl
  induction n with
  | zero =>
    intro s hs
    rcases Lib.indexB_cases s (mkB [c]) with hm | ⟨i, hi, hr⟩
    · rw [Lib.splitB_miss _ _ _ _ hm]
      have := Lib.indexByte_none (by rw [← indexB_one]; exact hm : Lib.indexByte (L s) c = -1)
      rw [spl_none c (L s) this]; rfl
    · omega
  | succ n ih =>
    intro s hs
    rcases Lib.indexB_cases s (mkB [c]) with hm | ⟨i, hi, hr⟩
    · rw [Lib.splitB_miss _ _ _ _ hm]
      have := Lib.indexByte_none (by rw [← indexB_one]; exact hm : Lib.indexByte (L s) c = -1)
      rw [spl_none c (L s) this]; rfl
    · rw [h1] at hr
      have hc := Lib.countB_hit s (mkB [c]) i (by omega) hi
      rw [h1] at hc
      rw [hc, Nat.add_comm 1, Lib.splitB_hit _ _ _ _ i hi, h1, List.map_cons, ih (s.extract (i + 1) s.size) (by rw [ByteArray.size_extract]; omega)]
      obtain ⟨a, b⟩ := Lib.indexByte_some (by rw [← indexB_one]; exact hi : Lib.indexByte (L s) c = i)
      rw [spl_first c i (L s) a b, L_extract, L_extract]
      congr 1
      congr 1
      rw [List.take_of_length_le (by rw [List.length_drop, L_len]; omega)]
theorem splitB_eq (c : UInt8) (s : ByteArray) : Lib.splitB (mkB [c]) 0 (Lib.countB s (mkB [c])) s = (spl c (L s)).map mkB := by
  rw [← splitB_spl c s.size s (Nat.le_refl _), List.map_map]
  have : (mkB ∘ L) = id := by funext x; exact mk_L x
  rw [this, List.map_id]
end Go.Proofs.YtieieapacepabaaDoor.B

namespace Go.Proofs.YtieieapacepabaaDoor.G
open Go.RowKit Go.Proofs.YtieieapacepabaaDoorW.PrintWords Go.Proofs.YtieieapacepabaaDoorW.PrintLast Go.Proofs.YtieieapacepabaaDoor.B
set_option linter.unusedVariables false
set_option linter.unusedSimpArgs false
theorem split_loop (s : ByteArray) (b : UInt8) (hs : s.size ≤ 8796093022000) (d : Nat) : ∀ (out : List ByteArray) (f i : Nat), out.length ≤ i → f ≤ i → i ≤ s.size → s.size - i = d →
    Ev (fun k => spec_l1Split.l0 k s (b.toNat : Int) out f i) (out ++ (ahd (((L s).drop f).take (i - f)) (spl b ((L s).drop i))).map mkB) := by
  have hL : (L s).length = s.size := L_len s
  induction d with
  | zero =>
    intro out f i h0 h1 h2 hd
    have e : i = s.size := by omega
    refine Ev.step (f := fun _ => some (out ++ [s.extract f s.size])) (fun k => ?_) (ev_eq (Ev.now _) ?_)
    · simp only [spec_l1Split.l0]
      rw [if_neg (by omega), if_pos (by omega), if_pos (by omega), if_pos (by omega)]
      simp
    · rw [List.drop_of_length_le (l := L s) (i := i) (by omega)]
      simp [spl, ahd]
      apply L_inj
      rw [L_extract, L_mk, e]
  | succ d ih =>
    intro out f i h0 h1 h2 hd
    have hlt : i < s.size := by omega
    have hlt' : i < (L s).length := by omega
    rw [spl_step b (L s) f i hlt' h1]
    have hw : wrap64 ((i : Int) + 1) = ((i + 1 : Nat) : Int) := by rw [w64 (by omega) (by omega)]; rfl
    by_cases e : (L s)[i] = b
    · rw [if_pos e]
      refine Ev.step (f := fun k => spec_l1Split.l0 k s (b.toNat : Int) (out ++ [s.extract f i]) ((i + 1 : Nat) : Int) ((i + 1 : Nat) : Int)) (fun k => ?_) (ev_eq (ih (out ++ [s.extract f i]) (i + 1) (i + 1) (by simp; omega) (by omega) (by omega) (by omega)) ?_)
      · simp only [spec_l1Split.l0]
        rw [if_pos (by omega), if_pos (by omega), if_pos (by rw [bt_get s i hlt, e]), if_pos (by omega), if_pos (by omega), if_pos (by omega), if_pos (by omega), hw]
        simp
      · rw [Nat.sub_self, List.take_zero, ahd_nil _ (spl_ne b _), List.append_assoc]
        congr 1
        simp
        apply L_inj
        rw [L_extract, L_mk]
    · rw [if_neg e]
      refine Ev.step (f := fun k => spec_l1Split.l0 k s (b.toNat : Int) out f ((i + 1 : Nat) : Int)) (fun k => ?_) (ih out f (i + 1) (by omega) (by omega) (by omega) (by omega))
      simp only [spec_l1Split.l0]
      rw [if_pos (by omega), if_pos (by omega), if_neg (by rw [bt_get s i hlt]; exact fun h => e (u8_inj h)), hw]
theorem split_ev (s : ByteArray) (b : UInt8) (hs : s.size ≤ 8796093022000) : Ev (fun k => spec_l1Split.f k s (b.toNat : Int)) ((spl b (L s)).map mkB) := by
  have := split_loop s b hs s.size [] 0 0 (by simp) (by omega) (by omega) (by omega)
  unfold spec_l1Split.f
  simpa [ahd_nil _ (spl_ne b _)] using this
def upD (c : Int) : Bool := decide (65 ≤ c) && decide (c ≤ 90)
def loD (c : Int) : Bool := decide (97 ≤ c) && decide (c ≤ 122)
def leD (c : Int) : Bool := upD c || loD c
def inD (n : Nat) : Bool := decide (1 ≤ n) && decide (n ≤ 12)
theorem spec_up (c : Int) : spec_l2Upper.f c = some (upD c) := by unfold spec_l2Upper.f upD; by_cases h : 65 ≤ c <;> simp [h]
theorem spec_lo (c : Int) : spec_l2Lower.f c = some (loD c) := by unfold spec_l2Lower.f loD; by_cases h : 97 ≤ c <;> simp [h]
theorem impl_up (c : Int) : impl_isUpper.f c = some (upD c) := by unfold impl_isUpper.f upD; by_cases h : 65 ≤ c <;> simp [h]
theorem impl_lo (c : Int) : impl_isLower.f c = some (loD c) := by unfold impl_isLower.f loD; by_cases h : 97 ≤ c <;> simp [h]
theorem spec_le (c : Int) : spec_l2Letter.f c = some (leD c) := by unfold spec_l2Letter.f leD; rw [spec_up, spec_lo]; cases upD c <;> simp
theorem impl_le (c : Int) : impl_isLetter.f c = some (leD c) := by unfold impl_isLetter.f leD; rw [impl_up, impl_lo]; cases upD c <;> simp
theorem in12 (n : Nat) : (if (n : Int) ≥ 1 then some (decide ((n : Int) ≤ 12)) else some false) = some (inD n) := by
  unfold inD
  by_cases h : 1 ≤ n
  · rw [if_pos (by omega)]
    congr 1
    rw [decide_eq_true h, Bool.true_and, decide_eq_decide]; omega
  · rw [if_neg (by omega)]; simp [h]
theorem spec_in (s : ByteArray) : spec_l1In.f (s.size : Int) 1 12 = some (inD s.size) := in12 s.size
theorem impl_in (s : ByteArray) : impl_inside.f (s.size : Int) 1 12 = some (inD s.size) := in12 s.size
theorem inD_iff {n : Nat} : inD n = true ↔ 1 ≤ n ∧ n ≤ 12 := by simp [inD]
def okD (s : ByteArray) (i : Nat) : Bool := leD (bt s i) || ((decide (bt s i = 45) || decide (bt s i = 39)) && leD (bt s ((i : Int) - 1)))
def wlD (s : ByteArray) : Nat → Nat → Bool
  | 0, _ => true
  | d + 1, i => okD s i && wlD s d (i + 1)
def wordD (s : ByteArray) : Bool := inD s.size && ((leD (bt s 0) && leD (bt s ((s.size : Int) - 1))) && wlD s (s.size - 1) 1)
def greatD (s : ByteArray) : Bool := wordD s && upD (bt s 0)
theorem word_step (s : ByteArray) (i k : Nat) (h1 : 1 ≤ i) (h2 : i < s.size) (h3 : s.size ≤ 12) : spec_l2Word.l0 (k + 1) s (i : Int) = if okD s i = true then spec_l2Word.l0 k s ((i + 1 : Nat) : Int) else some false := by
  have hw : wrap64 ((i : Int) + 1) = ((i + 1 : Nat) : Int) := by rw [w64 (by omega) (by omega)]; rfl
  have hw' : wrap64 ((i : Int) - 1) = (i : Int) - 1 := w64 (by omega) (by omega)
  have a1 : (0 : Int) ≤ (i : Int) - 1 := by omega
  have a2 : (i : Int) - 1 < (s.size : Int) := by omega
  simp only [spec_l2Word.l0]
  rw [if_pos (show (i : Int) < (s.size : Int) by omega), if_pos (show (0 : Int) ≤ (i : Int) by omega), spec_le, hw, hw']
  simp only [Option.bind_some, if_pos a1, if_pos a2, spec_le]
  unfold okD
  generalize ((i + 1 : Nat) : Int) = j
  cases leD (bt s i) <;> cases leD (bt s ((i : Int) - 1)) <;> by_cases c : bt s i = 45 <;> by_cases d : bt s i = 39 <;> simp [c, d]
theorem word_loop (s : ByteArray) (hs : s.size ≤ 12) (d : Nat) : ∀ i : Nat, 1 ≤ i → i ≤ s.size → s.size - i = d → Ev (fun k => spec_l2Word.l0 k s (i : Int)) (wlD s d i) := by
  induction d with
  | zero =>
    intro i h1 h2 hd
    refine Ev.step (f := fun _ => some true) (fun k => ?_) (Ev.now _)
    simp only [spec_l2Word.l0]; rw [if_neg (by omega)]
  | succ d ih =>
    intro i h1 h2 hd
    refine Ev.step (f := fun k => if okD s i = true then spec_l2Word.l0 k s ((i + 1 : Nat) : Int) else some false) (fun k => word_step s i k h1 (by omega) hs) ?_
    unfold wlD
    cases h : okD s i with
    | true => exact ev_pos rfl (ev_eq (ih (i + 1) (by omega) (by omega) (by omega)) (by simp))
    | false => exact ev_neg (by simp) (ev_eq (Ev.now _) (by simp))
theorem loops_eq (s : ByteArray) (k : Nat) : ∀ i : Int, impl_isNameWord.l0 k s i = spec_l2Word.l0 k s i := by
  induction k with
  | zero => intro i; simp [impl_isNameWord.l0, spec_l2Word.l0]
  | succ k ih => intro i; simp only [impl_isNameWord.l0, spec_l2Word.l0, impl_le, spec_le, ih]
theorem spec_word (s : ByteArray) : Ev (fun k => spec_l2Word.f k s) (wordD s) := by
  unfold spec_l2Word.f wordD
  cases h : inD s.size with
  | false =>
    refine Ev.step (f := fun _ => some false) (fun k => ?_) (ev_eq (Ev.now _) (by simp))
    simp only [spec_in, h, Option.bind_some, spec_l2Word.j0]; simp
  | true =>
    obtain ⟨h1, h2⟩ := inD_iff.1 h
    have hw : wrap64 ((s.size : Int) - 1) = (s.size : Int) - 1 := w64 (by omega) (by omega)
    refine Ev.step (f := fun k => if (leD (bt s 0) && leD (bt s ((s.size : Int) - 1))) = true then spec_l2Word.l0 k s ((1 : Nat) : Int) else some false) (fun k => ?_) ?_
    · have a1 : (0 : Int) < (s.size : Int) := by omega
      have a2 : (0 : Int) ≤ (s.size : Int) - 1 := by omega
      have a3 : (s.size : Int) - 1 < (s.size : Int) := by omega
      simp only [spec_in, h, Option.bind_some, if_pos a1, if_pos a2, if_pos a3, hw, spec_le, spec_l2Word.j0]
      cases leD (bt s 0) <;> cases leD (bt s ((s.size : Int) - 1)) <;> simp
    · cases h3 : (leD (bt s 0) && leD (bt s ((s.size : Int) - 1))) with
      | true => exact ev_pos rfl (ev_eq (word_loop s h2 (s.size - 1) 1 (by omega) (by omega) rfl) (by simp))
      | false => exact ev_neg (by simp) (ev_eq (Ev.now _) (by simp))
theorem impl_word (s : ByteArray) : Ev (fun k => impl_isNameWord.f k s) (wordD s) := by
  unfold impl_isNameWord.f wordD
  cases h : inD s.size with
  | false =>
    refine Ev.step (f := fun _ => some false) (fun k => ?_) (ev_eq (Ev.now _) (by simp))
    simp only [impl_in, h, Option.bind_some, impl_isNameWord.j0]; simp
  | true =>
    obtain ⟨h1, h2⟩ := inD_iff.1 h
    have hw : wrap64 ((s.size : Int) - 1) = (s.size : Int) - 1 := w64 (by omega) (by omega)
    refine Ev.step (f := fun k => if (leD (bt s 0) && leD (bt s ((s.size : Int) - 1))) = true then spec_l2Word.l0 k s ((0 : Nat) : Int) else some false) (fun k => ?_) ?_
    · have a1 : (0 : Int) < (s.size : Int) := by omega
      have a2 : (0 : Int) ≤ (s.size : Int) - 1 := by omega
      have a3 : (s.size : Int) - 1 < (s.size : Int) := by omega
      simp only [impl_in, h, Option.bind_some, if_pos a1, if_pos a2, if_pos a3, hw, impl_le, impl_isNameWord.j0, loops_eq]
      cases leD (bt s 0) <;> cases leD (bt s ((s.size : Int) - 1)) <;> simp
    · cases h3 : (leD (bt s 0) && leD (bt s ((s.size : Int) - 1))) with
      | true =>
        refine ev_pos rfl (Ev.step (f := fun k => spec_l2Word.l0 k s ((1 : Nat) : Int)) (fun k => ?_) (ev_eq (word_loop s h2 (s.size - 1) 1 (by omega) (by omega) rfl) (by simp)))
        have h0 : leD (bt s 0) = true := by simp at h3; exact h3.1
        simp only [spec_l2Word.l0]
        rw [if_pos (by omega), if_pos (by omega), spec_le, show ((0 : Nat) : Int) = 0 from rfl, h0, w64 (by omega) (by omega)]
        simp
      | false => exact ev_neg (by simp) (ev_eq (Ev.now _) (by simp))
theorem word_in {s : ByteArray} (h : wordD s = true) : 1 ≤ s.size ∧ s.size ≤ 12 := by
  unfold wordD at h
  cases hi : inD s.size with
  | true => exact inD_iff.1 hi
  | false => rw [hi] at h; simp at h
theorem impl_great (s : ByteArray) : Ev (fun k => impl_isGreatWord.f k s) (greatD s) := by
  unfold impl_isGreatWord.f greatD
  refine Ev.bind (impl_word s) ?_
  cases h : wordD s with
  | true =>
    have := word_in h
    refine ev_pos rfl (ev_pos (by omega) (ev_eq (Ev.congr (f := fun _ => some (upD (bt s 0))) (fun k => by rw [impl_up]; rfl) (Ev.now _)) (by simp)))
  | false => exact ev_neg (by simp) (ev_eq (Ev.now _) (by simp))
def lowF (s : ByteArray) (j : Nat) : Bool := ((L s).drop j).all fun b => loD (b.toNat : Int)
def lowD (s : ByteArray) : Bool := lowF s 0
def wsD (l : List ByteArray) : Bool := l.all fun w => inD w.size && lowD w
theorem lowF_step (s : ByteArray) (j : Nat) (h : j < s.size) : lowF s j = (loD (bt s j) && lowF s (j + 1)) := by
  unfold lowF
  have hl : j < (L s).length := by rw [L_len]; exact h
  rw [List.drop_eq_getElem_cons hl, List.all_cons, bt_get s j h]
theorem lowF_end (s : ByteArray) (j : Nat) (h : s.size ≤ j) : lowF s j = true := by
  unfold lowF
  rw [List.drop_of_length_le (by rw [L_len]; exact h)]; rfl
theorem low_all (s : ByteArray) (h : lowD s = true) (j : Nat) (hj : j < s.size) : leD (bt s j) = true := by
  have hl : j < (L s).length := by rw [L_len]; exact hj
  have := List.all_eq_true.1 h _ (by rw [List.drop_zero]; exact List.getElem_mem hl)
  rw [bt_get s j hj]
  unfold leD
  rw [this]; simp
theorem wl_low (s : ByteArray) (h : lowD s = true) (d : Nat) : ∀ i, i + d ≤ s.size → wlD s d i = true := by
  induction d with
  | zero => intro i _; rfl
  | succ d ih =>
    intro i hi
    unfold wlD okD
    rw [low_all s h i (by omega), ih (i + 1) (by omega)]; rfl
theorem word_low (s : ByteArray) : (wordD s && lowD s) = (inD s.size && lowD s) := by
  cases h : lowD s with
  | false => simp
  | true =>
    unfold wordD
    cases hi : inD s.size with
    | false => simp
    | true =>
      obtain ⟨h1, h2⟩ := inD_iff.1 hi
      have e1 := low_all s h 0 (by omega)
      have e2 := low_all s h (s.size - 1) (by omega)
      rw [show ((s.size - 1 : Nat) : Int) = (s.size : Int) - 1 by omega] at e2
      rw [show ((0 : Nat) : Int) = 0 from rfl] at e1
      rw [e1, e2, wl_low s h (s.size - 1) 1 (by omega)]; rfl
theorem rd_get (l : List ByteArray) (i : Nat) (h : i < l.length) : rdOf ByteArray.empty l (i : Int) = l[i] := by simp [rdOf, h]
theorem spec_inner (ws : List ByteArray) (i : Nat) (hi : i < ws.length) (hs : (ws[i]).size ≤ 12) (hl : ws.length ≤ 4611686018427387904) (T : Bool) (hT : Ev (fun k => spec_l2Particle.l0 k ws ((i + 1 : Nat) : Int)) T) (d : Nat) : ∀ j : Nat, j ≤ (ws[i]).size → (ws[i]).size - j = d →
    Ev (fun k => spec_l2Particle.l1 k ws (i : Int) (j : Int)) (lowF ws[i] j && T) := by
  have hw : wrap64 ((i : Int) + 1) = ((i + 1 : Nat) : Int) := by rw [w64 (by omega) (by omega)]; rfl
  induction d with
  | zero =>
    intro j h1 hd
    refine Ev.step (f := fun k => spec_l2Particle.l0 k ws ((i + 1 : Nat) : Int)) (fun k => ?_) (ev_eq hT (by rw [lowF_end _ _ (by omega)]; simp))
    simp only [spec_l2Particle.l1, rd_get ws i hi]
    rw [if_pos (by omega), if_pos (by omega), if_neg (by omega), hw]
  | succ d ih =>
    intro j h1 hd
    rw [lowF_step _ j (by omega)]
    have hw' : wrap64 ((j : Int) + 1) = ((j + 1 : Nat) : Int) := by rw [w64 (by omega) (by omega)]; rfl
    refine Ev.step (f := fun k => if loD (bt ws[i] (j : Int)) = true then spec_l2Particle.l1 k ws (i : Int) ((j + 1 : Nat) : Int) else some false) (fun k => ?_) ?_
    · simp only [spec_l2Particle.l1, rd_get ws i hi]
      rw [if_pos (by omega), if_pos (by omega), if_pos (by omega), if_pos (by omega), hw', spec_lo]; rfl
    · cases h : loD (bt ws[i] (j : Int)) with
      | true => exact ev_pos rfl (ev_eq (ih (j + 1) (by omega) (by omega)) (by simp))
      | false => exact ev_neg (by simp) (ev_eq (Ev.now _) (by simp))
theorem spec_outer (ws : List ByteArray) (hl : ws.length ≤ 4611686018427387904) (d : Nat) : ∀ i : Nat, i ≤ ws.length → ws.length - i = d →
    Ev (fun k => spec_l2Particle.l0 k ws (i : Int)) (wsD (ws.drop i) && decide (ws.length ≤ 2)) := by
  induction d with
  | zero =>
    intro i h1 hd
    refine Ev.step (f := fun k => some (decide ((ws.length : Int) ≤ 2))) (fun k => ?_) (ev_eq (Ev.now _) ?_)
    · simp only [spec_l2Particle.l0]; rw [if_neg (by omega)]
    · rw [List.drop_of_length_le (by omega)]
      show decide _ = (true && decide _)
      rw [Bool.true_and, decide_eq_decide]; omega
  | succ d ih =>
    intro i h1 hd
    have hi : i < ws.length := by omega
    refine Ev.step (f := fun k => (spec_l2Word.f k ws[i]).bind fun t => if t = true then spec_l2Particle.l1 k ws (i : Int) ((0 : Nat) : Int) else some false) (fun k => ?_) ?_
    · simp only [spec_l2Particle.l0, rd_get ws i hi]
      rw [if_pos (by omega), if_pos (by omega)]; rfl
    · refine Ev.bind (spec_word _) ?_
      have e : (wsD (ws.drop i) && decide (ws.length ≤ 2)) = ((wordD ws[i] && lowD ws[i]) && (wsD (ws.drop (i + 1)) && decide (ws.length ≤ 2))) := by
        rw [word_low, List.drop_eq_getElem_cons hi]
        simp only [wsD, List.all_cons, Bool.and_assoc]
      rw [e]
      cases h : wordD ws[i] with
      | true => exact ev_pos rfl (ev_eq (spec_inner ws i hi (word_in h).2 hl _ (ih (i + 1) (by omega) (by omega)) _ 0 (by omega) rfl) (by simp [lowD]))
      | false => exact ev_neg (by simp) (ev_eq (Ev.now _) (by simp))
theorem impl_inner (ws ws' : List ByteArray) (n i : Nat) (w : ByteArray) (hi : i < 4611686018427387904) (hs : w.size ≤ 12) (T : Bool) (hT : Ev (fun k => impl_isParticle.l0 k ws ws' (n : Int) ((i + 1 : Nat) : Int)) T) (d : Nat) : ∀ j : Nat, j ≤ w.size → w.size - j = d →
    Ev (fun k => impl_isParticle.l1 k ws w (j : Int) ws' (n : Int) (i : Int)) (lowF w j && T) := by
  have hw : wrap64 ((i : Int) + 1) = ((i + 1 : Nat) : Int) := by rw [w64 (by omega) (by omega)]; rfl
  induction d with
  | zero =>
    intro j h1 hd
    refine Ev.step (f := fun k => impl_isParticle.l0 k ws ws' (n : Int) ((i + 1 : Nat) : Int)) (fun k => ?_) (ev_eq hT (by rw [lowF_end _ _ (by omega)]; simp))
    simp only [impl_isParticle.l1]
    rw [if_neg (by omega), hw]
  | succ d ih =>
    intro j h1 hd
    rw [lowF_step _ j (by omega)]
    have hw' : wrap64 ((j : Int) + 1) = ((j + 1 : Nat) : Int) := by rw [w64 (by omega) (by omega)]; rfl
    refine Ev.step (f := fun k => if loD (bt w (j : Int)) = true then impl_isParticle.l1 k ws w ((j + 1 : Nat) : Int) ws' (n : Int) (i : Int) else some false) (fun k => ?_) ?_
    · simp only [impl_isParticle.l1]
      rw [if_pos (by omega), if_pos (by omega), hw', impl_lo]; rfl
    · cases h : loD (bt w (j : Int)) with
      | true => exact ev_pos rfl (ev_eq (ih (j + 1) (by omega) (by omega)) (by simp))
      | false => exact ev_neg (by simp) (ev_eq (Ev.now _) (by simp))
theorem impl_outer (ws : List ByteArray) (hl : ws.length ≤ 4611686018427387904) (d : Nat) : ∀ i : Nat, i ≤ ws.length → ws.length - i = d →
    Ev (fun k => impl_isParticle.l0 k ws ws (ws.length : Int) (i : Int)) (wsD (ws.drop i) && decide (ws.length ≤ 2)) := by
  induction d with
  | zero =>
    intro i h1 hd
    refine Ev.step (f := fun k => some (decide ((ws.length : Int) ≤ 2))) (fun k => ?_) (ev_eq (Ev.now _) ?_)
    · simp only [impl_isParticle.l0]; rw [if_neg (by omega)]
    · rw [List.drop_of_length_le (by omega)]
      show decide _ = (true && decide _)
      rw [Bool.true_and, decide_eq_decide]; omega
  | succ d ih =>
    intro i h1 hd
    have hi : i < ws.length := by omega
    have e : (wsD (ws.drop i) && decide (ws.length ≤ 2)) = (inD (ws[i]).size && (lowD ws[i] && (wsD (ws.drop (i + 1)) && decide (ws.length ≤ 2)))) := by
      rw [List.drop_eq_getElem_cons hi]
      simp only [wsD, List.all_cons, Bool.and_assoc]
    rw [e]
    refine Ev.step (f := fun k => if inD (ws[i]).size = true then impl_isParticle.l1 k ws ws[i] ((0 : Nat) : Int) ws (ws.length : Int) (i : Int) else some false) (fun k => ?_) ?_
    · simp only [impl_isParticle.l0, rd_get ws i hi]
      rw [if_pos (by omega), if_pos (by omega), if_pos (by omega), impl_in]; rfl
    · cases h : inD (ws[i]).size with
      | true => exact ev_pos rfl (ev_eq (impl_inner ws ws ws.length i ws[i] (by omega) (inD_iff.1 h).2 _ (ih (i + 1) (by omega) (by omega)) _ 0 (by omega) rfl) (by simp [lowD]))
      | false => exact ev_neg (by simp) (ev_eq (Ev.now _) (by simp))
def wordsOf (s : ByteArray) : List ByteArray := (spl 32 (L s)).map mkB
def partD (s : ByteArray) : Bool := decide (s.size = 0) || (wsD (wordsOf s) && decide ((wordsOf s).length ≤ 2))
theorem wordsOf_len (s : ByteArray) : (wordsOf s).length ≤ s.size + 1 := by
  have := spl_length 32 (L s)
  rw [L_len] at this
  unfold wordsOf
  rw [List.length_map]; exact this
theorem nil_iff (s : ByteArray) : s.toList = ([] : List UInt8) ↔ s.size = 0 := by rw [toList_L, size_pos_iff]
theorem split_sp (s : ByteArray) (c : UInt8) (hs : s.size ≤ 4294967280) : strings_Split.f s (⟨#[c]⟩ : ByteArray) = some ((spl c (L s)).map mkB) := by
  have e : (⟨#[c]⟩ : ByteArray) = mkB [c] := rfl
  have h1 : (mkB [c]).size = 1 := by rw [size_mk]; rfl
  have hc := Lib.countB_le (mkB [c]) (by omega) s.size s (Nat.le_refl _)
  unfold strings_Split.f
  rw [e, if_pos ⟨by omega, by omega, Lib.splitB_all (mkB [c]) (by omega) 0 _ s rfl, by omega⟩, splitB_eq]
theorem spec_part (s : ByteArray) (hs : s.size ≤ 4294967280) : Ev (fun k => spec_l2Particle.f k s) (partD s) := by
  unfold spec_l2Particle.f partD
  by_cases h : s.size = 0
  · exact ev_pos ((nil_iff s).2 h) (ev_eq (Ev.now _) (by simp [h]))
  · refine ev_neg (fun e => h ((nil_iff s).1 e)) (Ev.bind (split_ev s 32 (by omega)) (ev_eq (spec_outer (wordsOf s) (by have := wordsOf_len s; omega) _ 0 (by omega) rfl) ?_))
    simp [h]
theorem impl_part (s : ByteArray) (hs : s.size ≤ 4294967280) : Ev (fun k => impl_isParticle.f k s) (partD s) := by
  unfold impl_isParticle.f partD
  by_cases h : s.size = 0
  · exact ev_pos ((nil_iff s).2 h) (ev_eq (Ev.now _) (by simp [h]))
  · refine ev_neg (fun e => h ((nil_iff s).1 e)) (ev_bind0 (split_sp s 32 hs) (ev_eq (impl_outer (wordsOf s) (by have := wordsOf_len s; omega) _ 0 (by omega) rfl) ?_))
    simp [h]
def sufD (S : ByteArray) : Bool := decide (S.size = 0) || wordD S
def restD (P F S : ByteArray) : Bool := partD P && (greatD F && sufD S)
def goodN (G : List ByteArray) (P F S : ByteArray) : Bool := G.all greatD && (decide (G.length ≤ 3) && restD P F S)
theorem spec_tail (P F S : ByteArray) (hP : P.size ≤ 4294967280) : Ev (fun k => (spec_l2Particle.f k P).bind fun t134 => (if t134 = true then ((spec_l2Word.f k F).bind fun t135 => (if t135 = true then (if 0 < (F.size : Int) then ((spec_l2Upper.f (bt F 0)).bind fun t136 => (if t136 = true then (if S.toList = ([] : List UInt8) then (some true) else ((spec_l2Word.f k S).bind fun t137 => (some t137))) else (some false))) else (none)) else (some false))) else (some false))) (restD P F S) := by
  unfold restD
  refine Ev.bind (spec_part P hP) ?_
  cases partD P with
  | false => exact ev_neg (by simp) (Ev.now _)
  | true =>
    refine ev_pos rfl (Ev.bind (spec_word F) ?_)
    unfold greatD
    cases h : wordD F with
    | false => exact ev_neg (by simp) (Ev.now _)
    | true =>
      have := word_in h
      refine ev_pos rfl (ev_pos (by omega) (ev_bind0 (spec_up _) ?_))
      cases upD (bt F 0) with
      | false => exact ev_neg (by simp) (Ev.now _)
      | true =>
        refine ev_pos rfl ?_
        unfold sufD
        by_cases h : S.size = 0
        · exact ev_pos ((nil_iff S).2 h) (ev_eq (Ev.now _) (by simp [h]))
        · exact ev_neg (fun e => h ((nil_iff S).1 e)) (Ev.bind (spec_word S) (ev_eq (Ev.now _) (by simp [h])))
theorem spec_good_loop (G : List ByteArray) (P F S : ByteArray) (hG : G.length ≤ 4611686018427387904) (hP : P.size ≤ 4294967280) (d : Nat) : ∀ i : Nat, i ≤ G.length → G.length - i = d →
    Ev (fun k => spec_l2Good.l0 k (i : Int) G P F S) ((G.drop i).all greatD && (decide (G.length ≤ 3) && restD P F S)) := by
  induction d with
  | zero =>
    intro i h1 hd
    refine Ev.step (f := fun k => if (G.length : Int) ≤ 3 then ((spec_l2Particle.f k P).bind fun t134 => (if t134 = true then ((spec_l2Word.f k F).bind fun t135 => (if t135 = true then (if 0 < (F.size : Int) then ((spec_l2Upper.f (bt F 0)).bind fun t136 => (if t136 = true then (if S.toList = ([] : List UInt8) then (some true) else ((spec_l2Word.f k S).bind fun t137 => (some t137))) else (some false))) else (none)) else (some false))) else (some false))) else some false) (fun k => ?_) ?_
    · simp only [spec_l2Good.l0]; rw [if_neg (by omega)]
    · rw [List.drop_of_length_le (by omega)]
      by_cases h : G.length ≤ 3
      · exact ev_pos (by omega) (ev_eq (spec_tail P F S hP) (by simp [h]))
      · exact ev_neg (by omega) (ev_eq (Ev.now _) (by simp [h]))
  | succ d ih =>
    intro i h1 hd
    have hi : i < G.length := by omega
    have hw : wrap64 ((i : Int) + 1) = ((i + 1 : Nat) : Int) := by rw [w64 (by omega) (by omega)]; rfl
    rw [List.drop_eq_getElem_cons hi, List.all_cons, Bool.and_assoc]
    refine Ev.step (f := fun k => (spec_l2Word.f k G[i]).bind fun t131 => (if t131 = true then (if 0 < ((G[i]).size : Int) then ((spec_l2Upper.f (bt G[i] 0)).bind fun t133 => (if t133 = true then (spec_l2Good.l0 k ((i + 1 : Nat) : Int) G P F S) else (some false))) else (none)) else (some false))) (fun k => ?_) ?_
    · simp only [spec_l2Good.l0, rd_get G i hi]
      rw [if_pos (by omega), if_pos (by omega), hw]
    · refine Ev.bind (spec_word _) ?_
      rw [show greatD G[i] = (wordD G[i] && upD (bt G[i] 0)) from rfl]
      cases h : wordD G[i] with
      | false => exact ev_neg (by simp) (ev_eq (Ev.now _) (by simp))
      | true =>
        have := word_in h
        refine ev_pos rfl (ev_pos (by omega) (ev_bind0 (spec_up _) ?_))
        cases upD (bt G[i] 0) with
        | false => exact ev_neg (by simp) (ev_eq (Ev.now _) (by simp))
        | true => exact ev_pos rfl (ev_eq (ih (i + 1) (by omega) (by omega)) (by simp))
theorem spec_name (G : List ByteArray) (P F S : ByteArray) (hG : G.length ≤ 4611686018427387904) (hP : P.size ≤ 4294967280) : Ev (fun k => spec_l2Good.f k G P F S) (goodN G P F S) := by
  have := spec_good_loop G P F S hG hP _ 0 (by omega) rfl
  unfold spec_l2Good.f goodN
  rw [List.drop_zero] at this
  exact this
theorem idx_loop (G : List ByteArray) (hG : G.length ≤ 4611686018427387904) (d : Nat) : ∀ i : Nat, i ≤ G.length → G.length - i = d →
    ∃ v, Ev (fun k => slices_IndexFunc_string_string_at_42.l0 k G (G.length : Int) (i : Int)) v ∧ decide (v ≥ 0) = !((G.drop i).all greatD) := by
  induction d with
  | zero =>
    intro i h1 hd
    refine ⟨-1, Ev.step (f := fun _ => some (-1)) (fun k => ?_) (Ev.now _), ?_⟩
    · simp only [slices_IndexFunc_string_string_at_42.l0]; rw [if_neg (by omega)]
    · rw [List.drop_of_length_le (by omega)]; simp
  | succ d ih =>
    intro i h1 hd
    have hi : i < G.length := by omega
    have hw : wrap64 ((i : Int) + 1) = ((i + 1 : Nat) : Int) := by rw [w64 (by omega) (by omega)]; rfl
    rw [List.drop_eq_getElem_cons hi, List.all_cons]
    have hst : ∀ v, Ev (fun k => (impl_IsValidName_1.f k G[i]).bind fun t => if t = true then some (i : Int) else slices_IndexFunc_string_string_at_42.l0 k G (G.length : Int) ((i + 1 : Nat) : Int)) v → Ev (fun k => slices_IndexFunc_string_string_at_42.l0 k G (G.length : Int) (i : Int)) v := by
      intro v hv
      refine Ev.step (fun k => ?_) hv
      simp only [slices_IndexFunc_string_string_at_42.l0, rd_get G i hi]
      rw [if_pos (by omega), if_pos (by omega), if_pos (by omega), hw]
    have hf : Ev (fun k => impl_IsValidName_1.f k G[i]) (!greatD G[i]) := by
      unfold impl_IsValidName_1.f
      exact Ev.bind (impl_great _) (Ev.now _)
    cases h : greatD G[i] with
    | true =>
      obtain ⟨v, hv, e⟩ := ih (i + 1) (by omega) (by omega)
      refine ⟨v, hst v (Ev.bind hf (ev_neg (by simp [h]) hv)), ?_⟩
      rw [e]; simp
    | false =>
      refine ⟨(i : Int), hst _ (Ev.bind hf (ev_pos (by simp [h]) (Ev.now _))), ?_⟩
      simp
theorem contains_ev (G : List ByteArray) (hG : G.length ≤ 4611686018427387904) : Ev (fun k => slices_ContainsFunc_string_string_at_42.f k G) (!(G.all greatD)) := by
  obtain ⟨v, hv, e⟩ := idx_loop G hG _ 0 (by omega) rfl
  unfold slices_ContainsFunc_string_string_at_42.f slices_IndexFunc_string_string_at_42.f
  rw [List.drop_zero] at e
  exact Ev.bind hv (ev_eq (Ev.now _) e)
theorem impl_valid (G : List ByteArray) (P F S : ByteArray) (hG : G.length ≤ 4611686018427387904) (hP : P.size ≤ 4294967280) : Ev (fun k => impl_IsValidName.f k G P F S) (goodN G P F S) := by
  have hj1 : Ev (fun k => impl_IsValidName.j0 k true G P F S) false := Ev.step (f := fun _ => some false) (fun k => by simp [impl_IsValidName.j0]) (Ev.now _)
  have hj0 : Ev (fun k => impl_IsValidName.j0 k false G P F S) (restD P F S) := by
    refine Ev.step (f := fun k => (impl_isParticle.f k P).bind fun t172 => (if t172 = true then ((impl_isGreatWord.f k F).bind fun t173 => (if t173 = true then (if S.toList = ([] : List UInt8) then (some true) else ((impl_isNameWord.f k S).bind fun t174 => (some t174))) else (some false))) else (some false))) (fun k => by simp [impl_IsValidName.j0]) ?_
    unfold restD
    refine Ev.bind (impl_part P hP) ?_
    cases partD P with
    | false => exact ev_neg (by simp) (Ev.now _)
    | true =>
      refine ev_pos rfl (Ev.bind (impl_great F) ?_)
      cases greatD F with
      | false => exact ev_neg (by simp) (Ev.now _)
      | true =>
        refine ev_pos rfl ?_
        unfold sufD
        by_cases h : S.size = 0
        · exact ev_pos ((nil_iff S).2 h) (ev_eq (Ev.now _) (by simp [h]))
        · exact ev_neg (fun e => h ((nil_iff S).1 e)) (Ev.bind (impl_word S) (ev_eq (Ev.now _) (by simp [h])))
  unfold impl_IsValidName.f goodN
  by_cases h : G.length ≤ 3
  · refine ev_neg (by omega) (Ev.bind (contains_ev G hG) ?_)
    cases G.all greatD with
    | true => exact ev_eq hj0 (by simp [h])
    | false => exact ev_eq hj1 (by simp)
  · exact ev_pos (by omega) (ev_eq hj1 (by simp [h]))
def bulkN (G : List ByteArray) (P F S : ByteArray) : Nat := bulkS G + P.size + F.size + S.size
end Go.Proofs.YtieieapacepabaaDoor.G

namespace Go.Proofs.YtieieapacepabaaDoor.G
open Go.RowKit Go.Proofs.YtieieapacepabaaDoorW.PrintWords Go.Proofs.YtieieapacepabaaDoorW.PrintLast Go.Proofs.YtieieapacepabaaDoor.B Go.Proofs.YtieieapacepabaaDoor.Opn
set_option linter.unusedVariables false
set_option linter.unusedSimpArgs false
theorem of_sz {l : List Int} (h : BtL l) (a s : Int) (ts : List ByteArray) (n : Nat) (h0 : 0 ≤ a) (h1 : a ≤ 2305843009213693000) (hn : 1 ≤ ts.length) (hs : ts.all (fun t => decide (t.size ≤ n)) = true) : ∃ x a' s', spec_l1Cur_of.f l a s ts = some (x, a', s') ∧ x.size ≤ n ∧ a ≤ a' ∧ a' ≤ a + 2 := by
  obtain ⟨x, a', s', e, hx, b, b'⟩ := of_ex h a s ts h0 h1 hn
  exact ⟨x, a', s', e, of_decide_eq_true (List.all_eq_true.1 hs x hx), b, b'⟩
theorem one_ex {l : List Int} (h : BtL l) (a s n : Int) (h0 : 0 ≤ a) (h1 : a ≤ 2305843009213693000) (hn : 1 ≤ n) : ∃ x a' s', spec_l1Cur_one.f l a s n = some (x, a', s') ∧ a ≤ a' ∧ a' ≤ a + 2 := by
  unfold spec_l1Cur_one.f
  obtain ⟨x, a', s', e, b0, b1, b2, b3⟩ := pick_ex h a s n h0 h1 hn
  rw [e]
  exact ⟨_, _, _, rfl, b2, b3⟩
theorem bulk_app (l : List ByteArray) (x : ByteArray) : bulkS (l ++ [x]) = bulkS l + x.size + 1 := by
  unfold bulkS bytesS
  simp
  omega
theorem name_j1 {c : List Int} (h : BtL c) (a s : Int) (G : List ByteArray) (P F S : ByteArray) (h0 : 0 ≤ a) (h1 : a ≤ 2305843009213692000) :
    ∃ S' a' s', Ev (fun k => spec_l1Cur_name.j1 k c a s G P F S) (G, P, F, S', a', s') ∧ S'.size ≤ S.size + 3 ∧ a ≤ a' ∧ a' ≤ a + 4 := by
  obtain ⟨b, a1, s1, e1, b1, c1⟩ := one_ex h a s 5 h0 (by omega) (by omega)
  cases b with
  | true =>
    obtain ⟨x, a2, s2, e2, hx, b2, c2⟩ := of_sz h a1 s1 [(⟨#[74, 114]⟩ : ByteArray), (⟨#[73, 73, 73]⟩ : ByteArray), (⟨#[106, 114]⟩ : ByteArray)] 3 (by omega) (by omega) (by decide) (by decide)
    refine ⟨x, a2, s2, Ev.step (f := fun _ => some (G, P, F, x, a2, s2)) (fun k => ?_) (Ev.now _), by omega, by omega, by omega⟩
    simp only [spec_l1Cur_name.j1]
    rw [e1]
    simp only [Option.bind_some]
    rw [if_pos trivial, e2]
    rfl
  | false =>
    refine ⟨S, a1, s1, Ev.step (f := fun _ => some (G, P, F, S, a1, s1)) (fun k => ?_) (Ev.now _), by omega, by omega, by omega⟩
    simp only [spec_l1Cur_name.j1]
    rw [e1]
    simp only [Option.bind_some]
    rw [if_neg (by simp)]
theorem name_l0 {c : List Int} (h : BtL c) (P F S : ByteArray) (d : Nat) : ∀ (a s : Int) (G : List ByteArray), 0 ≤ a → a + 2 * d ≤ 2305843009213690000 → bulkS G + 10 * d ≤ 1000 →
    ∃ G' P' S' a' s', Ev (fun k => spec_l1Cur_name.l0 k (d : Int) c a s G P F S) (G', P', F, S', a', s') ∧ bulkS G' ≤ bulkS G + 10 * d ∧ P'.size ≤ P.size + 7 ∧ S'.size ≤ S.size + 3 ∧ a ≤ a' ∧ a' ≤ a + 2 * d + 8 := by
  induction d with
  | zero =>
    intro a s G h0 h1 hb
    obtain ⟨b, a1, s1, e1, b1, c1⟩ := one_ex h a s 3 h0 (by omega) (by omega)
    cases b with
    | true =>
      obtain ⟨x, a2, s2, e2, hx, b2, c2⟩ := of_sz h a1 s1 [(⟨#[118, 97, 110]⟩ : ByteArray), (⟨#[100, 101]⟩ : ByteArray), (⟨#[118, 97, 110, 32, 100, 101, 114]⟩ : ByteArray)] 7 (by omega) (by omega) (by decide) (by decide)
      obtain ⟨S', a3, s3, hE, hS, b3, c3⟩ := name_j1 h a2 s2 G x F S (by omega) (by omega)
      refine ⟨G, x, S', a3, s3, Ev.step (f := fun k => spec_l1Cur_name.j1 k c a2 s2 G x F S) (fun k => ?_) hE, by omega, by omega, hS, by omega, by omega⟩
      simp only [spec_l1Cur_name.l0]
      rw [if_neg (by omega), e1]
      simp only [Option.bind_some]
      rw [if_pos trivial, e2]
      rfl
    | false =>
      obtain ⟨S', a3, s3, hE, hS, b3, c3⟩ := name_j1 h a1 s1 G P F S (by omega) (by omega)
      refine ⟨G, P, S', a3, s3, Ev.step (f := fun k => spec_l1Cur_name.j1 k c a1 s1 G P F S) (fun k => ?_) hE, by omega, by omega, hS, by omega, by omega⟩
      simp only [spec_l1Cur_name.l0]
      rw [if_neg (by omega), e1]
      simp only [Option.bind_some]
      rw [if_neg (by simp)]
  | succ d ih =>
    intro a s G h0 h1 hb
    obtain ⟨x, a1, s1, e1, hx, b1, c1⟩ := of_sz h a s [(⟨#[65, 110, 110, 97]⟩ : ByteArray), (⟨#[65]⟩ : ByteArray), (⟨#[74, 101, 97, 110, 45, 80, 97, 117, 108]⟩ : ByteArray), (⟨#[77, 97, 114, 105, 97]⟩ : ByteArray), (⟨#[66]⟩ : ByteArray), (⟨#[66, 101, 110]⟩ : ByteArray), (⟨#[74, 101, 97, 110, 45, 112, 97, 117, 108]⟩ : ByteArray)] 9 h0 (by omega) (by decide) (by decide)
    have hl : G.length ≤ bulkS G := by unfold bulkS; omega
    have hA := bulk_app G x
    obtain ⟨G', P', S', a', s', hE, hG, hP, hS, b2, c2⟩ := ih a1 s1 (G ++ [x]) (by omega) (by omega) (by omega)
    refine ⟨G', P', S', a', s', Ev.step (f := fun k => spec_l1Cur_name.l0 k (d : Int) c a1 s1 (G ++ [x]) P F S) (fun k => ?_) hE, by omega, hP, hS, by omega, by omega⟩
    simp only [spec_l1Cur_name.l0]
    rw [if_pos (by omega), e1]
    simp only [Option.bind_some]
    rw [if_pos (by omega), show wrap64 (((d + 1 : Nat) : Int) - 1) = (d : Int) from by rw [w64 (by omega) (by omega)]; omega]
theorem name_ex {c : List Int} (h : BtL c) (a s : Int) (h0 : 0 ≤ a) (h1 : a ≤ 2305843009213680000) :
    ∃ G P F S a' s', Ev (fun k => spec_l1Cur_name.f k c a s) (G, P, F, S, a', s') ∧ bulkN G P F S ≤ 100 ∧ a ≤ a' ∧ a' ≤ a + 20 := by
  unfold spec_l1Cur_name.f
  obtain ⟨x, a1, s1, e1, hx, b1, c1⟩ := of_sz h a s ([(⟨#[66, 101, 114, 103]⟩ : ByteArray), (⟨#[83, 109, 105, 116, 104]⟩ : ByteArray), (⟨#[79, 39, 78, 101, 105, 108, 108]⟩ : ByteArray), (⟨#[76, 101, 101]⟩ : ByteArray), (⟨#[66, 101, 114, 103, 45, 72, 97, 108, 108]⟩ : ByteArray), (⟨#[115, 109, 105, 116, 104, 115, 111, 110]⟩ : ByteArray)].take 5) 9 h0 (by omega) (by decide) (by decide)
  obtain ⟨n, a2, s2, e2, n0, n1, b2, c2⟩ := pick_ex h a1 s1 3 (by omega) (by omega) (by omega)
  have hd : ((n.toNat : Nat) : Int) = n := by omega
  obtain ⟨G', P', S', a', s', hE, hG, hP, hS, b3, c3⟩ := name_l0 h (⟨#[]⟩ : ByteArray) x (⟨#[]⟩ : ByteArray) n.toNat a2 s2 [] (by omega) (by omega) (by simp [bulkS, bytesS]; omega)
  rw [hd] at hE
  refine ⟨G', P', x, S', a', s', ev_bind0 rfl (ev_pos (by decide) (ev_bind0 e1 (ev_bind0 e2 hE))), ?_, by omega, by omega⟩
  have hz : bulkS ([] : List ByteArray) = 0 := by simp [bulkS, bytesS]
  have he : (⟨#[]⟩ : ByteArray).size = 0 := rfl
  unfold bulkN
  omega
theorem any_ex {c : List Int} (h : BtL c) (a s : Int) (h0 : 0 ≤ a) (h1 : a ≤ 2305843009213670000) :
    ∃ G P F S a' s', Ev (fun k => spec_l1Cur_anyName.f k c a s) (G, P, F, S, a', s') ∧ bulkN G P F S ≤ 200 ∧ a ≤ a' ∧ a' ≤ a + 30 := by
  unfold spec_l1Cur_anyName.f
  obtain ⟨G, P, F, S, a1, s1, hE, hB, b1, c1⟩ := name_ex h a s h0 (by omega)
  obtain ⟨n, a2, s2, e2, n0, n1, b2, c2⟩ := pick_ex h a1 s1 16 (by omega) (by omega) (by omega)
  by_cases z0 : n = 0
  · obtain ⟨x, a3, s3, e3, hx, b3, c3⟩ := of_sz h a2 s2 [(⟨#[]⟩ : ByteArray), (⟨#[98, 101, 114, 103]⟩ : ByteArray), (⟨#[66, 45]⟩ : ByteArray), (⟨#[66, 45, 45, 99]⟩ : ByteArray), (⟨#[65, 98, 99, 100, 101, 102, 103, 104, 105, 106, 107, 108]⟩ : ByteArray), (⟨#[65, 98, 99, 100, 101, 102, 103, 104, 105, 106, 107, 108, 109]⟩ : ByteArray), (⟨#[66, 57]⟩ : ByteArray)] 13 (by omega) (by omega) (by decide) (by decide)
    exact ⟨G, P, x, S, a3, s3, Ev.bind hE (ev_bind0 e2 (ev_pos z0 (ev_bind0 e3 (Ev.now _)))), by unfold bulkN at hB ⊢; omega, by omega, by omega⟩
  by_cases z1 : n = 1
  · obtain ⟨x, a3, s3, e3, hx, b3, c3⟩ := of_sz h a2 s2 [(⟨#[86, 97, 110]⟩ : ByteArray), (⟨#[118, 97, 110, 32, 100, 101, 114, 32, 100, 101]⟩ : ByteArray), (⟨#[118, 97, 110, 32]⟩ : ByteArray), (⟨#[100, 39]⟩ : ByteArray), (⟨#[100, 39, 97]⟩ : ByteArray), (⟨#[118, 97, 110, 32, 32, 100, 101, 114]⟩ : ByteArray)] 10 (by omega) (by omega) (by decide) (by decide)
    exact ⟨G, x, F, S, a3, s3, Ev.bind hE (ev_bind0 e2 (ev_neg z0 (ev_pos z1 (ev_bind0 e3 (Ev.now _))))), by unfold bulkN at hB ⊢; omega, by omega, by omega⟩
  by_cases z2 : n = 2
  · obtain ⟨x, a3, s3, e3, hx, b3, c3⟩ := of_sz h a2 s2 [(⟨#[45]⟩ : ByteArray), (⟨#[74, 32, 114]⟩ : ByteArray), (⟨#[120]⟩ : ByteArray)] 3 (by omega) (by omega) (by decide) (by decide)
    exact ⟨G, P, F, x, a3, s3, Ev.bind hE (ev_bind0 e2 (ev_neg z0 (ev_neg z1 (ev_pos z2 (ev_bind0 e3 (Ev.now _)))))), by unfold bulkN at hB ⊢; omega, by omega, by omega⟩
  by_cases z3 : n = 3
  · obtain ⟨x, a3, s3, e3, hx, b3, c3⟩ := of_sz h a2 s2 [(⟨#[97, 110, 110, 97]⟩ : ByteArray), (⟨#[]⟩ : ByteArray), (⟨#[67]⟩ : ByteArray), (⟨#[68, 32, 101]⟩ : ByteArray)] 4 (by omega) (by omega) (by decide) (by decide)
    have hl : G.length ≤ 100 := by unfold bulkN bulkS at hB; omega
    have he : bulkS (G ++ [x, (⟨#[69, 118, 101]⟩ : ByteArray)]) = bulkS G + x.size + 1 + 3 + 1 := by
      rw [show G ++ [x, (⟨#[69, 118, 101]⟩ : ByteArray)] = (G ++ [x]) ++ [(⟨#[69, 118, 101]⟩ : ByteArray)] by simp, bulk_app, bulk_app]
      rfl
    exact ⟨G ++ [x, (⟨#[69, 118, 101]⟩ : ByteArray)], P, F, S, a3, s3, Ev.bind hE (ev_bind0 e2 (ev_neg z0 (ev_neg z1 (ev_neg z2 (ev_pos z3 (ev_bind0 e3 (ev_bind0 rfl (ev_pos (by show G.length + 2 < _; omega) (Ev.now _))))))))), by unfold bulkN at hB ⊢; omega, by omega, by omega⟩
  exact ⟨G, P, F, S, a2, s2, Ev.bind hE (ev_bind0 e2 (ev_neg z0 (ev_neg z1 (ev_neg z2 (ev_neg z3 (Ev.now _)))))), by omega, by omega, by omega⟩
end Go.Proofs.YtieieapacepabaaDoor.G

namespace Go.Proofs.YtieieapacepabaaDoor.G
open Go.RowKit Go.Proofs.YtieieapacepabaaDoorW.PrintWords Go.Proofs.YtieieapacepabaaDoorW.PrintLast Go.Proofs.YtieieapacepabaaDoor.B
set_option linter.unusedVariables false
set_option linter.unusedSimpArgs false
def headD (x y : ByteArray) : Bool := decide (bt x 0 = bt y 0)
def fitD (x y : ByteArray) : Bool := decide (x.toList = y.toList) || ((decide (x.size = 1) && headD x y) || (decide (y.size = 1) && headD x y))
theorem spec_fit (x y : ByteArray) (hx : 1 ≤ x.size) (hy : 1 ≤ y.size) : spec_l2Fits.f x y = some (fitD x y) := by
  have a1 : (0 : Int) < (x.size : Int) := by omega
  have a2 : (0 : Int) < (y.size : Int) := by omega
  unfold spec_l2Fits.f fitD headD
  by_cases e : x.toList = y.toList
  · simp [e]
  · rw [if_neg e]
    by_cases c1 : x.size = 1
    · rw [if_pos (show (x.size : Int) = 1 by omega), if_pos a1, if_pos a2]
      by_cases c3 : bt x 0 = bt y 0
      · rw [if_pos c3]; simp [c1, c3]
      · rw [if_neg c3]
        by_cases c2 : y.size = 1
        · rw [if_pos (show (y.size : Int) = 1 by omega)]; simp [e, c1, c2, c3]
        · rw [if_neg (show ¬ (y.size : Int) = 1 by omega)]; simp [e, c1, c2, c3]
    · rw [if_neg (show ¬ (x.size : Int) = 1 by omega)]
      by_cases c2 : y.size = 1
      · rw [if_pos (show (y.size : Int) = 1 by omega), if_pos a1, if_pos a2]
        by_cases c3 : bt x 0 = bt y 0 <;> simp [e, c1, c2, c3]
      · rw [if_neg (show ¬ (y.size : Int) = 1 by omega)]; simp [e, c1, c2]
theorem pre_one (s p : ByteArray) (hp : p.size = 1) (hs : 1 ≤ s.size) : strings_HasPrefix.f s p = some (headD p s) := by
  have a1 : (s.size : Int) ≥ (p.size : Int) := by omega
  have a2 : (0 : Int) ≤ (p.size : Int) := by omega
  have a3 : (p.size : Int) ≤ (s.size : Int) := by omega
  unfold strings_HasPrefix.f stringslite_HasPrefix.f headD
  rw [if_pos a1, if_pos a2, if_pos a3]
  show some _ = some _
  congr 1
  have b1 := bt_getD p 0 (by omega)
  have b2 := bt_getD s 0 (by omega)
  rw [show ((0 : Nat) : Int) = 0 from rfl] at b1 b2
  rw [b1, b2, toList_L, toList_L, L_extract, hp]
  have l1 : (L p).length = 1 := by rw [L_len, hp]
  have l2 : 1 ≤ (L s).length := by rw [L_len]; exact hs
  revert l1 l2
  generalize L p = u
  generalize L s = v
  intro l1 l2
  match u, v, l1, l2 with
  | [a], b :: v, _, _ =>
    by_cases e : a = b
    · subst e; simp
    · have e' : ¬ b = a := fun h => e h.symm
      have e2 : ¬ a.toNat = b.toNat := fun h => e (UInt8.toNat_inj.1 h)
      simp
      rw [beq_false_of_ne e', eq_comm, decide_eq_false_iff_not]; omega
theorem head_comm (x y : ByteArray) : headD x y = headD y x := by unfold headD; rw [decide_eq_decide]; exact eq_comm
def fitL (a b : List ByteArray) : Nat → Nat → Bool
  | 0, _ => true
  | d + 1, i => fitD (rdOf ByteArray.empty a (i : Int)) (rdOf ByteArray.empty b (i : Int)) && fitL a b d (i + 1)
def tailD (P F S P' F' S' : ByteArray) : Bool := decide (P.toList = P'.toList) && (decide (F.toList = F'.toList) && (S.toList == S'.toList))
def mayD (G : List ByteArray) (P F S : ByteArray) (G' : List ByteArray) (P' F' S' : ByteArray) : Bool := fitL G G' (min G.length G'.length) 0 && tailD P F S P' F' S'
theorem rd_pos (l : List ByteArray) (i : Nat) (h : i < l.length) (hp : ∀ x ∈ l, 1 ≤ x.size) : 1 ≤ (rdOf ByteArray.empty l (i : Int)).size := by
  rw [rd_get l i h]; exact hp _ (List.getElem_mem h)
theorem spec_may_loop (G : List ByteArray) (P F S : ByteArray) (G' : List ByteArray) (P' F' S' : ByteArray) (hG : G.length ≤ 3) (hG' : G'.length ≤ 3) (hp : ∀ x ∈ G, 1 ≤ x.size) (hp' : ∀ x ∈ G', 1 ≤ x.size) (d : Nat) : ∀ i : Nat, i ≤ G.length → i ≤ G'.length → min G.length G'.length - i = d →
    Ev (fun k => spec_l2May.l0 k (i : Int) G P F S G' P' F' S') (fitL G G' d i && tailD P F S P' F' S') := by
  have hstop : ∀ i : Nat, Ev (fun k => spec_l2May.j1 k (i : Int) false G P F S G' P' F' S') (tailD P F S P' F' S') := by
    intro i
    refine Ev.step (f := fun _ => some (tailD P F S P' F' S')) (fun k => ?_) (Ev.now _)
    simp only [spec_l2May.j1]
    rw [if_neg (by simp)]
    unfold tailD
    by_cases c1 : P.toList = P'.toList <;> by_cases c2 : F.toList = F'.toList <;> simp [c1, c2]
  induction d with
  | zero =>
    intro i h1 h2 hd
    show Ev _ (true && _)
    rw [Bool.true_and]
    by_cases c : i < G.length
    · refine Ev.step (f := fun k => spec_l2May.j1 k (i : Int) false G P F S G' P' F' S') (fun k => ?_) (hstop i)
      simp only [spec_l2May.l0]
      have e : decide ((i : Int) < (G'.length : Int)) = false := decide_eq_false (by omega)
      rw [if_pos (by omega), e]
    · refine Ev.step (f := fun k => spec_l2May.j1 k (i : Int) false G P F S G' P' F' S') (fun k => ?_) (hstop i)
      simp only [spec_l2May.l0]
      rw [if_neg (by omega)]
  | succ d ih =>
    intro i h1 h2 hd
    have c1 : i < G.length := by omega
    have c2 : i < G'.length := by omega
    have hw : wrap64 ((i : Int) + 1) = ((i + 1 : Nat) : Int) := by rw [w64 (by omega) (by omega)]; rfl
    have hf := spec_fit _ _ (rd_pos G i c1 hp) (rd_pos G' i c2 hp')
    refine Ev.step (f := fun k => spec_l2May.j1 k (i : Int) true G P F S G' P' F' S') (fun k => ?_) ?_
    · simp only [spec_l2May.l0]
      have e : decide ((i : Int) < (G'.length : Int)) = true := decide_eq_true (by omega)
      rw [if_pos (by omega), e]
    · refine Ev.step (f := fun k => if fitD (rdOf ByteArray.empty G (i : Int)) (rdOf ByteArray.empty G' (i : Int)) = true then spec_l2May.l0 k ((i + 1 : Nat) : Int) G P F S G' P' F' S' else some false) (fun k => ?_) ?_
      · simp only [spec_l2May.j1]
        rw [if_pos trivial, if_pos (by omega), if_pos (by omega), if_pos (by omega), hf, hw]; rfl
      · show Ev _ ((fitD _ _ && fitL G G' d (i + 1)) && _)
        cases h : fitD (rdOf ByteArray.empty G (i : Int)) (rdOf ByteArray.empty G' (i : Int)) with
        | true => exact ev_pos rfl (ev_eq (ih (i + 1) (by omega) (by omega) (by omega)) (by simp))
        | false => exact ev_neg (by simp) (ev_eq (Ev.now _) (by simp))
theorem spec_may (G : List ByteArray) (P F S : ByteArray) (G' : List ByteArray) (P' F' S' : ByteArray) (hG : G.length ≤ 3) (hG' : G'.length ≤ 3) (hp : ∀ x ∈ G, 1 ≤ x.size) (hp' : ∀ x ∈ G', 1 ≤ x.size) :
    Ev (fun k => spec_l2May.f k G P F S G' P' F' S') (mayD G P F S G' P' F' S') :=
  spec_may_loop G P F S G' P' F' S' hG hG' hp hp' _ 0 (by omega) (by omega) rfl
theorem impl_step (G : List ByteArray) (P F S : ByteArray) (G' : List ByteArray) (P' F' S' : ByteArray) (i k : Nat) (c1 : i < G.length) (c2 : i < G'.length) (hG : G.length ≤ 3) (hp : ∀ x ∈ G, 1 ≤ x.size) (hp' : ∀ x ∈ G', 1 ≤ x.size) :
    impl_mayBeSame.l0 (k + 1) (i : Int) G P F S G' P' F' S' = if fitD (rdOf ByteArray.empty G (i : Int)) (rdOf ByteArray.empty G' (i : Int)) = true then impl_mayBeSame.l0 k ((i + 1 : Nat) : Int) G P F S G' P' F' S' else some false := by
  have hw : wrap64 ((i : Int) + 1) = ((i + 1 : Nat) : Int) := by rw [w64 (by omega) (by omega)]; rfl
  have hm : (i : Int) < mn (G.length : Int) (G'.length : Int) := by unfold mn; split <;> omega
  have hx := rd_pos G i c1 hp
  have hy := rd_pos G' i c2 hp'
  simp only [impl_mayBeSame.l0]
  rw [if_pos hm, if_pos (by omega), if_pos (by omega), if_pos (by omega), hw]
  revert hx hy
  generalize rdOf ByteArray.empty G (i : Int) = x
  generalize rdOf ByteArray.empty G' (i : Int) = y
  intro hx hy
  generalize impl_mayBeSame.l0 k ((i + 1 : Nat) : Int) G P F S G' P' F' S' = R
  unfold fitD
  by_cases e : x.toList = y.toList
  · simp [e]
  · rw [if_neg e]
    by_cases a : x.size = 1
    · rw [if_pos (by omega), pre_one y x a hy]
      by_cases b : y.size = 1
      · rw [if_pos (by omega), pre_one x y b hx, head_comm y x]
        cases headD x y <;> simp [e, a, b]
      · rw [if_neg (by omega)]
        cases headD x y <;> simp [e, a, b]
    · rw [if_neg (by omega)]
      by_cases b : y.size = 1
      · rw [if_pos (by omega), pre_one x y b hx, head_comm y x]
        cases headD x y <;> simp [e, a, b]
      · rw [if_neg (by omega)]
        simp [e, a, b]
theorem impl_may_loop (G : List ByteArray) (P F S : ByteArray) (G' : List ByteArray) (P' F' S' : ByteArray) (hG : G.length ≤ 3) (hG' : G'.length ≤ 3) (hp : ∀ x ∈ G, 1 ≤ x.size) (hp' : ∀ x ∈ G', 1 ≤ x.size) (d : Nat) : ∀ i : Nat, i ≤ G.length → i ≤ G'.length → min G.length G'.length - i = d →
    Ev (fun k => impl_mayBeSame.l0 k (i : Int) G P F S G' P' F' S') (fitL G G' d i) := by
  induction d with
  | zero =>
    intro i h1 h2 hd
    refine Ev.step (f := fun _ => some true) (fun k => ?_) (Ev.now _)
    have hm : ¬ (i : Int) < mn (G.length : Int) (G'.length : Int) := by unfold mn; split <;> omega
    simp only [impl_mayBeSame.l0]
    rw [if_neg hm]
  | succ d ih =>
    intro i h1 h2 hd
    refine Ev.step (f := fun k => if fitD (rdOf ByteArray.empty G (i : Int)) (rdOf ByteArray.empty G' (i : Int)) = true then impl_mayBeSame.l0 k ((i + 1 : Nat) : Int) G P F S G' P' F' S' else some false) (fun k => impl_step G P F S G' P' F' S' i k (by omega) (by omega) hG hp hp') ?_
    show Ev _ (fitD _ _ && fitL G G' d (i + 1))
    cases h : fitD (rdOf ByteArray.empty G (i : Int)) (rdOf ByteArray.empty G' (i : Int)) with
    | true => exact ev_pos rfl (ev_eq (ih (i + 1) (by omega) (by omega) (by omega)) (by simp))
    | false => exact ev_neg (by simp) (ev_eq (Ev.now _) (by simp))
theorem impl_may (G : List ByteArray) (P F S : ByteArray) (G' : List ByteArray) (P' F' S' : ByteArray) (hG : G.length ≤ 3) (hG' : G'.length ≤ 3) (hp : ∀ x ∈ G, 1 ≤ x.size) (hp' : ∀ x ∈ G', 1 ≤ x.size) :
    Ev (fun k => impl_mayBeSame.f k G P F S G' P' F' S') (mayD G P F S G' P' F' S') := by
  have hj1 : Ev (fun k => impl_mayBeSame.j0 k true G P F S G' P' F' S') false := Ev.step (f := fun _ => some false) (fun k => by simp [impl_mayBeSame.j0]) (Ev.now _)
  have hj0 : Ev (fun k => impl_mayBeSame.j0 k false G P F S G' P' F' S') (fitL G G' (min G.length G'.length) 0) :=
    Ev.step (f := fun k => impl_mayBeSame.l0 k ((0 : Nat) : Int) G P F S G' P' F' S') (fun k => by simp [impl_mayBeSame.j0]) (impl_may_loop G P F S G' P' F' S' hG hG' hp hp' _ 0 (by omega) (by omega) rfl)
  unfold impl_mayBeSame.f mayD tailD
  by_cases c1 : P.toList = P'.toList
  · refine ev_pos c1 ?_
    by_cases c2 : F.toList = F'.toList
    · refine ev_pos c2 ?_
      by_cases c3 : S.toList = S'.toList
      · have e : (S.toList != S'.toList) = false := by simp [c3]
        rw [e]; exact ev_eq hj0 (by simp [c1, c2, c3])
      · have e : (S.toList != S'.toList) = true := by simp [c3]
        rw [e]; exact ev_eq hj1 (by simp [c3])
    · exact ev_neg c2 (ev_eq hj1 (by simp [c2]))
  · exact ev_neg c1 (ev_eq hj1 (by simp [c1]))
theorem good_pos {G : List ByteArray} {P F S : ByteArray} (h : goodN G P F S = true) : G.length ≤ 3 ∧ ∀ x ∈ G, 1 ≤ x.size := by
  unfold goodN at h
  simp only [Bool.and_eq_true, decide_eq_true_eq] at h
  refine ⟨h.2.1, fun x hx => ?_⟩
  have := List.all_eq_true.1 h.1 x hx
  unfold greatD at this
  rw [Bool.and_eq_true] at this
  exact (word_in this.1).1
def spB : ByteArray := ⟨#[32]⟩
def glu (s p : ByteArray) : ByteArray := (if s.size ≠ 0 ∧ p.size ≠ 0 then s ++ spB else s) ++ p
def joinD (l : List ByteArray) : ByteArray := l.foldl glu ByteArray.empty
def sumB (l : List ByteArray) : Nat := (l.map fun x => x.size + 1).sum
theorem sumB_cons (a : ByteArray) (l : List ByteArray) : sumB (a :: l) = a.size + 1 + sumB l := by simp [sumB]
theorem glu_size (s p : ByteArray) : (glu s p).size ≤ s.size + (p.size + 1) := by
  unfold glu
  rw [size_append]
  split
  · rw [size_append]; show s.size + 1 + p.size ≤ _; omega
  · omega
theorem fold_size (l : List ByteArray) : ∀ s : ByteArray, (l.foldl glu s).size ≤ s.size + sumB l := by
  induction l with
  | nil => intro s; simp [sumB]
  | cons p l ih =>
    intro s
    have := ih (glu s p)
    have h2 := glu_size s p
    rw [List.foldl_cons, sumB_cons]; omega
theorem joinD_size (l : List ByteArray) : (joinD l).size ≤ sumB l := by
  have := fold_size l ByteArray.empty
  have e : ByteArray.empty.size = 0 := rfl
  unfold joinD; omega
theorem L_nil {s : ByteArray} (h : s.size = 0) : L s = [] := (size_pos_iff s).1 h
theorem L_glu (s p : ByteArray) : L (glu s p) = if s.size ≠ 0 ∧ p.size ≠ 0 then L s ++ 32 :: L p else L s ++ L p := by
  unfold glu
  rw [L_append]
  split
  · rw [L_append, List.append_assoc]; rfl
  · rfl
theorem fold_join (l : List ByteArray) : ∀ s : ByteArray, L (l.foldl glu s) = if s.size = 0 then Lib.join ((l.filter fun x => !decide (x.size = 0)).map (·.data.toList)) [32] else L s ++ Lib.joinTail [32] ((l.filter fun x => !decide (x.size = 0)).map (·.data.toList)) := by
  induction l with
  | nil =>
    intro s
    by_cases h : s.size = 0
    · rw [if_pos h]; simp [Lib.join_nil, L_nil h]
    · rw [if_neg h]; simp [Lib.joinTail]
  | cons p l ih =>
    intro s
    rw [List.foldl_cons, ih]
    by_cases hp : p.size = 0
    · have e : glu s p = s := L_inj (by rw [L_glu, if_neg (fun h => h.2 hp), L_nil hp, List.append_nil])
      rw [e, List.filter_cons_of_neg (by simp [hp])]
    · have hg : ¬ (glu s p).size = 0 := by rw [← L_len, L_glu]; split <;> simp [L_len, hp]
      rw [if_neg hg, List.filter_cons_of_pos (by simp [hp]), List.map_cons, L_glu]
      by_cases h : s.size = 0
      · rw [if_neg (fun x => x.1 h), if_pos h, L_nil h, List.nil_append, Lib.join_cons]
      · rw [if_pos (And.intro h hp), if_neg h]
        simp [Lib.joinTail]
theorem join_filter (l : List ByteArray) : Lib.join ((l.filter fun x => !decide (x.size = 0)).map (·.data.toList)) (⟨#[32]⟩ : ByteArray).data.toList = L (joinD l) := by
  have := fold_join l ByteArray.empty
  rw [if_pos (show ByteArray.empty.size = 0 from rfl)] at this
  exact this.symm
theorem filter_all {l : List ByteArray} (h : ∀ x ∈ l, 1 ≤ x.size) : (l.filter fun x => !decide (x.size = 0)) = l := by
  rw [List.filter_eq_self]
  intro x hx
  have := h x hx
  show (!decide (x.size = 0)) = true
  rw [decide_eq_false (by omega)]; rfl
theorem libJoin_filter (l : List ByteArray) (hl : l.length ≤ 1000) (hs : sumB l ≤ 140737488355328) : strings_Join.f (l.filter fun x => !decide (x.size = 0)) (⟨#[32]⟩ : ByteArray) = some (joinD l) := by
  have h1 : (l.filter fun x => !decide (x.size = 0)).length ≤ l.length := List.length_filter_le _ _
  have h2 := joinD_size l
  unfold strings_Join.f
  rw [join_filter, if_pos ⟨by omega, by rw [L_len]; omega⟩]
theorem libJoin_all (l : List ByteArray) (hp : ∀ x ∈ l, 1 ≤ x.size) (hl : l.length ≤ 1000) (hs : sumB l ≤ 140737488355328) : strings_Join.f l (⟨#[32]⟩ : ByteArray) = some (joinD l) := by
  have := libJoin_filter l hl hs
  rwa [filter_all hp] at this
theorem spaced_eq (l : List ByteArray) (h1 : 1 ≤ l.length) (hl : l.length ≤ 1000) (hs : sumB l ≤ 140737488355328) : impl_spaced.f l = some (joinD l) := by
  unfold impl_spaced.f
  rw [if_pos ⟨h1, hl⟩]
  exact libJoin_filter l hl hs
theorem spec_join_loop (l : List ByteArray) (hl : l.length ≤ 4611686018427387904) (hs : sumB l ≤ 140737488355328) (d : Nat) : ∀ (s : ByteArray) (i : Nat), i ≤ l.length → l.length - i = d → s.size + sumB (l.drop i) ≤ 140737488355328 →
    Ev (fun k => spec_l2Join.l0 k l s (i : Int)) ((l.drop i).foldl glu s) := by
  induction d with
  | zero =>
    intro s i h1 hd hb
    refine Ev.step (f := fun _ => some s) (fun k => ?_) (ev_eq (Ev.now _) ?_)
    · simp only [spec_l2Join.l0]; rw [if_neg (by omega)]
    · rw [List.drop_of_length_le (by omega)]; rfl
  | succ d ih =>
    intro s i h1 hd hb
    have hi : i < l.length := by omega
    have hw : wrap64 ((i : Int) + 1) = ((i + 1 : Nat) : Int) := by rw [w64 (by omega) (by omega)]; rfl
    rw [List.drop_eq_getElem_cons hi] at hb ⊢
    rw [sumB_cons] at hb
    have hg := glu_size s l[i]
    rw [List.foldl_cons]
    refine Ev.step (f := fun k => spec_l2Join.l0 k l (glu s l[i]) ((i + 1 : Nat) : Int)) (fun k => ?_) (ih (glu s l[i]) (i + 1) (by omega) (by omega) (by omega))
    simp only [spec_l2Join.l0, rd_get l i hi]
    have a1 : (i : Int) < (l.length : Int) := by omega
    have a2 : (0 : Int) ≤ (i : Int) := by omega
    have a3 : s.size + l[i].size ≤ 9223372036854775807 := by omega
    have a4 : s.size + 1 ≤ 9223372036854775807 := by omega
    have a5 : (s ++ (⟨#[32]⟩ : ByteArray)).size + l[i].size ≤ 9223372036854775807 := by
      rw [size_append]; show s.size + 1 + l[i].size ≤ _; omega
    simp only [if_pos a1, if_pos a2, if_pos a3, if_pos a4, if_pos a5, hw]
    unfold glu
    by_cases hs0 : s.size = 0
    · have b : s.toList = ([] : List UInt8) := (nil_iff s).2 hs0
      simp only [b, hs0, ne_eq, not_true_eq_false, false_and, if_true, if_false]
    · have b : ¬ s.toList = ([] : List UInt8) := fun e => hs0 ((nil_iff s).1 e)
      rw [if_neg b]
      by_cases hp : l[i].size = 0
      · have b2 : (l[i]).toList = ([] : List UInt8) := (nil_iff _).2 hp
        rw [if_pos b2, if_neg (fun x : s.size ≠ 0 ∧ l[i].size ≠ 0 => x.2 hp)]
      · have b2 : ¬ (l[i]).toList = ([] : List UInt8) := fun e => hp ((nil_iff _).1 e)
        rw [if_neg b2, if_pos (show s.size ≠ 0 ∧ l[i].size ≠ 0 from ⟨hs0, hp⟩)]
        rfl
theorem spec_join (l : List ByteArray) (hl : l.length ≤ 4611686018427387904) (hs : sumB l ≤ 140737488355328) : Ev (fun k => spec_l2Join.f k l) (joinD l) := by
  have := spec_join_loop l hl hs _ ByteArray.empty 0 (by omega) rfl (by rw [List.drop_zero]; show 0 + _ ≤ _; omega)
  unfold spec_l2Join.f
  rw [List.drop_zero] at this
  exact this
theorem sumB_bulk (l : List ByteArray) : sumB l = bulkS l := by
  induction l with
  | nil => rfl
  | cons a l ih => rw [sumB_cons, ih]; unfold bulkS; rw [bytesS_cons, List.length_cons]; omega
def fullD (G : List ByteArray) (P F S : ByteArray) : ByteArray := joinD [joinD G, P, F, S]
theorem full_sum (G : List ByteArray) (P F S : ByteArray) (h : bulkN G P F S ≤ 1048576) : sumB G ≤ 1048576 ∧ sumB [joinD G, P, F, S] ≤ 1048580 := by
  have h1 := joinD_size G
  have h2 := sumB_bulk G
  unfold bulkN at h
  simp only [sumB_cons]
  refine ⟨by omega, ?_⟩
  show _ + (_ + (_ + (_ + sumB []))) ≤ _
  have : sumB [] = 0 := rfl
  omega
theorem spec_full (G : List ByteArray) (P F S : ByteArray) (h : bulkN G P F S ≤ 1048576) : Ev (fun k => spec_l2Full.f k G P F S) (fullD G P F S) := by
  obtain ⟨h1, h2⟩ := full_sum G P F S h
  have hn : G.length ≤ bulkN G P F S := by unfold bulkN bulkS; omega
  unfold spec_l2Full.f spec_l2Given.f
  exact Ev.bind (Ev.bind (spec_join G (by omega) (by omega)) (Ev.now _)) (Ev.bind (spec_join _ (by simp) (by omega)) (Ev.now _))
theorem impl_full (G : List ByteArray) (P F S : ByteArray) (hg : goodN G P F S = true) (h : bulkN G P F S ≤ 1048576) : impl_fullForm.f G P F S = some (fullD G P F S) := by
  obtain ⟨h1, h2⟩ := full_sum G P F S h
  obtain ⟨h3, h4⟩ := good_pos hg
  unfold impl_fullForm.f
  rw [libJoin_all G h4 (by omega) (by omega)]
  show (impl_spaced.f [joinD G, P, F, S]).bind _ = _
  rw [spaced_eq _ (by simp) (by simp) (by omega)]
  rfl
def cmB : ByteArray := ⟨#[44, 32]⟩
def tailI (t : ByteArray) (G : List ByteArray) (S : ByteArray) : ByteArray := if S.size = 0 then (t ++ cmB) ++ joinD G else (((t ++ cmB) ++ joinD G) ++ cmB) ++ S
def invD (G : List ByteArray) (P F S : ByteArray) : ByteArray := if G.length > 0 ∨ S.size ≠ 0 then tailI (joinD [P, F]) G S else joinD [P, F]
theorem inv_sum (G : List ByteArray) (P F S : ByteArray) (h : bulkN G P F S ≤ 1048576) : (joinD G).size ≤ 1048576 ∧ sumB [P, F] ≤ 1048580 ∧ (joinD [P, F]).size ≤ 1048580 ∧ S.size ≤ 1048576 ∧ G.length ≤ 1048576 ∧ sumB G ≤ 1048576 := by
  have h1 := joinD_size G
  have h2 := sumB_bulk G
  have h3 := joinD_size [P, F]
  have h4 : sumB [P, F] = P.size + 1 + (F.size + 1 + 0) := rfl
  unfold bulkN at h
  unfold bulkS at h h2
  omega
theorem cm_size (t : ByteArray) : (t ++ (⟨#[44, 32]⟩ : ByteArray)).size = t.size + 2 := by rw [size_append]; rfl
theorem cm_size' (t : ByteArray) : ((⟨#[44, 32]⟩ : ByteArray) ++ t).size = 2 + t.size := by rw [size_append]; rfl
theorem spec_inv_j (t : ByteArray) (G : List ByteArray) (P F S : ByteArray) (ht : t.size ≤ 1048580) (h : bulkN G P F S ≤ 1048576) : Ev (fun k => spec_l2Inverse.j0 k t true G P F S) (tailI t G S) := by
  obtain ⟨b1, b2, b3, b4, b5, b6⟩ := inv_sum G P F S h
  obtain ⟨K, hK⟩ := spec_join G (by omega) (by omega)
  have hK' : ∀ k, K ≤ k → spec_l2Given.f k G P F S = some (joinD G) := fun k hk => by unfold spec_l2Given.f; rw [show spec_l2Join.f k G = some (joinD G) from hK k hk]; rfl
  refine ⟨K + 1, fun k hk => ?_⟩
  obtain ⟨k', rfl⟩ : ∃ k', k = k' + 1 := ⟨k - 1, by omega⟩
  have a1 : t.size + 2 ≤ 9223372036854775807 := by omega
  have a2 : (t ++ (⟨#[44, 32]⟩ : ByteArray)).size + (joinD G).size ≤ 9223372036854775807 := by rw [cm_size]; omega
  have a3 : ((t ++ (⟨#[44, 32]⟩ : ByteArray)) ++ joinD G).size + 2 ≤ 9223372036854775807 := by rw [size_append, cm_size]; omega
  have a4 : (((t ++ (⟨#[44, 32]⟩ : ByteArray)) ++ joinD G) ++ (⟨#[44, 32]⟩ : ByteArray)).size + S.size ≤ 9223372036854775807 := by rw [cm_size, size_append, cm_size]; omega
  simp only [spec_l2Inverse.j0]
  rw [if_pos trivial, if_pos a1, hK' k' (by omega)]
  simp only [Option.bind_some]
  rw [if_pos a2]
  unfold tailI
  by_cases c : S.size = 0
  · rw [if_pos ((nil_iff S).2 c), if_pos c]; rfl
  · rw [if_neg (fun e => c ((nil_iff S).1 e)), if_pos a3, if_pos a4, if_neg c]; rfl
theorem spec_inv (G : List ByteArray) (P F S : ByteArray) (h : bulkN G P F S ≤ 1048576) : Ev (fun k => spec_l2Inverse.f k G P F S) (invD G P F S) := by
  obtain ⟨b1, b2, b3, b4, b5, b6⟩ := inv_sum G P F S h
  have hj := spec_inv_j (joinD [P, F]) G P F S b3 h
  unfold spec_l2Inverse.f invD
  refine Ev.bind (spec_join [P, F] (by simp) (by omega)) ?_
  by_cases c : G.length > 0
  · exact ev_pos (by omega) (ev_eq hj (if_pos (Or.inl c)).symm)
  · refine ev_neg (by omega) ?_
    by_cases d : S.size = 0
    · have e : (S.toList != ([] : List UInt8)) = false := by rw [(nil_iff S).2 d]; rfl
      rw [e]
      refine Ev.step (f := fun _ => some (joinD [P, F])) (fun k => ?_) (ev_eq (Ev.now _) (if_neg (fun x => x.elim c (fun y => y d))).symm)
      simp only [spec_l2Inverse.j0]
      rw [if_neg (by simp), if_pos ((nil_iff S).2 d)]
    · have e : (S.toList != ([] : List UInt8)) = true := bne_iff_ne.2 (fun x => d ((nil_iff S).1 x))
      rw [e]
      exact ev_eq hj (if_pos (Or.inr d)).symm
theorem app3 (a b c : ByteArray) : a ++ (b ++ c) = (a ++ b) ++ c := L_inj (by simp only [L_append, List.append_assoc])
theorem impl_inv_j (t : ByteArray) (G : List ByteArray) (P F S : ByteArray) (ht : t.size ≤ 1048580) (hg : goodN G P F S = true) (h : bulkN G P F S ≤ 1048576) : Ev (fun k => impl_inverseForm.j0 k t true G P F S) (tailI t G S) := by
  obtain ⟨b1, b2, b3, b4, b5, b6⟩ := inv_sum G P F S h
  obtain ⟨h3, h4⟩ := good_pos hg
  have hK := libJoin_all G h4 (by omega) (by omega)
  refine ⟨1, fun k hk => ?_⟩
  obtain ⟨k', rfl⟩ : ∃ k', k = k' + 1 := ⟨k - 1, by omega⟩
  have a1 : 2 + (joinD G).size ≤ 9223372036854775807 := by omega
  have a2 : t.size + ((⟨#[44, 32]⟩ : ByteArray) ++ joinD G).size ≤ 9223372036854775807 := by rw [cm_size']; omega
  have a3 : 2 + S.size ≤ 9223372036854775807 := by omega
  have a4 : (t ++ ((⟨#[44, 32]⟩ : ByteArray) ++ joinD G)).size + ((⟨#[44, 32]⟩ : ByteArray) ++ S).size ≤ 9223372036854775807 := by rw [cm_size', size_append, cm_size']; omega
  simp only [impl_inverseForm.j0]
  rw [if_pos trivial, hK]
  simp only [Option.bind_some]
  rw [if_pos a1, if_pos a2]
  unfold tailI
  by_cases c : S.size = 0
  · rw [if_pos ((nil_iff S).2 c), if_pos c, app3]; rfl
  · rw [if_neg (fun e => c ((nil_iff S).1 e)), if_pos a3, if_pos a4, if_neg c, app3, app3]; rfl
theorem impl_inv (G : List ByteArray) (P F S : ByteArray) (hg : goodN G P F S = true) (h : bulkN G P F S ≤ 1048576) : Ev (fun k => impl_inverseForm.f k G P F S) (invD G P F S) := by
  obtain ⟨b1, b2, b3, b4, b5, b6⟩ := inv_sum G P F S h
  have hj := impl_inv_j (joinD [P, F]) G P F S b3 hg h
  unfold impl_inverseForm.f invD
  refine ev_bind0 (spaced_eq [P, F] (by simp) (by simp) (by omega)) ?_
  by_cases c : G.length > 0
  · exact ev_pos (by omega) (ev_eq hj (if_pos (Or.inl c)).symm)
  · refine ev_neg (by omega) ?_
    by_cases d : S.size = 0
    · have e : (S.toList != ([] : List UInt8)) = false := by rw [(nil_iff S).2 d]; rfl
      rw [e]
      refine Ev.step (f := fun _ => some (joinD [P, F])) (fun k => ?_) (ev_eq (Ev.now _) (if_neg (fun x => x.elim c (fun y => y d))).symm)
      simp only [impl_inverseForm.j0]
      rw [if_neg (by simp), if_pos ((nil_iff S).2 d)]
    · have e : (S.toList != ([] : List UInt8)) = true := bne_iff_ne.2 (fun x => d ((nil_iff S).1 x))
      rw [e]
      exact ev_eq hj (if_pos (Or.inr d)).symm
def cmpD (a b : ByteArray) : Int := if (Op.bytesLess a.toList b.toList) = true then -1 else if (Op.bytesLess b.toList a.toList) = true then 1 else 0
theorem cmp_less (a : List UInt8) : ∀ b, Lib.compareBytes a b = if (Op.bytesLess a b) = true then -1 else if (Op.bytesLess b a) = true then 1 else 0 := by
  induction a with
  | nil => intro b; cases b <;> simp [Lib.compareBytes, Op.bytesLess]
  | cons x a ih =>
    intro b
    cases b with
    | nil => simp [Lib.compareBytes, Op.bytesLess]
    | cons y b =>
      unfold Lib.compareBytes Op.bytesLess
      by_cases h1 : x < y
      · simp [h1]
      · by_cases h2 : y < x
        · have h3 : ¬ x = y := fun e => by subst e; exact h1 h2
          simp [h1, h2, h3]
        · have h3 : x = y := by
            apply UInt8.toNat_inj.1
            have a1 : ¬ x.toNat < y.toNat := h1
            have a2 : ¬ y.toNat < x.toNat := h2
            omega
          subst h3
          simp [h1, ih]
theorem impl_cmp (a b : ByteArray) : strings_Compare.f a b = some (cmpD a b) := by
  unfold strings_Compare.f cmpD
  rw [cmp_less, toList_L, toList_L]
theorem spec_cmp (a b : ByteArray) : spec_l2Text.f a b = some (cmpD a b) := by
  unfold spec_l2Text.f cmpD
  split
  · rfl
  · split <;> rfl
theorem impl_low (a : ByteArray) (h : a.size ≤ 4611686018427387904) : impl_lower.f a = some (lowB a) := by unfold impl_lower.f; rw [if_pos h]
theorem spec_low (a : ByteArray) (h : a.size ≤ 4611686018427387904) : spec_l2Low.f a = some (lowB a) := by unfold spec_l2Low.f; rw [if_pos h]
theorem lowU_lo (b : UInt8) (h : loD (b.toNat : Int) = true ∨ b = 32) : lowU b = b := by
  apply lowU_no
  rcases h with h | h
  · unfold loD at h
    simp only [Bool.and_eq_true, decide_eq_true_eq] at h
    omega
  · subst h; decide
theorem spl_mem (b : UInt8) (q : UInt8 → Prop) (l : List UInt8) : (∀ p ∈ spl b l, ∀ x ∈ p, q x) → ∀ x ∈ l, q x ∨ x = b := by
  induction l with
  | nil => intro _ x hx; cases hx
  | cons c cs ih =>
    intro h x hx
    rw [spl_cons] at h
    by_cases e : c = b
    · rw [if_pos e] at h
      rcases List.mem_cons.1 hx with rfl | hx
      · exact Or.inr e
      · exact ih (fun p hp => h p (List.mem_cons_of_mem _ hp)) x hx
    · rw [if_neg e] at h
      cases hs : spl b cs with
      | nil => exact absurd hs (spl_ne b cs)
      | cons p ps =>
        rw [hs] at h ih
        have h1 := h ([c] ++ p) (List.mem_cons_self)
        rcases List.mem_cons.1 hx with rfl | hx
        · exact Or.inl (h1 _ (by simp))
        · refine ih (fun r hr => ?_) x hx
          rcases List.mem_cons.1 hr with rfl | hr
          · exact fun z hz => h1 z (by simp [hz])
          · exact h r (List.mem_cons_of_mem _ hr)
theorem part_low {P : ByteArray} (h : partD P = true) : lowB P = P := by
  apply L_inj
  unfold lowB
  rw [L_mk]
  have hall : ∀ x ∈ L P, loD (x.toNat : Int) = true ∨ x = 32 := by
    unfold partD at h
    rw [Bool.or_eq_true] at h
    rcases h with h | h
    · rw [L_nil (of_decide_eq_true h)]; intro x hx; cases hx
    · rw [Bool.and_eq_true] at h
      refine spl_mem 32 (fun x => loD (x.toNat : Int) = true) (L P) (fun p hp x hx => ?_)
      have h1 := List.all_eq_true.1 h.1 (mkB p) (List.mem_map.2 ⟨p, hp, rfl⟩)
      rw [Bool.and_eq_true] at h1
      exact List.all_eq_true.1 h1.2 x (by rw [List.drop_zero, L_mk]; exact hx)
  conv => rhs; rw [← List.map_id (L P)]
  exact List.map_congr_left (fun x hx => lowU_lo x (hall x hx))
theorem good_part {G : List ByteArray} {P F S : ByteArray} (h : goodN G P F S = true) : lowB P = P := by
  unfold goodN restD at h
  simp only [Bool.and_eq_true] at h
  exact part_low h.2.2.1
def orI (a b : Int) : Int := if a = 0 then b else a
theorem or4 (a b c d : Int) : Ev (fun k => cmp_Or_int.f k [a, b, c, d]) (orI a (orI b (orI c d))) := by
  have st : ∀ (k i : Nat), i < 4 → cmp_Or_int.l0 (k + 1) 0 [a, b, c, d] 4 (i : Int) = if rd [a, b, c, d] (i : Int) = 0 then cmp_Or_int.l0 k 0 [a, b, c, d] 4 ((i + 1 : Nat) : Int) else some (rd [a, b, c, d] (i : Int)) := by
    intro k i hi
    have hw : wrap64 ((i : Int) + 1) = ((i + 1 : Nat) : Int) := by rw [w64 (by omega) (by omega)]; rfl
    have a3 : (i : Int) < (([a, b, c, d] : List Int).length : Int) := by show (i : Int) < 4; omega
    simp only [cmp_Or_int.l0]
    rw [if_pos (by omega), if_pos (by omega), if_pos a3, hw]
  refine ⟨5, fun k hk => ?_⟩
  obtain ⟨k', rfl⟩ : ∃ k', k = k' + 5 := ⟨k - 5, by omega⟩
  have s4 : cmp_Or_int.l0 (k' + 1) 0 [a, b, c, d] 4 ((4 : Nat) : Int) = some 0 := by
    simp only [cmp_Or_int.l0]; rw [if_neg (by omega)]
  have s3 : cmp_Or_int.l0 (k' + 2) 0 [a, b, c, d] 4 ((3 : Nat) : Int) = some (d) := by
    rw [st (k' + 1) 3 (by omega)]
    show (if d = 0 then cmp_Or_int.l0 (k' + 1) 0 [a, b, c, d] 4 ((4 : Nat) : Int) else some d) = _
    by_cases e : d = 0
    · rw [if_pos e, s4, e]
    · rw [if_neg e]
  have s2 : cmp_Or_int.l0 (k' + 3) 0 [a, b, c, d] 4 ((2 : Nat) : Int) = some (orI c d) := by
    rw [st (k' + 2) 2 (by omega)]
    show (if c = 0 then cmp_Or_int.l0 (k' + 2) 0 [a, b, c, d] 4 ((3 : Nat) : Int) else some c) = _
    by_cases e : c = 0
    · rw [if_pos e, s3]; unfold orI; rw [if_pos e]
    · rw [if_neg e]; unfold orI; rw [if_neg e]
  have s1 : cmp_Or_int.l0 (k' + 4) 0 [a, b, c, d] 4 ((1 : Nat) : Int) = some (orI b (orI c d)) := by
    rw [st (k' + 3) 1 (by omega)]
    show (if b = 0 then cmp_Or_int.l0 (k' + 3) 0 [a, b, c, d] 4 ((2 : Nat) : Int) else some b) = _
    by_cases e : b = 0
    · rw [if_pos e, s2]; unfold orI; rw [if_pos e]
    · rw [if_neg e]; unfold orI; rw [if_neg e]
  have s0 : cmp_Or_int.l0 (k' + 5) 0 [a, b, c, d] 4 ((0 : Nat) : Int) = some (orI a (orI b (orI c d))) := by
    rw [st (k' + 4) 0 (by omega)]
    show (if a = 0 then cmp_Or_int.l0 (k' + 4) 0 [a, b, c, d] 4 ((1 : Nat) : Int) else some a) = _
    by_cases e : a = 0
    · rw [if_pos e, s1]; unfold orI; rw [if_pos e]
    · rw [if_neg e]; unfold orI; rw [if_neg e]
  exact s0
def cmpND (G : List ByteArray) (P F S : ByteArray) (G' : List ByteArray) (P' F' S' : ByteArray) : Int :=
  orI (cmpD (lowB F) (lowB F')) (orI (cmpD P P') (orI (cmpD (lowB (fullD G P F S)) (lowB (fullD G' P' F' S'))) (cmpD (invD G P F S) (invD G' P' F' S'))))
theorem full_size (G : List ByteArray) (P F S : ByteArray) (h : bulkN G P F S ≤ 1048576) : (fullD G P F S).size ≤ 1048580 := Nat.le_trans (joinD_size _) (full_sum G P F S h).2
theorem bulk_parts (G : List ByteArray) (P F S : ByteArray) : P.size ≤ bulkN G P F S ∧ F.size ≤ bulkN G P F S := by unfold bulkN; omega
theorem ev_or {f g : Nat → Option Int} {a b : Int} (h : Ev g b) (hf : ∀ k, f k = if a = 0 then g k else some a) : Ev f (orI a b) := by
  unfold orI
  by_cases e : a = 0
  · rw [if_pos e]; exact Ev.congr (fun k => (hf k).trans (if_pos e)) h
  · rw [if_neg e]; exact Ev.congr (fun k => (hf k).trans (if_neg e)) (Ev.now a)
theorem spec_cmpN (G : List ByteArray) (P F S : ByteArray) (G' : List ByteArray) (P' F' S' : ByteArray) (h : bulkN G P F S ≤ 1048576) (h' : bulkN G' P' F' S' ≤ 1048576) : Ev (fun k => spec_l2Compare.f k G P F S G' P' F' S') (cmpND G P F S G' P' F' S') := by
  have b := bulk_parts G P F S
  have b' := bulk_parts G' P' F' S'
  have f := full_size G P F S h
  have f' := full_size G' P' F' S' h'
  unfold spec_l2Compare.f cmpND
  refine ev_bind0 (spec_low F (by omega)) (ev_bind0 (spec_low F' (by omega)) (ev_bind0 (spec_cmp _ _) ?_))
  refine ev_or ?_ (fun k => rfl)
  refine ev_bind0 (spec_cmp _ _) ?_
  refine ev_or ?_ (fun k => rfl)
  refine Ev.bind (spec_full G P F S h) (ev_bind0 (spec_low _ (by omega)) (Ev.bind (spec_full G' P' F' S' h') (ev_bind0 (spec_low _ (by omega)) (ev_bind0 (spec_cmp _ _) ?_))))
  refine ev_or ?_ (fun k => rfl)
  exact Ev.bind (spec_inv G P F S h) (Ev.bind (spec_inv G' P' F' S' h') (ev_bind0 (spec_cmp _ _) (Ev.now _)))
theorem impl_cmpN (G : List ByteArray) (P F S : ByteArray) (G' : List ByteArray) (P' F' S' : ByteArray) (h : bulkN G P F S ≤ 1048576) (h' : bulkN G' P' F' S' ≤ 1048576) (hg : goodN G P F S = true) (hg' : goodN G' P' F' S' = true) : Ev (fun k => impl_compareNames.f k G P F S G' P' F' S') (cmpND G P F S G' P' F' S') := by
  have b := bulk_parts G P F S
  have b' := bulk_parts G' P' F' S'
  have f := full_size G P F S h
  have f' := full_size G' P' F' S' h'
  have lp : impl_lower.f P = some P := by rw [impl_low P (by omega), good_part hg]
  have lp' : impl_lower.f P' = some P' := by rw [impl_low P' (by omega), good_part hg']
  unfold impl_compareNames.f cmpND
  refine ev_bind0 (impl_low F (by omega)) (ev_bind0 (impl_low F' (by omega)) (ev_bind0 (impl_cmp _ _) (ev_bind0 lp (ev_bind0 lp' (ev_bind0 (impl_cmp _ _) ?_)))))
  refine ev_bind0 (impl_full G P F S hg h) (ev_bind0 (impl_low _ (by omega)) (ev_bind0 (impl_full G' P' F' S' hg' h') (ev_bind0 (impl_low _ (by omega)) (ev_bind0 (impl_cmp _ _) ?_))))
  exact Ev.bind (impl_inv G P F S hg h) (Ev.bind (impl_inv G' P' F' S' hg' h') (ev_bind0 (impl_cmp _ _) (Ev.bind (or4 _ _ _ _) (Ev.now _))))
theorem spl_app (b : UInt8) (X Y : List UInt8) : spl b (X ++ b :: Y) = spl b X ++ spl b Y := by
  induction X with
  | nil => rw [List.nil_append, spl_cons, if_pos rfl]; rfl
  | cons c X ih =>
    rw [List.cons_append, spl_cons, spl_cons, ih]
    by_cases h : c = b
    · rw [if_pos h, if_pos h]; rfl
    · rw [if_neg h, if_neg h]
      cases hs : spl b X with
      | nil => exact absurd hs (spl_ne b X)
      | cons p q => rfl
theorem spl_free (b : UInt8) (l : List UInt8) (h : ∀ x ∈ l, x ≠ b) : spl b l = [l] := spl_none b l (fun k e => h b (List.mem_of_getElem? e) rfl)
theorem join_two (b : UInt8) (x y : List UInt8) (ls : List (List UInt8)) : Lib.join (x :: y :: ls) [b] = x ++ b :: Lib.join (y :: ls) [b] := by
  rw [Lib.join_cons, Lib.join_cons]; simp [Lib.joinTail]
theorem spl_join (b : UInt8) (ls : List (List UInt8)) : ∀ x : List UInt8, (∀ y ∈ x, y ≠ b) → (∀ l ∈ ls, ∀ y ∈ l, y ≠ b) → spl b (Lib.join (x :: ls) [b]) = x :: ls := by
  induction ls with
  | nil => intro x hx _; rw [Lib.join_one]; exact spl_free b x hx
  | cons y ls ih =>
    intro x hx h
    rw [join_two, spl_app, spl_free b x hx, ih y (h y (by simp)) (fun l hl => h l (by simp [hl]))]; rfl
theorem join_spl (b : UInt8) (l : List UInt8) : Lib.join (spl b l) [b] = l := by
  induction l with
  | nil => rfl
  | cons c l ih =>
    rw [spl_cons]
    cases hs : spl b l with
    | nil => exact absurd hs (spl_ne b l)
    | cons p q =>
      rw [hs] at ih
      by_cases h : c = b
      · rw [if_pos h, join_two, ih, h]; rfl
      · rw [if_neg h]
        show Lib.join (([c] ++ p) :: q) [b] = _
        rw [Lib.join_cons, List.append_assoc, ← Lib.join_cons, ih]; rfl
theorem occ_free (A X : List UInt8) (h : ∀ x ∈ A, x ≠ 44) : Lib.NoOcc (A ++ X) [44, 32] A.length := by
  intro j hj
  unfold Lib.occAt
  rw [List.drop_append_of_le_length (by omega)]
  cases hd : A.drop j with
  | nil => have := congrArg List.length hd; simp at this; omega
  | cons a r =>
    have ha : a ∈ A := List.mem_of_mem_drop (by rw [hd]; simp)
    show ((44 == a) && _) = false
    rw [beq_false_of_ne (fun e => h a ha e.symm)]; rfl
theorem index2_hit (A B : List UInt8) (h : ∀ x ∈ A, x ≠ 44) : Lib.index (A ++ 44 :: 32 :: B) [44, 32] = A.length :=
  Lib.index_hit (occ_free A _ h) (by simp) (by unfold Lib.occAt; rw [List.drop_left]; rfl)
theorem index2_none (A : List UInt8) (h : ∀ x ∈ A, x ≠ 44) : Lib.index A [44, 32] = -1 := by
  refine Lib.index_none (fun j hj => ?_)
  by_cases c : j < A.length
  · have := occ_free A [] h j c
    rwa [List.append_nil] at this
  · unfold Lib.occAt
    rw [List.drop_of_length_le (by omega)]; rfl
def sepC : ByteArray := ⟨#[44, 32]⟩
theorem sepC_L : sepC.data.toList = [44, 32] := rfl
theorem sepC_size : sepC.size = 2 := rfl
def splA (s : ByteArray) : List ByteArray := Lib.splitB sepC 0 (Lib.countB s sepC) s
theorem splA_none (s : ByteArray) (h : ∀ x ∈ L s, x ≠ 44) : splA s = [s] := by
  have hi : Lib.indexB s sepC = -1 := by unfold Lib.indexB; rw [sepC_L]; exact index2_none (L s) h
  unfold splA
  exact Lib.splitB_miss _ _ _ _ hi
theorem splA_hit (s : ByteArray) (A B : List UInt8) (h : ∀ x ∈ A, x ≠ 44) (e : L s = A ++ 44 :: 32 :: B) : splA s = mkB A :: splA (mkB B) := by
  have hi : Lib.indexB s sepC = (A.length : Nat) := by
    unfold Lib.indexB; rw [sepC_L]
    show Lib.index (L s) [44, 32] = _
    rw [e]; exact index2_hit A B h
  have hc := Lib.countB_hit s sepC A.length (by rw [sepC_size]; omega) hi
  have hx : s.extract (A.length + sepC.size) s.size = mkB B := by
    apply L_inj
    rw [L_extract, L_mk, e, sepC_size, ← List.drop_drop, List.drop_left]
    simp only [List.drop_succ_cons, List.drop_zero]
    have := congrArg List.length e
    rw [L_len] at this
    simp at this
    exact List.take_of_length_le (by omega)
  have ha : s.extract 0 (A.length + 0) = mkB A := by
    apply L_inj
    rw [L_extract, L_mk, e, List.drop_zero, Nat.add_zero, Nat.sub_zero, List.take_left]
  unfold splA
  rw [hc, Nat.add_comm 1, Lib.splitB_hit _ _ _ _ _ hi, hx, ha]
abbrev Rd := List ByteArray × ByteArray × ByteArray × ByteArray × Bool
def none5 : Rd := (([] : List ByteArray), (⟨#[]⟩ : ByteArray), (⟨#[]⟩ : ByteArray), (⟨#[]⟩ : ByteArray), false)
def finP (s : ByteArray) (G : List ByteArray) (P F S : ByteArray) : Rd := if goodN G P F S = true then (if (invD G P F S).toList = s.toList then (G, P, F, S, true) else none5) else none5
def prt (ps : List ByteArray) (i : Nat) : ByteArray := ps.getD i ByteArray.empty
def famW (p : ByteArray) : ByteArray := (wordsOf p).getLastD ByteArray.empty
def parW (p : ByteArray) : ByteArray := mkB (Lib.join ((wordsOf p).dropLast.map L) [32])
theorem wordsOf_L (p : ByteArray) : (wordsOf p).map L = spl 32 (L p) := by
  unfold wordsOf
  rw [List.map_map]
  have : (L ∘ mkB) = id := by funext x; exact L_mk x
  rw [this, List.map_id]
theorem part_size {P : ByteArray} (h : partD P = true) : P.size ≤ 26 := by
  unfold partD at h
  rw [Bool.or_eq_true] at h
  rcases h with h | h
  · have := of_decide_eq_true h; omega
  · rw [Bool.and_eq_true] at h
    have h2 := of_decide_eq_true h.2
    have e := join_spl 32 (L P)
    rw [← wordsOf_L] at e
    have hb : ∀ x ∈ (wordsOf P).map L, x.length ≤ 12 := fun x hx => by
      obtain ⟨y, hy, rfl⟩ := List.mem_map.1 hx
      have h1 := List.all_eq_true.1 h.1 y hy
      rw [Bool.and_eq_true] at h1
      have := inD_iff.1 h1.1
      rw [L_len]; omega
    have hl : (Lib.join ((wordsOf P).map L) [32]).length ≤ 26 := by
      revert hb h2
      generalize (wordsOf P) = ws
      intro h2 hb
      match ws, h2 with
      | [], _ => simp [Lib.join_nil]
      | [a], _ => have := hb (L a) (by simp); show (Lib.join [L a] [32]).length ≤ 26; rw [Lib.join_one]; omega
      | [a, b], _ =>
        have h1 := hb (L a) (by simp)
        have h2 := hb (L b) (by simp)
        simp only [List.map_cons, List.map_nil]
        rw [join_two, Lib.join_one, List.length_append, List.length_cons]; omega
      | a :: b :: c :: r, h => simp at h
    rw [e, L_len] at hl
    exact hl
structure Gd (G : List ByteArray) (P F S : ByteArray) : Prop where
  g3 : G.length ≤ 3
  gw : ∀ x ∈ G, wordD x = true
  p : partD P = true
  f : wordD F = true
  s : S.size = 0 ∨ wordD S = true
theorem gd_of {G : List ByteArray} {P F S : ByteArray} (h : goodN G P F S = true) : Gd G P F S := by
  unfold goodN restD sufD at h
  simp only [Bool.and_eq_true, Bool.or_eq_true, decide_eq_true_eq] at h
  obtain ⟨h1, h2, h3, h4, h5⟩ := h
  refine ⟨h2, fun x hx => ?_, h3, ?_, h5⟩
  · have := List.all_eq_true.1 h1 x hx
    unfold greatD at this
    rw [Bool.and_eq_true] at this
    exact this.1
  · unfold greatD at h4
    rw [Bool.and_eq_true] at h4
    exact h4.1
theorem bytes_le {G : List ByteArray} (h : ∀ x ∈ G, x.size ≤ 12) : bytesS G ≤ 12 * G.length := by
  induction G with
  | nil => exact Nat.le_refl _
  | cons a G ih =>
    have h1 := ih (fun x hx => h x (by simp [hx]))
    have h2 := h a (by simp)
    rw [bytesS_cons, List.length_cons]; omega
def implG (ps : List ByteArray) : List ByteArray := if 1 < ps.length ∧ (prt ps 1).size ≠ 0 then wordsOf (prt ps 1) else []
def implS (ps : List ByteArray) : ByteArray := if 2 < ps.length then prt ps 2 else (⟨#[]⟩ : ByteArray)
def implR (s : ByteArray) : Rd := if 3 < (splA s).length ∨ 200 < s.size then none5 else finP s (implG (splA s)) (parW (prt (splA s) 0)) (famW (prt (splA s) 0)) (implS (splA s))
theorem le_rng2 {c : Int} (h : leD c = true) : 65 ≤ c ∧ c ≤ 122 := by
  unfold leD upD loD at h
  simp only [Bool.or_eq_true, Bool.and_eq_true, decide_eq_true_eq] at h
  omega
theorem wl_at2 (s : ByteArray) (d : Nat) : ∀ i j : Nat, wlD s d i = true → i ≤ j → j < i + d → okD s j = true := by
  induction d with
  | zero => intro i j h h1 h2; omega
  | succ d ih =>
    intro i j h h1 h2
    unfold wlD at h
    rw [Bool.and_eq_true] at h
    by_cases e : j = i
    · rw [e]; exact h.1
    · exact ih (i + 1) j h.2 (by omega) (by omega)
theorem word_bytes {w : ByteArray} (h : wordD w = true) : ∀ x ∈ L w, x ≠ 44 ∧ x ≠ 32 := by
  intro x hx
  obtain ⟨j, hj, rfl⟩ := List.getElem_of_mem hx
  have hj' : j < w.size := by rw [← L_len]; exact hj
  have hb := bt_get w j hj'
  have key : 65 ≤ bt w (j : Int) ∨ bt w (j : Int) = 45 ∨ bt w (j : Int) = 39 := by
    unfold wordD at h
    simp only [Bool.and_eq_true] at h
    obtain ⟨_, ⟨h1, _⟩, h3⟩ := h
    by_cases c : j = 0
    · subst c; exact Or.inl (le_rng2 h1).1
    · have := wl_at2 w _ 1 j h3 (by omega) (by omega)
      unfold okD at this
      simp only [Bool.or_eq_true, Bool.and_eq_true, decide_eq_true_eq] at this
      rcases this with h | ⟨h, _⟩
      · exact Or.inl (le_rng2 h).1
      · exact Or.inr h
  have e44 : (44 : UInt8).toNat = 44 := rfl
  have e32 : (32 : UInt8).toNat = 32 := rfl
  constructor
  · intro e
    have := congrArg UInt8.toNat e
    omega
  · intro e
    have := congrArg UInt8.toNat e
    omega
theorem spl_mem2 (b : UInt8) (q : UInt8 → Prop) (l : List UInt8) : (∀ p ∈ spl b l, ∀ x ∈ p, q x) → ∀ x ∈ l, q x ∨ x = b := by
  induction l with
  | nil => intro _ x hx; cases hx
  | cons c cs ih =>
    intro h x hx
    rw [spl_cons] at h
    by_cases e : c = b
    · rw [if_pos e] at h
      rcases List.mem_cons.1 hx with rfl | hx
      · exact Or.inr e
      · exact ih (fun p hp => h p (List.mem_cons_of_mem _ hp)) x hx
    · rw [if_neg e] at h
      cases hs : spl b cs with
      | nil => exact absurd hs (spl_ne b cs)
      | cons p ps =>
        rw [hs] at h ih
        have h1 := h ([c] ++ p) (List.mem_cons_self)
        rcases List.mem_cons.1 hx with rfl | hx
        · exact Or.inl (h1 _ (by simp))
        · refine ih (fun r hr => ?_) x hx
          rcases List.mem_cons.1 hr with rfl | hr
          · exact fun z hz => h1 z (by simp [hz])
          · exact h r (List.mem_cons_of_mem _ hr)
theorem part_words {P : ByteArray} (h : partD P = true) (h0 : P.size ≠ 0) : (∀ w ∈ wordsOf P, 1 ≤ w.size) ∧ ∀ x ∈ L P, x ≠ 44 := by
  unfold partD at h
  rw [Bool.or_eq_true, decide_eq_true_eq] at h
  rcases h with h | h
  · exact absurd h h0
  · rw [Bool.and_eq_true] at h
    refine ⟨fun w hw => ?_, fun x hx => ?_⟩
    · have h1 := List.all_eq_true.1 h.1 w hw
      rw [Bool.and_eq_true] at h1
      exact (inD_iff.1 h1.1).1
    · have hall := spl_mem2 32 (fun x => loD (x.toNat : Int) = true) (L P) (fun p hp x hx => by
        have h1 := List.all_eq_true.1 h.1 (mkB p) (List.mem_map.2 ⟨p, hp, rfl⟩)
        rw [Bool.and_eq_true] at h1
        exact List.all_eq_true.1 h1.2 x (by rw [List.drop_zero, L_mk]; exact hx)) x hx
      rcases hall with h2 | h2
      · intro e; subst e; revert h2; decide
      · subst h2; decide
theorem joinD_L (l : List ByteArray) (h : ∀ x ∈ l, 1 ≤ x.size) : L (joinD l) = Lib.join (l.map L) [32] := by
  have := join_filter l
  rw [filter_all h] at this
  exact this.symm
theorem L_two (P F : ByteArray) (hF : 1 ≤ F.size) : L (joinD [P, F]) = if P.size = 0 then L F else L P ++ 32 :: L F := by
  have e : joinD [P, F] = glu (glu ByteArray.empty P) F := rfl
  have e0 : glu ByteArray.empty P = P := L_inj (by rw [L_glu, if_neg (fun x => x.1 rfl)]; rfl)
  rw [e, e0, L_glu]
  by_cases h : P.size = 0
  · rw [if_neg (fun x => x.1 h), if_pos h, L_nil h]; rfl
  · rw [if_pos ⟨h, by omega⟩, if_neg h]
section full
variable {G : List ByteArray} {P F S : ByteArray} (g : Gd G P F S)
include g
theorem A_free : ∀ x ∈ L (joinD [P, F]), x ≠ 44 := by
  have hF := word_in g.f
  intro x hx
  rw [L_two P F hF.1] at hx
  by_cases h : P.size = 0
  · rw [if_pos h] at hx; exact (word_bytes g.f x hx).1
  · rw [if_neg h] at hx
    rcases List.mem_append.1 hx with hx | hx
    · exact (part_words g.p h).2 x hx
    · rcases List.mem_cons.1 hx with rfl | hx
      · decide
      · exact (word_bytes g.f x hx).1
theorem A_words : wordsOf (joinD [P, F]) = (if P.size = 0 then [] else wordsOf P) ++ [F] := by
  have hF := word_in g.f
  have hf := spl_free 32 (L F) (fun x hx => (word_bytes g.f x hx).2)
  unfold wordsOf
  rw [L_two P F hF.1]
  by_cases h : P.size = 0
  · rw [if_pos h, if_pos h, hf]; simp [mk_L]
  · rw [if_neg h, if_neg h, spl_app, hf, List.map_append]; simp [mk_L]
theorem A_fam : famW (joinD [P, F]) = F := by
  unfold famW; rw [A_words g]; simp
theorem A_par : parW (joinD [P, F]) = P := by
  unfold parW
  rw [A_words g, List.dropLast_concat]
  by_cases h : P.size = 0
  · rw [if_pos h]
    apply L_inj
    rw [L_mk, L_nil h]; rfl
  · rw [if_neg h, wordsOf_L, join_spl, mk_L]
theorem G_pos : ∀ x ∈ G, 1 ≤ x.size := fun x hx => (word_in (g.gw x hx)).1
theorem B_L : L (joinD G) = Lib.join (G.map L) [32] := joinD_L G (G_pos g)
theorem B_free : ∀ x ∈ L (joinD G), x ≠ 44 := by
  rw [B_L g]
  have hw := g.gw
  clear g
  revert hw
  induction G with
  | nil => intro _ x hx; simp [Lib.join_nil] at hx
  | cons a G ih =>
    intro hw x hx
    cases G with
    | nil => rw [List.map_cons, List.map_nil, Lib.join_one] at hx; exact (word_bytes (hw a (by simp)) x hx).1
    | cons b G =>
      rw [List.map_cons, List.map_cons, join_two] at hx
      rcases List.mem_append.1 hx with hx | hx
      · exact (word_bytes (hw a (by simp)) x hx).1
      · rcases List.mem_cons.1 hx with rfl | hx
        · decide
        · exact ih (fun y hy => hw y (by simp [hy])) x (by rw [List.map_cons]; exact hx)
theorem B_words (h : G ≠ []) : wordsOf (joinD G) = G := by
  unfold wordsOf
  rw [B_L g]
  cases G with
  | nil => exact absurd rfl h
  | cons a G =>
    rw [List.map_cons, spl_join 32 (G.map L) (L a) (fun y hy => (word_bytes (g.gw a (by simp)) y hy).2) (fun l hl y hy => by
      obtain ⟨w, hw, rfl⟩ := List.mem_map.1 hl
      exact (word_bytes (g.gw w (by simp [hw])) y hy).2), ← List.map_cons, List.map_map]
    have : (mkB ∘ L) = id := by funext x; exact mk_L x
    rw [this, List.map_id]
theorem B_nil : (joinD G).size = 0 ↔ G = [] := by
  constructor
  · intro h
    cases G with
    | nil => rfl
    | cons a G =>
      have h1 := B_L g
      rw [L_nil h, List.map_cons, Lib.join_cons] at h1
      have h2 := congrArg List.length h1
      rw [List.length_append, L_len] at h2
      have := G_pos g a (by simp)
      simp at h2; omega
  · intro h; subst h; rfl
omit g in
theorem inv_L : L (invD G P F S) = if G = [] ∧ S.size = 0 then L (joinD [P, F]) else if S.size = 0 then L (joinD [P, F]) ++ 44 :: 32 :: L (joinD G) else L (joinD [P, F]) ++ 44 :: 32 :: (L (joinD G) ++ 44 :: 32 :: L S) := by
  unfold invD tailI
  have hg : G.length > 0 ↔ G ≠ [] := List.length_pos_iff
  by_cases c : G = [] ∧ S.size = 0
  · rw [if_pos c, if_neg (fun x => x.elim (fun y => hg.1 y c.1) (fun y => y c.2))]
  · have hc : G.length > 0 ∨ S.size ≠ 0 := by
      by_cases h : G = []
      · exact Or.inr (fun e => c ⟨h, e⟩)
      · exact Or.inl (hg.2 h)
    rw [if_neg c, if_pos hc]
    by_cases h : S.size = 0
    · rw [if_pos h, if_pos h]; simp only [L_append, List.append_assoc]; rfl
    · rw [if_neg h, if_neg h]; simp only [L_append, List.append_assoc]; rfl
theorem S_free : ∀ x ∈ L S, x ≠ 44 := by
  intro x hx
  rcases g.s with h | h
  · rw [L_nil h] at hx; cases hx
  · exact (word_bytes h x hx).1
theorem inv_size : (invD G P F S).size ≤ 200 := by
  have h1 := joinD_size [P, F]
  have h2 : sumB [P, F] = P.size + 1 + (F.size + 1 + 0) := rfl
  have h3 := joinD_size G
  have h4 := sumB_bulk G
  have h5 := bytes_le (G := G) (fun x hx => (word_in (g.gw x hx)).2)
  have h6 := part_size g.p
  have h7 := word_in g.f
  have h8 : S.size ≤ 12 := by rcases g.s with h | h
                              · omega
                              · exact (word_in h).2
  have h9 := g.g3
  unfold bulkS at h4
  have hl := congrArg List.length (inv_L (G := G) (P := P) (F := F) (S := S))
  rw [L_len] at hl
  rw [hl]
  split
  · rw [L_len]; omega
  · split
    · simp only [List.length_append, List.length_cons, L_len]; omega
    · simp only [List.length_append, List.length_cons, L_len]; omega
omit g in
theorem fin_yes (hg : goodN G P F S = true) : finP (invD G P F S) G P F S = (G, P, F, S, true) := by
  unfold finP; rw [if_pos hg, if_pos rfl]
theorem impl_yesP (hg : goodN G P F S = true) : implR (invD G P F S) = (G, P, F, S, true) := by
  have hz := inv_size g
  have hA := A_free g
  have hB := B_free g
  have hL := inv_L (G := G) (P := P) (F := F) (S := S)
  unfold implR
  by_cases c : G = [] ∧ S.size = 0
  · rw [if_pos c] at hL
    have e : invD G P F S = joinD [P, F] := L_inj hL
    have hs : splA (invD G P F S) = [joinD [P, F]] := by rw [e]; exact splA_none _ hA
    rw [hs, if_neg (fun x => x.elim (by simp) (by omega))]
    have e1 : implG [joinD [P, F]] = G := by rw [c.1]; exact if_neg (by simp)
    have e2 : implS [joinD [P, F]] = S := by unfold implS; rw [if_neg (by simp)]; apply L_inj; rw [L_nil c.2]
    rw [e1, e2, show prt [joinD [P, F]] 0 = joinD [P, F] from rfl, A_par g, A_fam g]
    exact fin_yes hg
  · rw [if_neg c] at hL
    by_cases h : S.size = 0
    · rw [if_pos h] at hL
      have hG : G ≠ [] := fun e => c ⟨e, h⟩
      have hs : splA (invD G P F S) = [joinD [P, F], joinD G] := by
        rw [splA_hit _ _ _ hA hL, mk_L, mk_L, splA_none _ hB]
      rw [hs, if_neg (fun x => x.elim (by simp) (by omega))]
      have e1 : implG [joinD [P, F], joinD G] = G := by
        unfold implG
        rw [if_pos ⟨by simp, fun e => hG ((B_nil g).1 e)⟩]
        exact B_words g hG
      have e2 : implS [joinD [P, F], joinD G] = S := by unfold implS; rw [if_neg (by simp)]; apply L_inj; rw [L_nil h]
      rw [e1, e2, show prt [joinD [P, F], joinD G] 0 = joinD [P, F] from rfl, A_par g, A_fam g]
      exact fin_yes hg
    · rw [if_neg h] at hL
      have hs : splA (invD G P F S) = [joinD [P, F], joinD G, S] := by
        rw [splA_hit _ _ _ hA hL, mk_L, splA_hit _ _ _ hB (L_mk _), mk_L, mk_L, splA_none _ (S_free g)]
      rw [hs, if_neg (fun x => x.elim (by simp) (by omega))]
      have e1 : implG [joinD [P, F], joinD G, S] = G := by
        unfold implG
        by_cases e : G = []
        · rw [if_neg (fun x => x.2 ((B_nil g).2 e)), e]
        · rw [if_pos ⟨by simp, fun x => e ((B_nil g).1 x)⟩]; exact B_words g e
      have e2 : implS [joinD [P, F], joinD G, S] = S := by unfold implS; rw [if_pos (by simp)]; rfl
      rw [e1, e2, show prt [joinD [P, F], joinD G, S] 0 = joinD [P, F] from rfl, A_par g, A_fam g]
      exact fin_yes hg
end full
theorem inv_inj {G : List ByteArray} {P F S : ByteArray} {G' : List ByteArray} {P' F' S' : ByteArray} (h : goodN G P F S = true) (h' : goodN G' P' F' S' = true) (e : invD G P F S = invD G' P' F' S') : (G, P, F, S, true) = (G', P', F', S', true) := by
  rw [← impl_yesP (gd_of h) h, ← impl_yesP (gd_of h') h', e]
end Go.Proofs.YtieieapacepabaaDoor.G

namespace Go.Proofs.YtieieapacepabaaDoor.Pure
open Go.RowKit Go.Proofs.YtieieapacepabaaDoor.G Go.Proofs.YtieieapacepabaaDoorW.PrintWords Go.Proofs.YtieieapacepabaaDoorW.PrintLast Go.Proofs.YtieieapacepabaaDoor.B Go.Proofs.YtieieapacepabaaDoor.Opn
set_option linter.unusedVariables false
set_option linter.unusedSimpArgs false
def cmp2 (G : List ByteArray) (P F S : ByteArray) (G' : List ByteArray) (P' F' S' : ByteArray) : Int × Bool := if goodN G P F S = true then (if goodN G' P' F' S' = true then (cmpND G P F S G' P' F' S', true) else (0, false)) else (0, false)
theorem spec_c (G : List ByteArray) (P F S : ByteArray) (G' : List ByteArray) (P' F' S' : ByteArray) (h : bulkN G P F S ≤ 1048576) (h' : bulkN G' P' F' S' ≤ 1048576) : Ev (fun k => spec_CompareNames.f k G P F S G' P' F' S') (cmp2 G P F S G' P' F' S') := by
  have hn : G.length ≤ bulkN G P F S ∧ P.size ≤ bulkN G P F S := by unfold bulkN bulkS; omega
  have hn' : G'.length ≤ bulkN G' P' F' S' ∧ P'.size ≤ bulkN G' P' F' S' := by unfold bulkN bulkS; omega
  unfold spec_CompareNames.f cmp2
  refine Ev.bind (spec_name G P F S (by omega) (by omega)) (ev_ite (fun hg => ?_) (fun _ => Ev.now _))
  exact Ev.bind (spec_name G' P' F' S' (by omega) (by omega)) (ev_ite (fun hg' => Ev.bind (spec_cmpN G P F S G' P' F' S' h h') (Ev.now _)) (fun _ => Ev.now _))
theorem impl_c (G : List ByteArray) (P F S : ByteArray) (G' : List ByteArray) (P' F' S' : ByteArray) (h : bulkN G P F S ≤ 1048576) (h' : bulkN G' P' F' S' ≤ 1048576) : Ev (fun k => impl_CompareNames.f k G P F S G' P' F' S') (cmp2 G P F S G' P' F' S') := by
  have hn : G.length ≤ bulkN G P F S ∧ P.size ≤ bulkN G P F S := by unfold bulkN bulkS; omega
  have hn' : G'.length ≤ bulkN G' P' F' S' ∧ P'.size ≤ bulkN G' P' F' S' := by unfold bulkN bulkS; omega
  unfold impl_CompareNames.f cmp2
  refine Ev.bind (impl_valid G P F S (by omega) (by omega)) (ev_ite (fun hg => ?_) (fun _ => Ev.now _))
  exact Ev.bind (impl_valid G' P' F' S' (by omega) (by omega)) (ev_ite (fun hg' => Ev.bind (impl_cmpN G P F S G' P' F' S' h h' hg hg') (Ev.now _)) (fun _ => Ev.now _))
def may2 (G : List ByteArray) (P F S : ByteArray) (G' : List ByteArray) (P' F' S' : ByteArray) : Bool × Bool := if goodN G P F S = true then (if goodN G' P' F' S' = true then (mayD G P F S G' P' F' S', true) else (false, false)) else (false, false)
theorem spec_m (G : List ByteArray) (P F S : ByteArray) (G' : List ByteArray) (P' F' S' : ByteArray) (hG : G.length ≤ 4611686018427387904) (hP : P.size ≤ 4294967280) (hG' : G'.length ≤ 4611686018427387904) (hP' : P'.size ≤ 4294967280) : Ev (fun k => spec_MayBeSame.f k G P F S G' P' F' S') (may2 G P F S G' P' F' S') := by
  unfold spec_MayBeSame.f may2
  refine Ev.bind (spec_name G P F S hG hP) ?_
  by_cases h : goodN G P F S = true
  · rw [if_pos h]
    refine ev_pos h (Ev.bind (spec_name G' P' F' S' hG' hP') ?_)
    by_cases h' : goodN G' P' F' S' = true
    · rw [if_pos h']
      obtain ⟨a, b⟩ := good_pos h
      obtain ⟨a', b'⟩ := good_pos h'
      exact ev_pos h' (Ev.bind (spec_may G P F S G' P' F' S' a a' b b') (Ev.now _))
    · rw [if_neg h']; exact ev_neg h' (Ev.now _)
  · rw [if_neg h]; exact ev_neg h (Ev.now _)
theorem impl_m (G : List ByteArray) (P F S : ByteArray) (G' : List ByteArray) (P' F' S' : ByteArray) (hG : G.length ≤ 4611686018427387904) (hP : P.size ≤ 4294967280) (hG' : G'.length ≤ 4611686018427387904) (hP' : P'.size ≤ 4294967280) : Ev (fun k => impl_MayBeSame.f k G P F S G' P' F' S') (may2 G P F S G' P' F' S') := by
  unfold impl_MayBeSame.f may2
  refine Ev.bind (impl_valid G P F S hG hP) ?_
  by_cases h : goodN G P F S = true
  · rw [if_pos h]
    refine ev_pos h (Ev.bind (impl_valid G' P' F' S' hG' hP') ?_)
    by_cases h' : goodN G' P' F' S' = true
    · rw [if_pos h']
      obtain ⟨a, b⟩ := good_pos h
      obtain ⟨a', b'⟩ := good_pos h'
      exact ev_pos h' (Ev.bind (impl_may G P F S G' P' F' S' a a' b b') (Ev.now _))
    · rw [if_neg h']; exact ev_neg h' (Ev.now _)
  · rw [if_neg h]; exact ev_neg h (Ev.now _)
theorem vT_loop (d : Nat) : ∀ (a b : List ByteArray) (i : Nat), a.length = b.length → a.length < 4611686018427387904 → a.length - i = d → i ≤ a.length →
    Ev (fun k => laws_vTexts.l0 k a b i) (decide (a.drop i = b.drop i)) := by
  induction d with
  | zero =>
    intro a b i hl hm hd hi
    refine Ev.step (f := fun _ => some (decide (a.drop i = b.drop i))) (fun k => ?_) (Ev.now _)
    simp only [laws_vTexts.l0]
    rw [if_neg (by omega), List.drop_of_length_le (by omega), List.drop_of_length_le (by omega)]
    simp
  | succ d ih =>
    intro a b i hl hm hd hi
    have hlt : i < a.length := by omega
    have hlt' : i < b.length := by omega
    have hw : wrap64 ((i : Int) + 1) = ((i + 1 : Nat) : Int) := by rw [w64 (by omega) (by omega)]; rfl
    by_cases e : a[i] = b[i]
    · refine Ev.step (f := fun k => laws_vTexts.l0 k a b ((i + 1 : Nat) : Int)) (fun k => ?_) (ev_eq (ih a b (i + 1) hl hm (by omega) (by omega)) ?_)
      · simp only [laws_vTexts.l0]
        rw [if_pos (by omega), if_pos (by omega), if_pos (by omega), if_pos (by simp [rdOf, hlt, hlt', e]), hw]
      · simp only [List.drop_eq_getElem_cons hlt, List.drop_eq_getElem_cons hlt', e, List.cons.injEq, true_and]
    · refine Ev.step (f := fun _ => some (decide (a.drop i = b.drop i))) (fun k => ?_) (Ev.now _)
      simp only [laws_vTexts.l0]
      rw [if_pos (by omega), if_pos (by omega), if_pos (by omega), if_neg (by simp [rdOf, hlt, hlt', toList_eq_iff, e])]
      simp only [List.drop_eq_getElem_cons hlt, List.drop_eq_getElem_cons hlt', List.cons.injEq, e, false_and, decide_false]
theorem vT_ev (a b : List ByteArray) (ha : a.length < 4611686018427387904) (hb : b.length < 4611686018427387904) : Ev (fun k => laws_vTexts.f k a b) (decide (a = b)) := by
  unfold laws_vTexts.f
  by_cases h : a.length = b.length
  · exact ev_pos (by omega) (ev_eq (vT_loop a.length a b 0 h ha rfl (by omega)) (by simp))
  · exact ev_neg (by omega) (ev_eq (Ev.now false) (by rw [eq_comm, decide_eq_false_iff_not]; rintro rfl; exact h rfl))
theorem vN_ev (G : List ByteArray) (P F S : ByteArray) (G' : List ByteArray) (P' F' S' : ByteArray) (h : G.length < 4611686018427387904) (h' : G'.length < 4611686018427387904) : Ev (fun k => laws_vName.f k G P F S G' P' F' S') (decide (G = G') && (decide (P = P') && (decide (F = F') && decide (S = S')))) := by
  unfold laws_vName.f
  refine Ev.bind (vT_ev G G' h h') ?_
  by_cases e1 : G = G'
  · refine ev_pos (by simpa using e1) ?_
    by_cases e2 : P = P'
    · refine ev_pos (by rw [e2]) ?_
      by_cases e3 : F = F'
      · refine ev_pos (by rw [e3]) (ev_eq (Ev.now _) ?_)
        rw [decide_eq_true e1, decide_eq_true e2, decide_eq_true e3]
        by_cases e4 : S = S'
        · simp [e4]
        · have : ¬ S.toList = S'.toList := fun z => e4 (toList_eq_iff.1 z)
          simp [e4, this]
      · exact ev_neg (fun z => e3 (toList_eq_iff.1 z)) (ev_eq (Ev.now _) (by simp [e3]))
    · exact ev_neg (fun z => e2 (toList_eq_iff.1 z)) (ev_eq (Ev.now _) (by simp [e2]))
  · exact ev_neg (by simpa using e1) (ev_eq (Ev.now _) (by simp [e1]))
theorem less_asym (a b : List UInt8) (h : Op.bytesLess a b = true) : Op.bytesLess b a = false := by
  rw [← Go.Proofs.YtieieapacepabaaDoor.Ext.str_tri a b, h]; rfl
theorem cmpD_neg (a b : ByteArray) : cmpD b a = - cmpD a b := by
  unfold cmpD
  by_cases h : Op.bytesLess a.toList b.toList = true
  · rw [if_neg (by rw [less_asym _ _ h]; decide), if_pos h, if_pos h]; rfl
  · by_cases h2 : Op.bytesLess b.toList a.toList = true
    · rw [if_pos h2, if_neg h, if_pos h2]
    · rw [if_neg h2, if_neg h, if_neg h, if_neg h2]; rfl
theorem cmpD_self (a : ByteArray) : cmpD a a = 0 := by
  unfold cmpD
  rw [Go.Proofs.YtieieapacepabaaDoor.Ext.str_irr]; rfl
theorem cmpD_zero {a b : ByteArray} (h : cmpD a b = 0) : a = b := by
  unfold cmpD at h
  by_cases h1 : Op.bytesLess a.toList b.toList = true
  · rw [if_pos h1] at h; cases h
  · rw [if_neg h1] at h
    by_cases h2 : Op.bytesLess b.toList a.toList = true
    · rw [if_pos h2] at h; cases h
    · have t := Go.Proofs.YtieieapacepabaaDoor.Ext.str_tri a.toList b.toList
      rw [Bool.eq_false_iff.2 h1, Bool.eq_false_iff.2 h2] at t
      have : (a.toList == b.toList) = true := by simpa using t
      exact toList_eq_iff.1 (by simpa using this)
theorem cmpD_bd (a b : ByteArray) : -1 ≤ cmpD a b ∧ cmpD a b ≤ 1 := by
  unfold cmpD
  split
  · exact ⟨by decide, by decide⟩
  · split <;> exact ⟨by decide, by decide⟩
theorem orI_neg (a b : Int) : orI (-a) (-b) = - orI a b := by
  unfold orI
  by_cases h : a = 0
  · rw [if_pos h, if_pos (by omega)]
  · rw [if_neg h, if_neg (by omega)]
theorem orI_zero {a b : Int} (h : orI a b = 0) : b = 0 := by
  unfold orI at h
  by_cases z : a = 0
  · rwa [if_pos z] at h
  · rw [if_neg z] at h; exact absurd h z
theorem orI_bd {a b : Int} (ha : -1 ≤ a ∧ a ≤ 1) (hb : -1 ≤ b ∧ b ≤ 1) : -1 ≤ orI a b ∧ orI a b ≤ 1 := by
  unfold orI
  split
  · exact hb
  · exact ha
theorem cmpND_neg (G : List ByteArray) (P F S : ByteArray) (G' : List ByteArray) (P' F' S' : ByteArray) : cmpND G' P' F' S' G P F S = - cmpND G P F S G' P' F' S' := by
  unfold cmpND
  rw [cmpD_neg (lowB F) (lowB F'), cmpD_neg P P', cmpD_neg (lowB (fullD G P F S)), cmpD_neg (invD G P F S), orI_neg, orI_neg, orI_neg]
theorem cmpND_bd (G : List ByteArray) (P F S : ByteArray) (G' : List ByteArray) (P' F' S' : ByteArray) : -1 ≤ cmpND G P F S G' P' F' S' ∧ cmpND G P F S G' P' F' S' ≤ 1 := by
  unfold cmpND
  exact orI_bd (cmpD_bd _ _) (orI_bd (cmpD_bd _ _) (orI_bd (cmpD_bd _ _) (cmpD_bd _ _)))
theorem cmpND_self (G : List ByteArray) (P F S : ByteArray) : cmpND G P F S G P F S = 0 := by
  unfold cmpND
  rw [cmpD_self, cmpD_self, cmpD_self, cmpD_self]; rfl
theorem cmpND_zero {G : List ByteArray} {P F S : ByteArray} {G' : List ByteArray} {P' F' S' : ByteArray} (hg : goodN G P F S = true) (hg' : goodN G' P' F' S' = true) (h : cmpND G P F S G' P' F' S' = 0) : G = G' ∧ P = P' ∧ F = F' ∧ S = S' := by
  unfold cmpND at h
  have e := inv_inj hg hg' (cmpD_zero (orI_zero (orI_zero (orI_zero h))))
  simp only [Prod.mk.injEq] at e
  exact ⟨e.1, e.2.1, e.2.2.1, e.2.2.2.1⟩
theorem fit_comm (x y : ByteArray) : fitD x y = fitD y x := by
  unfold fitD
  rw [head_comm x y, show decide (x.toList = y.toList) = decide (y.toList = x.toList) by rw [decide_eq_decide]; exact eq_comm, Bool.or_comm (decide (x.size = 1) && headD y x)]
theorem fitL_comm (a b : List ByteArray) (d : Nat) : ∀ i, fitL a b d i = fitL b a d i := by
  induction d with
  | zero => intro i; rfl
  | succ d ih => intro i; unfold fitL; rw [fit_comm, ih]
theorem fitL_self (a : List ByteArray) (d : Nat) : ∀ i, fitL a a d i = true := by
  induction d with
  | zero => intro i; rfl
  | succ d ih => intro i; unfold fitL; rw [ih]; simp [fitD]
theorem tail_comm (P F S P' F' S' : ByteArray) : tailD P F S P' F' S' = tailD P' F' S' P F S := by
  unfold tailD
  rw [show decide (P.toList = P'.toList) = decide (P'.toList = P.toList) by rw [decide_eq_decide]; exact eq_comm, show decide (F.toList = F'.toList) = decide (F'.toList = F.toList) by rw [decide_eq_decide]; exact eq_comm, BEq.comm (a := S.toList)]
theorem may_comm (G : List ByteArray) (P F S : ByteArray) (G' : List ByteArray) (P' F' S' : ByteArray) : mayD G' P' F' S' G P F S = mayD G P F S G' P' F' S' := by
  unfold mayD
  rw [fitL_comm, tail_comm, Nat.min_comm]
theorem may_self (G : List ByteArray) (P F S : ByteArray) : mayD G P F S G P F S = true := by
  unfold mayD tailD
  rw [fitL_self]; simp
theorem may2_comm (G : List ByteArray) (P F S : ByteArray) (G' : List ByteArray) (P' F' S' : ByteArray) : may2 G' P' F' S' G P F S = may2 G P F S G' P' F' S' := by
  unfold may2
  rw [may_comm]
  by_cases a : goodN G P F S = true <;> by_cases b : goodN G' P' F' S' = true <;> simp [a, b]
theorem cmp2_ok (G : List ByteArray) (P F S : ByteArray) (G' : List ByteArray) (P' F' S' : ByteArray) : (cmp2 G' P' F' S' G P F S).2 = (cmp2 G P F S G' P' F' S').2 := by
  unfold cmp2
  by_cases a : goodN G P F S = true <;> by_cases b : goodN G' P' F' S' = true <;> simp [a, b]
theorem cmp2_neg (G : List ByteArray) (P F S : ByteArray) (G' : List ByteArray) (P' F' S' : ByteArray) : (cmp2 G' P' F' S' G P F S).1 = wrap64 (-(cmp2 G P F S G' P' F' S').1) := by
  have hb := cmpND_bd G P F S G' P' F' S'
  unfold cmp2
  rw [cmpND_neg]
  have w0 : wrap64 (-0) = 0 := by rw [w64 (by omega) (by omega)]; rfl
  by_cases a : goodN G P F S = true <;> by_cases b : goodN G' P' F' S' = true <;> simp only [a, b, if_true, if_false, Bool.false_eq_true] <;> first | exact w0.symm | (rw [w64 (by omega) (by omega)])
theorem two_ex {c : List Int} (h : BtL c) : ∃ G P F S G' P' F' S', Ev (fun k => spec_DrawCompareNames.f k c) (G, P, F, S, G', P', F', S') ∧ bulkN G P F S ≤ 1048576 ∧ bulkN G' P' F' S' ≤ 1048576 := by
  unfold spec_DrawCompareNames.f spec_l1Cur_twoNames.f
  obtain ⟨G, P, F, S, a1, s1, hE, hB, b1, c1⟩ := any_ex h 0 0 (by omega) (by omega)
  obtain ⟨G', P', F', S', a2, s2, hE', hB', b2, c2⟩ := any_ex h a1 s1 (by omega) (by omega)
  obtain ⟨b, a3, s3, e3, b3, c3⟩ := one_ex h a2 s2 2 (by omega) (by omega) (by omega)
  cases b with
  | true => exact ⟨G, P, F, S, G', P, F, S, Ev.bind (Ev.bind hE (Ev.bind hE' (ev_bind0 e3 (ev_pos rfl (Ev.now _))))) (Ev.now _), by omega, by unfold bulkN at hB hB' ⊢; omega⟩
  | false => exact ⟨G, P, F, S, G', P', F', S', Ev.bind (Ev.bind hE (Ev.bind hE' (ev_bind0 e3 (ev_neg (by simp) (Ev.now _))))) (Ev.now _), by omega, by omega⟩
theorem FnNameOrder : laws_FnNameOrder.Pur := by
  intro l0 hl
  apply Ev.rounds
  unfold laws_FnNameOrder.f laws_vBig.f
  refine ev_bind0 (a := decide ((l0.length : Int) > 65536)) rfl ?_
  by_cases c : (l0.length : Int) > 65536
  · exact ev_pos (by simpa using c) (Ev.now _)
  refine ev_neg (by simpa using c) ?_
  obtain ⟨G, P, F, S, G', P', F', S', hd, hB, hB'⟩ := two_ex (bt_of hl (by omega))
  have hn : G.length ≤ bulkN G P F S ∧ P.size ≤ bulkN G P F S := by unfold bulkN bulkS; omega
  have hn' : G'.length ≤ bulkN G' P' F' S' ∧ P'.size ≤ bulkN G' P' F' S' := by unfold bulkN bulkS; omega
  have m1 := impl_m G P F S G' P' F' S' (by omega) (by omega) (by omega) (by omega)
  have m2 := impl_m G' P' F' S' G P F S (by omega) (by omega) (by omega) (by omega)
  have m3 := spec_m G P F S G' P' F' S' (by omega) (by omega) (by omega) (by omega)
  rw [may2_comm] at m2
  refine Ev.bind hd (Ev.bind (impl_c G P F S G' P' F' S' hB hB') (Ev.bind (impl_c G' P' F' S' G P F S hB' hB) (Ev.bind (spec_c G P F S G' P' F' S' hB hB') (ev_pos rfl (ev_neg (by simp) (ev_neg (by simp [cmp2_ok G P F S G' P' F' S']) ?_))))))
  have e : ((cmp2 G' P' F' S' G P F S).1 != wrap64 (-(cmp2 G P F S G' P' F' S').1)) = false := by rw [cmp2_neg]; simp
  rw [e]
  refine Ev.step (f := fun k => (impl_MayBeSame.f k G P F S G' P' F' S').bind fun bt765 => ((impl_MayBeSame.f k G' P' F' S' G P F S).bind fun bt767 => ((spec_MayBeSame.f k G P F S G' P' F' S').bind fun bt769 => (if (bt765.1 != bt769.1) = true then (some false) else (if (bt765.2 != bt769.2) = true then (some false) else (if (bt767.2 != bt765.2) = true then (some false) else (if (bt767.1 != bt765.1) = true then (some false) else (if (cmp2 G P F S G' P' F' S').2 = true then ((laws_vName.f k G P F S G' P' F' S').bind fun t771 => (if (((cmp2 G P F S G' P' F' S').1 == 0) == t771) = true then (if (cmp2 G P F S G' P' F' S').1 = 0 then (some bt765.1) else (some true)) else (some false))) else (some true))))))))) (fun k => by simp only [laws_FnNameOrder.j0]; rw [if_neg (by decide)]) ?_
  refine Ev.bind m1 (Ev.bind m2 (Ev.bind m3 (ev_neg (by simp) (ev_neg (by simp) (ev_neg (by simp) (ev_neg (by simp) ?_))))))
  by_cases g : goodN G P F S = true ∧ goodN G' P' F' S' = true
  · have ec : cmp2 G P F S G' P' F' S' = (cmpND G P F S G' P' F' S', true) := by unfold cmp2; rw [if_pos g.1, if_pos g.2]
    have em : may2 G P F S G' P' F' S' = (mayD G P F S G' P' F' S', true) := by unfold may2; rw [if_pos g.1, if_pos g.2]
    rw [ec, em]
    refine ev_pos rfl (Ev.bind (vN_ev G P F S G' P' F' S' (by omega) (by omega)) ?_)
    by_cases z : cmpND G P F S G' P' F' S' = 0
    · obtain ⟨rfl, rfl, rfl, rfl⟩ := cmpND_zero g.1 g.2 z
      exact ev_pos (by simp [z]) (ev_pos z (ev_eq (Ev.now _) (may_self _ _ _ _)))
    · refine ev_pos ?_ (ev_neg z (Ev.now _))
      have : (decide (G = G') && (decide (P = P') && (decide (F = F') && decide (S = S')))) = false := by
        rw [Bool.eq_false_iff]
        intro h
        simp only [Bool.and_eq_true, decide_eq_true_eq] at h
        obtain ⟨rfl, rfl, rfl, rfl⟩ := h
        exact z (cmpND_self _ _ _ _)
      rw [this]
      simp [z]
  · have ec : (cmp2 G P F S G' P' F' S').2 = false := by
      unfold cmp2
      by_cases a : goodN G P F S = true
      · have b : ¬ goodN G' P' F' S' = true := fun b => g ⟨a, b⟩
        rw [if_pos a, if_neg b]
      · rw [if_neg a]
    exact ev_neg (by rw [ec]; decide) (Ev.now _)
end Go.Proofs.YtieieapacepabaaDoor.Pure
