/- Texts of this session for the law FnExactInitialsOf, put together by a program (merge.py): each ends with its namespace; conditions stand with each theorem. -/
import Derived.Test.YtcckamdpncbkoaaDoorKFnExactInitialsOf1
import Derived.Test.YtcckamdpncbkoaaDoorKFnExactInitialsOf2
import Derived.Test.YtcckamdpncbkoaaDoorKFnExactInitialsOf3
namespace Go.Proofs.YtcckamdpncbkoaaDoor.G
open Go.RowKit Go.Proofs.YtcckamdpncbkoaaDoorW.PrintWords Go.Proofs.YtcckamdpncbkoaaDoorW.PrintLast Go.Proofs.YtcckamdpncbkoaaDoorW.PrintMore
open Go.Proofs.YtcckamdpncbkoaaDoor.Gl Go.Proofs.YtcckamdpncbkoaaDoor.Ext
attribute [local go_sem] max2_int min2_int max_two min_two max_three min_three max_four min_four   -- for this text's walks alone
set_option linter.unusedVariables false
set_option linter.unusedSimpArgs false

/-! ### impl_spaced: function 82 -/
def impl_spaced.f (l0 : List ByteArray) : Option ByteArray := if 1 ≤ l0.length ∧ l0.length ≤ 1000 then strings_Join.f (l0.filter fun x => !decide (x.size = 0)) (⟨#[32]⟩ : ByteArray) else none
theorem impl_spaced.pred (x : ByteArray) (W : World) : FnGives Tryd.prog 101 #[] #[Value.string x] (.bool (decide (x.size = 0))) W := by
  show Calls Tryd.prog 101 #[.string x] W _
  have e : (x.toList == ([] : List UInt8)) = decide (x.size = 0) := by
    rw [Lib.toList_data, Lib.size_eq]
    cases x.data.toList <;> simp
  go_enter Tryd.func101, Tryd.ntmps101
  go_wp2
  all_goals (go_ret; exact ⟨by first | (rw [← e]; rfl) | simp_all, 0, rfl⟩)
set_option maxHeartbeats 8000000 in
set_option maxRecDepth 100000 in
theorem impl_spaced.calls (P0_ : Nat → Prop) (u0 : Value) (l0 : List ByteArray) (r : ByteArray) (w0 w : World) (hB : Below w0.heap.size w0 w) (ho0 : Kd.R Kd.string 9 w w0.heap.size P0_ u0 l0) (h : impl_spaced.f l0 = some r) :
    Calls Tryd.prog 82 #[u0] w fun e w' => e = .returned (.string r) ∧ Below w0.heap.size w0 w' ∧ Kept w w' (fun k_ => P0_ k_) := by
  unfold impl_spaced.f at h
  by_cases hg : 1 ≤ l0.length ∧ l0.length ≤ 1000
  · rw [if_pos hg] at h
    have hok := ho0.1
    obtain ⟨_, hcase⟩ := Kd.own_of_R ho0
    rcases hcase with ⟨_, hz⟩ | ⟨g, cap, cur, rfl, hbase, hcur, hcap, _, hsz, htake⟩
    · omega
    have hPg : P0_ g := hok g rfl
    have hlt : g < w.heap.size := blk_lt hcur
    have hget : ∀ (j : Nat) x, l0[j]? = some x → w.cell? ⟨g, j, none⟩ = some (.string x) := by
      intro j x hj
      obtain ⟨hjl, _⟩ := List.getElem?_eq_some_iff.1 hj
      have h1 := congrArg (fun z => z[j]?) htake
      simp only [List.getElem?_take, encs, List.getElem?_map, hj, Option.map_some] at h1
      rw [if_pos (by omega)] at h1
      rw [blk_cell hcur]
      simpa using h1
    have hH : Sort.Holds Value.string w g 0 l0.toArray := fun j hj => by
      have hj' : j < l0.length := by simpa using hj
      refine ⟨?_, by rw [Nat.zero_add]; exact blk_frozen hcur j⟩
      rw [Nat.zero_add, hget j l0[j] (List.getElem?_eq_getElem hj'), getElem!_pos l0.toArray j hj]
      simp
    have hdel := Tryd.slices_DeleteFunc Value.string (fun _ => rfl) (fun x => decide (x.size = 0)) 101 #[] (enters_of Tryd.func101 (by kernel_rfl) rfl) ByteArray.empty Tryd.zeroValue9 g 0 cap l0.toArray w
      (fun W x _ => impl_spaced.pred x W) (fun n os dk x _ => impl_spaced.pred x _) hH (by simp; omega) (by simpa using hcap)
    have e0 : l0.toArray.toList = l0 := by simp
    have e1 : l0.toArray.size = l0.length := by simp
    rw [e0, e1] at hdel
    obtain ⟨kp, hkp⟩ : ∃ kp, kp = l0.filter fun x => !decide (x.size = 0) := ⟨_, rfl⟩
    rw [← hkp] at hdel h
    have hkl : kp.length ≤ l0.length := by rw [hkp]; exact List.length_filter_le _ _
    obtain ⟨w2f, hw2⟩ : ∃ w2f : Nat → World, w2f = fun q => Sort.putRow Value.string (Sort.ahead w q) g 0 (kp ++ List.replicate (l0.length - kp.length) ByteArray.empty).toArray := ⟨_, rfl⟩
    have hread : ∀ q (j : Nat) x, kp[j]? = some x → (w2f q).cell? ⟨g, 0 + j, none⟩ = some (.string x) := by
      intro q j x hj
      obtain ⟨hjl, hx⟩ := List.getElem?_eq_some_iff.1 hj
      have hs : (kp ++ List.replicate (l0.length - kp.length) ByteArray.empty).toArray.size = l0.toArray.size := by simp; omega
      have := (Sort.holds_putRow Value.string (Sort.ahead w q) g 0 l0.toArray _ hH hs) j (by rw [hs]; simp; omega)
      rw [hw2, this.1, getElem!_pos _ j (by rw [hs]; simp; omega)]
      simp [List.getElem_append_left hjl, hx]
    have hsize : ∀ q, (w2f q).heap.size = w.heap.size := fun q => by rw [hw2]; simp [Sort.ahead]
    have hold : ∀ q k, k ≠ g → (w2f q).heap[k]? = w.heap[k]? := fun q k hk => by
      rw [hw2]; simp only [Sort.putRow, Sort.mapBlock, Sort.ahead, Array.getElem?_modify]; rw [if_neg (Ne.symm hk)]
    have hb2 : ∀ q, Below w0.heap.size w0 (w2f q) := fun q => hB.trans ⟨by rw [hw2]; rfl, by rw [hw2]; rfl, by rw [hw2]; rfl, Nat.le_of_eq (hsize q).symm, fun k hk => hold q k (by omega)⟩
    have hjoin : ∀ q, Calls Tryd.prog 61 #[.slice (some ⟨g, 0, none⟩) kp.length cap, .string (⟨#[32]⟩ : ByteArray)] (w2f q) fun e w' => e = .returned (.string r) ∧ Below (w2f q).heap.size (w2f q) w' := by
      intro q
      unfold strings_Join.f at h
      by_cases hj : kp.length ≤ 140737488355328 ∧ (Lib.join (kp.map (·.data.toList)) (⟨#[32]⟩ : ByteArray).data.toList).length ≤ 140737488355328
      · rw [if_pos hj] at h
        obtain rfl := Option.some.inj h
        by_cases hn : kp = []
        · subst hn
          refine (Tryd.strings_Join_none (some ⟨g, 0, none⟩) cap _ (w2f q)).mono ?_
          rintro e w' ⟨rfl, rfl⟩
          exact ⟨rfl, Below.refl _ _⟩
        · refine (Tryd.strings_Join g 0 cap kp _ (w2f q) (hread q) (by rw [hsize]; exact hlt) hj.1 (by omega) hj.2).mono ?_
          rintro e w' ⟨rfl, hb⟩
          exact ⟨rfl, hb⟩
      · rw [if_neg hj] at h; cases h
    have hdel2 : Calls Tryd.prog 100 #[.slice (some ⟨g, 0, none⟩) l0.length cap, .func (.func 101) #[] #[]] w fun e w' => e = .returned (.slice (some ⟨g, 0, none⟩) kp.length cap) ∧ ∃ q, w' = w2f q := by
      refine hdel.mono ?_
      rintro e w' ⟨he, q, hw⟩
      exact ⟨he, q, by rw [hw2]; exact hw⟩
    have fin : ∀ q w', Below (w2f q).heap.size (w2f q) w' → Below w0.heap.size w0 w' ∧ Kept w w' (fun k_ => P0_ k_) := by
      intro q w' hb
      refine ⟨below_step (hb2 q) hb, by have := hb.size; rw [hsize] at this; exact this, fun i hi hP => ?_⟩
      have hne : i ≠ g := fun e => hP (by rw [e]; exact hPg)
      rw [hb.block i (by rw [hsize]; exact hi), hold q i hne]
    clear hread hH hget htake hdel hold hb2 hsize hw2 hok
    go_enter Tryd.func82, Tryd.ntmps82
    clear hkp
    go_wp2_with (first | (go_at_call 61; refine (hjoin _).mono ?_; rintro e w' ⟨rfl, hb⟩) | (go_at_call 100; refine hdel2.mono ?_; rintro e w' ⟨rfl, q, rfl⟩))
    go_ret
    exact ⟨rfl, fin _ _ hb⟩
  · rw [if_neg hg] at h; cases h

end Go.Proofs.YtcckamdpncbkoaaDoor.G

namespace Go.Proofs.YtcckamdpncbkoaaDoor.G
open Go.RowKit Go.Proofs.YtcckamdpncbkoaaDoorW.PrintWords Go.Proofs.YtcckamdpncbkoaaDoorW.PrintLast Go.Proofs.YtcckamdpncbkoaaDoorW.PrintMore
open Go.Proofs.YtcckamdpncbkoaaDoor.Gl Go.Proofs.YtcckamdpncbkoaaDoor.Ext
attribute [local go_sem] max2_int min2_int max_two min_two max_three min_three max_four min_four   -- for this text's walks alone
set_option linter.unusedVariables false
set_option linter.unusedSimpArgs false

/-! ### spec_l2Given: function 81 -/
def spec_l2Given.f (k : Nat) (l0_0 : List ByteArray) (a0_1 : ByteArray) (a0_2 : ByteArray) (a0_3 : ByteArray) : Option (ByteArray) := (spec_l2Join.f k l0_0).bind fun t340 => (some t340)
theorem spec_l2Given.mono : ∀ a0 a1 a2 a3 k, LeO (spec_l2Given.f k a0 a1 a2 a3) (spec_l2Given.f (k + 1) a0 a1 a2 a3) := by
  intro a0 a1 a2 a3 k
  unfold spec_l2Given.f
  repeat' first
      | (with_reducible exact spec_l2Join.mono _ _)
      | (with_reducible exact LeO.refl _)
      | (with_reducible exact LeO.none _)
      | (with_reducible refine LeO.ite ?_ ?_)
      | (with_reducible refine LeO.bind ?_ (fun _ => ?_))
      | exact spec_l2Join.mono _ _
      | exact LeO.none _
      | refine LeO.ite ?_ ?_
      | refine LeO.bind ?_ (fun _ => ?_)
set_option maxHeartbeats 8000000 in
set_option maxRecDepth 100000 in
theorem spec_l2Given.calls (k : Nat) (A0_0 : Option Addr) (c0_0 : Nat) (l0_0 : List ByteArray) (a0_1 : ByteArray) (a0_2 : ByteArray) (a0_3 : ByteArray) (r : ByteArray) (w : World) (hr0_0 : Kd.C Kd.string w A0_0 l0_0.length l0_0) (hc0_0 : l0_0.length ≤ c0_0) (h : spec_l2Given.f k l0_0 a0_1 a0_2 a0_3 = some r) :
    Calls Tryd.prog 81 #[.agg #[.slice A0_0 l0_0.length c0_0, .string a0_1, .string a0_2, .string a0_3]] w fun e w' => e = .returned (.string r) ∧ Below w.heap.size w w' := by
  have hu27 := Tryd.underlying27
  have HR0_0 := Aside0.mk hr0_0
  have HC0_0 := Aside0.mk hc0_0
  clear hr0_0 hc0_0
  have HB := Aside0.mk (Below.refl w.heap.size w)
  have H : ((spec_l2Join.f k l0_0).bind fun t340 => (some t340)) = some r := h
  clear h
  replace H := Option.bind_eq_some_iff.mp H
  obtain ⟨t340, A20, H⟩ := H
  replace H : (some t340) = some r := H
  have A2 := Aside0.mk A20
  clear A20
  obtain rfl := Option.some.inj H
  go_enter Tryd.func81, Tryd.ntmps81
  go_wp2_with (first | ((with_reducible refine gate_dst (N := 1) rfl ?_); refine box_event ?hg (N := 1) ?hd (cs := #[.slice A0_0 l0_0.length c0_0, .string a0_1, .string a0_2, .string a0_3]) (t := 27) ?hr ?_; (case hd => rfl); (case hg => rfl); (case hr => first | (go_simp; done) | (go_simp; rfl)); intro gb339 hg w3 hbox hb; have n0_ := Aside0.mk (below_step (by repeat (first | (with_reducible first | exact HB.out | apply below_alloc | apply pw_below_drewN | apply below_drew1) | exact HB.out)) hb); have n1_ := Aside0.mk (hbox); have n2_ := Aside0.mk ((by rw [hg]; exact (below_size (by repeat (first | (with_reducible first | exact HB.out | apply below_alloc | apply pw_below_drewN | apply below_drew1) | exact HB.out))) : w.heap.size ≤ gb339)); have n3_ := Aside0.mk ((by rw [hg]; exact (below_size (by repeat (first | (with_reducible first | exact HB.out | apply below_alloc | apply pw_below_drewN | apply below_drew1) | exact HB.out))) : w.heap.size ≤ gb339)); clear HB; have HB := n0_; have BK339 := n1_; have GW339 := n2_; have GE339 := n3_; clear n0_ n1_ n2_ n3_; clear hb hbox hg; have hcz4_0 : w3.cell? ⟨gb339, 0, none⟩ = some (.slice A0_0 l0_0.length c0_0) := (blk_cell BK339.out 0).trans rfl; have hcz4_1 : w3.cell? ⟨gb339, 1, none⟩ = some (.string a0_1) := (blk_cell BK339.out 1).trans rfl; have hcz4_2 : w3.cell? ⟨gb339, 2, none⟩ = some (.string a0_2) := (blk_cell BK339.out 2).trans rfl; have hcz4_3 : w3.cell? ⟨gb339, 3, none⟩ = some (.string a0_3) := (blk_cell BK339.out 3).trans rfl; have hfz4_0 := blk_frozen BK339.out 0; have hfz4_1 := blk_frozen BK339.out 1; have hfz4_2 := blk_frozen BK339.out 2; have hfz4_3 := blk_frozen BK339.out 3) | ((with_reducible refine gate_callee (f := 80) rfl ?_); refine goesL_ (some 5) rfl rfl Tryd.func80 (by kernel_rfl) rfl #[.slice A0_0 l0_0.length c0_0] rfl (by (try simp only [List.map_toArray, List.map_cons, List.map_nil]); first | done | rfl | (simp only [List.length_drop, List.length_take]; rfl)) ?_; (with_reducible refine (spec_l2Join.calls k _ _ l0_0 t340 _ ?side1 ?side2 A2.out).mono ?_); (case side1 => repeat (first | exact (Kd.C_below HR0_0.out HB.out) | (with_reducible refine Kd.C_alloc ?_ _) | (with_reducible refine Kd.C_drewN ?_ _) | (with_reducible refine Kd.C_drew ?_))); (case side2 => exact HC0_0.out); rintro e w' ⟨rfl, ⟨nd, rfl⟩⟩; refine ⟨_, rfl, ?_⟩))
  go_ret
  exact ⟨by first | rfl | (simp [errW_none, errW_some] <;> rfl) | (simp [*, errW_none, errW_some] <;> rfl), by repeat (first | (with_reducible first | exact HB.out | apply below_alloc | apply pw_below_drewN | apply below_drew1 | refine below_set ?_ GE339.out) | exact HB.out)⟩

end Go.Proofs.YtcckamdpncbkoaaDoor.G

namespace Go.Proofs.YtcckamdpncbkoaaDoor.G
open Go.RowKit Go.Proofs.YtcckamdpncbkoaaDoorW.PrintWords Go.Proofs.YtcckamdpncbkoaaDoorW.PrintLast Go.Proofs.YtcckamdpncbkoaaDoorW.PrintMore
open Go.Proofs.YtcckamdpncbkoaaDoor.Gl Go.Proofs.YtcckamdpncbkoaaDoor.Ext
attribute [local go_sem] max2_int min2_int max_two min_two max_three min_three max_four min_four   -- for this text's walks alone
set_option linter.unusedVariables false
set_option linter.unusedSimpArgs false

/-! ### spec_l2Full: function 53 -/
def spec_l2Full.f (k : Nat) (l0_0 : List ByteArray) (a0_1 : ByteArray) (a0_2 : ByteArray) (a0_3 : ByteArray) : Option (ByteArray) := (spec_l2Given.f k l0_0 a0_1 a0_2 a0_3).bind fun t342 => ((spec_l2Join.f k (([t342, a0_1, a0_2, a0_3] : List ByteArray))).bind fun t346 => (some t346))
theorem spec_l2Full.mono : ∀ a0 a1 a2 a3 k, LeO (spec_l2Full.f k a0 a1 a2 a3) (spec_l2Full.f (k + 1) a0 a1 a2 a3) := by
  intro a0 a1 a2 a3 k
  unfold spec_l2Full.f
  repeat' first
      | (with_reducible exact spec_l2Given.mono _ _ _ _ _)
      | (with_reducible exact spec_l2Join.mono _ _)
      | (with_reducible exact LeO.refl _)
      | (with_reducible exact LeO.none _)
      | (with_reducible refine LeO.ite ?_ ?_)
      | (with_reducible refine LeO.bind ?_ (fun _ => ?_))
      | exact spec_l2Given.mono _ _ _ _ _
      | exact spec_l2Join.mono _ _
      | exact LeO.none _
      | refine LeO.ite ?_ ?_
      | refine LeO.bind ?_ (fun _ => ?_)
def spec_l2Full.T1 : Bool × List (List Nat × List Nat) := (true, [([], []), ([0], [0]), ([], []), ([2], [2]), ([], []), ([4], [4]), ([], []), ([6], [6]), ([1, 3, 5, 7], [1, 3, 5, 7]), ([8, 1], [8]), ([9, 9, 0, 1, 2, 3, 4, 5, 6, 7, 8, 9], [9])])
def spec_l2Full.B1 : List Nat := [0, 1, 0, 4, 0, 16, 0, 64, 255, 511, 1023]
theorem spec_l2Full.tab1 : rtab .any (opsOf Tryd.f53 1) = spec_l2Full.T1 := by kernel_rfl
theorem spec_l2Full.bits1 : waitsOk spec_l2Full.T1.2 spec_l2Full.B1 = true := by kernel_rfl
set_option maxHeartbeats 8000000 in
set_option maxRecDepth 100000 in
theorem spec_l2Full.calls (k : Nat) (A0_0 : Option Addr) (c0_0 : Nat) (l0_0 : List ByteArray) (a0_1 : ByteArray) (a0_2 : ByteArray) (a0_3 : ByteArray) (r : ByteArray) (w : World) (hr0_0 : Kd.C Kd.string w A0_0 l0_0.length l0_0) (hc0_0 : l0_0.length ≤ c0_0) (h : spec_l2Full.f k l0_0 a0_1 a0_2 a0_3 = some r) :
    Calls Tryd.prog 53 #[.agg #[.slice A0_0 l0_0.length c0_0, .string a0_1, .string a0_2, .string a0_3]] w fun e w' => e = .returned (.string r) ∧ Below w.heap.size w w' := by
  have hu27 := Tryd.underlying27
  have HR0_0 := Aside0.mk hr0_0
  have HC0_0 := Aside0.mk hc0_0
  clear hr0_0 hc0_0
  have HB := Aside0.mk (Below.refl w.heap.size w)
  have H : ((spec_l2Given.f k l0_0 a0_1 a0_2 a0_3).bind fun t342 => ((spec_l2Join.f k (([t342, a0_1, a0_2, a0_3] : List ByteArray))).bind fun t346 => (some t346))) = some r := h
  clear h
  replace H := Option.bind_eq_some_iff.mp H
  obtain ⟨t342, A20, H⟩ := H
  replace H : ((spec_l2Join.f k (([t342, a0_1, a0_2, a0_3] : List ByteArray))).bind fun t346 => (some t346)) = some r := H
  have A2 := Aside0.mk A20
  clear A20
  obtain ⟨y343, hy343⟩ : ∃ y_ : List ByteArray, y_ = (([t342, a0_1, a0_2, a0_3] : List ByteArray)) := ⟨_, rfl⟩
  replace H : ((spec_l2Join.f k y343).bind fun t346 => (some t346)) = some r := by first | (rw [hy343]; with_reducible exact H) | (have H2_ := (Option.bind_some _ _).symm.trans H; rw [hy343]; with_reducible exact H2_) | (have H2_ := (Option.bind_some _ _).symm.trans H; with_reducible exact H2_) | with_reducible exact H | (rw [hy343]; exact H) | exact H
  have Ny343 := Aside0.mk hy343
  clear hy343
  replace H := Option.bind_eq_some_iff.mp H
  obtain ⟨t346, A30, H⟩ := H
  replace H : (some t346) = some r := H
  have A3 := Aside0.mk A30
  clear A30
  obtain rfl := Option.some.inj H
  go_enter Tryd.func53, Tryd.ntmps53
  try go_wp2_with (first | ((with_reducible refine gate_dst (N := 1) rfl ?_); refine box_event ?hg (N := 1) ?hd (cs := #[.slice A0_0 l0_0.length c0_0, .string a0_1, .string a0_2, .string a0_3]) (t := 27) ?hr ?_; (case hd => rfl); (case hg => rfl); (case hr => first | (go_simp; done) | (go_simp; rfl)); intro gb341 hg w4 hbox hb; have n0_ := Aside0.mk (below_step (by repeat (first | (with_reducible first | exact HB.out | apply below_alloc | apply pw_below_drewN | apply below_drew1) | exact HB.out)) hb); have n1_ := Aside0.mk (hbox); have n2_ := Aside0.mk ((by rw [hg]; exact (below_size (by repeat (first | (with_reducible first | exact HB.out | apply below_alloc | apply pw_below_drewN | apply below_drew1) | exact HB.out))) : w.heap.size ≤ gb341)); have n3_ := Aside0.mk ((by rw [hg]; exact (below_size (by repeat (first | (with_reducible first | exact HB.out | apply below_alloc | apply pw_below_drewN | apply below_drew1) | exact HB.out))) : w.heap.size ≤ gb341)); clear HB; have HB := n0_; have BK341 := n1_; have GW341 := n2_; have GE341 := n3_; clear n0_ n1_ n2_ n3_; clear hb hbox hg))
  have n0_ := Aside0.mk (blk_drew BK341.out)
  have n1_ := Aside0.mk (below_drew1 HB.out)
  clear BK341
  clear HB
  have BK341 := n0_
  have HB := n1_
  clear n0_ n1_
  refine start_ (n := 11) (S := fun w' => w'.cell? ⟨gb341, 0, none⟩ = some (.slice A0_0 l0_0.length c0_0) ∧ w'.cell? ⟨gb341, 1, none⟩ = some (.string a0_1) ∧ w'.cell? ⟨gb341, 2, none⟩ = some (.string a0_2) ∧ w'.cell? ⟨gb341, 3, none⟩ = some (.string a0_3)) (ds := []) #[false, false, false, false, false, false, false, false, false, false, false] (by kernel_rfl) rfl rfl ⟨(blk_cell BK341.out 0).trans rfl, (blk_cell BK341.out 1).trans rfl, (blk_cell BK341.out 2).trans rfl, (blk_cell BK341.out 3).trans rfl⟩ (fun hHeld => ?_); refine with_tabW spec_l2Full.tab1 spec_l2Full.bits1 (fun HT_ HW_ => ?_)
  generalize w4.drew = w5 at BK341 HB hHeld ⊢
  refine pure_ (i := 2) (N := some 5) (v := ?_) (a' := ?_) #[false, false, true, false, false, false, false, false, false, false, false] rfl rfl (any_of HT_.out (by kernel_rfl)) (fun _ _ _ h => h) (Or.inl ⟨by rfl, ?_⟩) ?_ ?_
  rotate_left
  · intro w'
    go_simp
    with_reducible rfl
  rotate_left
  · simp only [Act.put, List.setIfInBounds_toArray, List.set_cons_zero, List.set_cons_succ, i64_w, i32_w]
    rfl
  refine pure_ (i := 4) (N := some 7) (v := ?_) (a' := ?_) #[false, false, true, false, true, false, false, false, false, false, false] rfl rfl (any_of HT_.out (by kernel_rfl)) (fun _ _ _ h => h) (Or.inl ⟨by rfl, ?_⟩) ?_ ?_
  rotate_left
  · intro w'
    go_simp
    with_reducible rfl
  rotate_left
  · simp only [Act.put, List.setIfInBounds_toArray, List.set_cons_zero, List.set_cons_succ, i64_w, i32_w]
    rfl
  refine pure_ (i := 6) (N := some 9) (v := ?_) (a' := ?_) #[false, false, true, false, true, false, true, false, false, false, false] rfl rfl (any_of HT_.out (by kernel_rfl)) (fun _ _ _ h => h) (Or.inl ⟨by rfl, ?_⟩) ?_ ?_
  rotate_left
  · intro w'
    go_simp
    with_reducible rfl
  rotate_left
  · simp only [Act.put, List.setIfInBounds_toArray, List.set_cons_zero, List.set_cons_succ, i64_w, i32_w]
    rfl
  refine take_ (i := 0) (N := some 3) (v := ?_) (a' := ?_) #[true, false, true, false, true, false, true, false, false, false, false] rfl rfl (take_ofW HT_.out HW_.out (by kernel_rfl)) (fun _ _ _ h => h) (Or.inl ⟨by rfl, ?_⟩) hHeld ?_ ?_
  rotate_left
  · rintro w' ⟨s0, s1, s2, s3⟩
    go_simp
    with_reducible rfl
  rotate_left
  · simp only [Act.put, List.setIfInBounds_toArray, List.set_cons_zero, List.set_cons_succ, i64_w, i32_w]
    rfl
  refine take_ (i := 3) (N := some 6) (v := ?_) (a' := ?_) #[true, false, true, true, true, false, true, false, false, false, false] rfl rfl (take_ofW HT_.out HW_.out (by kernel_rfl)) (fun _ _ _ h => h) (Or.inl ⟨by rfl, ?_⟩) hHeld ?_ ?_
  rotate_left
  · rintro w' ⟨s0, s1, s2, s3⟩
    go_simp
    with_reducible rfl
  rotate_left
  · simp only [Act.put, List.setIfInBounds_toArray, List.set_cons_zero, List.set_cons_succ, i64_w, i32_w]
    rfl
  refine take_ (i := 5) (N := some 8) (v := ?_) (a' := ?_) #[true, false, true, true, true, true, true, false, false, false, false] rfl rfl (take_ofW HT_.out HW_.out (by kernel_rfl)) (fun _ _ _ h => h) (Or.inl ⟨by rfl, ?_⟩) hHeld ?_ ?_
  rotate_left
  · rintro w' ⟨s0, s1, s2, s3⟩
    go_simp
    with_reducible rfl
  rotate_left
  · simp only [Act.put, List.setIfInBounds_toArray, List.set_cons_zero, List.set_cons_succ, i64_w, i32_w]
    rfl
  refine take_ (i := 7) (N := some 10) (v := ?_) (a' := ?_) #[true, false, true, true, true, true, true, true, false, false, false] rfl rfl (take_ofW HT_.out HW_.out (by kernel_rfl)) (fun _ _ _ h => h) (Or.inl ⟨by rfl, ?_⟩) hHeld ?_ ?_
  rotate_left
  · rintro w' ⟨s0, s1, s2, s3⟩
    go_simp
    with_reducible rfl
  rotate_left
  · simp only [Act.put, List.setIfInBounds_toArray, List.set_cons_zero, List.set_cons_succ, i64_w, i32_w]
    rfl
  refine one_ (i := 1) (N := some 4) #[true, true, true, true, true, true, true, true, false, false, false] rfl rfl (one_of HT_.out (by kernel_rfl)) (by decide) (fun K hK => ?_)
  refine goes_ Tryd.func81 (by kernel_rfl) rfl #[.agg #[.slice A0_0 l0_0.length c0_0, .string a0_1, .string a0_2, .string a0_3]] (by rfl) rfl rfl (by (try simp only [List.map_toArray, List.map_cons, List.map_nil]); first | done | rfl | (simp only [List.length_drop, List.length_take]; rfl)) ?_
  with_reducible refine (spec_l2Given.calls k _ _ l0_0 a0_1 a0_2 a0_3 t342 _ ?side1 ?side2 A2.out).mono ?_
  (case side1 => repeat (first | exact (Kd.C_below HR0_0.out HB.out) | (with_reducible refine Kd.C_alloc ?_ _) | (with_reducible refine Kd.C_drewN ?_ _) | (with_reducible refine Kd.C_drew ?_)))
  (case side2 => exact HC0_0.out)
  rintro e w6 ⟨rfl, hb⟩
  refine ⟨_, rfl, ?_⟩
  have n0_ := Aside0.mk (blk_below (g := gb341) (o := .cells #[.slice A0_0 l0_0.length c0_0, .string a0_1, .string a0_2, .string a0_3] 27 (0, 0)) (by (with_reducible repeat (first | refine blk_drewN ?_ _ | refine blk_drew ?_ | refine blk_alloc ?_ _)); exact BK341.out) hb)
  have n1_ := Aside0.mk (below_step (by repeat (first | (with_reducible first | exact HB.out | apply below_alloc | apply pw_below_drewN | apply below_drew1 | refine below_set ?_ GE341.out) | exact HB.out)) hb)
  clear BK341
  clear HB
  have BK341 := n0_
  have HB := n1_
  clear n0_ n1_
  (try clear hb)
  (try clear hb2)
  (try clear hk)
  (try clear hi)
  refine hK.out _ _ ⟨(blk_cell BK341.out 0).trans rfl, (blk_cell BK341.out 1).trans rfl, (blk_cell BK341.out 2).trans rfl, (blk_cell BK341.out 3).trans rfl⟩ (fun hHeld => ?_)
  clear hK K
  refine norm_ (a' := ?_) ?_ ?_
  rotate_left
  · show Act.put _ (some 4) _ = _
    simp only [Act.put, List.setIfInBounds_toArray, List.set_cons_zero, List.set_cons_succ, i64_w, i32_w]
    rfl
  refine one_ (i := 8) (N := some 11) #[true, true, true, true, true, true, true, true, true, false, false] rfl rfl (one_of HT_.out (by kernel_rfl)) (by decide) (fun K hK => ?_)
  refine Kd.R_lit_step Kd.string _ 9 ?hg (N := 11) ?hd (xs := ([t342, a0_1, a0_2, a0_3] : List ByteArray)) (inner := [.string t342, .string a0_1, .string a0_2, .string a0_3]) (ok := fun _ => True) (okp := fun _ => True) ?hr ?hp (fun _ hk => hk) trivial (Below.refl _ _) (Nat.le_refl _) (by simp) ?_; (case hd => rfl); (case hg => rfl); (case hr => first | (go_simp; done) | (go_simp; rfl)); (case hp => exact (Reps.one (show Kd.M Kd.string _ _ _ t342 [.string t342] from rfl) (Reps.one (show Kd.M Kd.string _ _ _ a0_1 [.string a0_1] from rfl) (Reps.one (show Kd.M Kd.string _ _ _ a0_2 [.string a0_2] from rfl) (Reps.one (show Kd.M Kd.string _ _ _ a0_3 [.string a0_3] from rfl) (Reps.none _ _))))))
  intro v344 w7 ho8 hb hg_ hnew_
  clear hg_ hnew_
  (first | rw [← Ny343.out] at ho8 | (simp only [Int.reduceToNat] at ho8; rw [← Ny343.out] at ho8))
  have n0_ := Aside0.mk (Kd.R_lower ho8 (below_size (by repeat (first | (with_reducible first | exact HB.out | apply below_alloc | apply pw_below_drewN | apply below_drew1 | refine below_set ?_ GE341.out) | exact HB.out))))
  have n1_ := Aside0.mk (blk_below (g := gb341) (o := .cells #[.slice A0_0 l0_0.length c0_0, .string a0_1, .string a0_2, .string a0_3] 27 (0, 0)) (by (with_reducible repeat (first | refine blk_drewN ?_ _ | refine blk_drew ?_ | refine blk_alloc ?_ _)); exact BK341.out) hb)
  have n2_ := Aside0.mk (below_step (by repeat (first | (with_reducible first | exact HB.out | apply below_alloc | apply pw_below_drewN | apply below_drew1 | refine below_set ?_ GE341.out) | exact HB.out)) hb)
  clear BK341
  clear HB
  have HO345 := n0_
  have BK341 := n1_
  have HB := n2_
  clear n0_ n1_ n2_
  clear hb ho8
  obtain ⟨Ao9, co9, eo9⟩ := Kd.R_slice HO345.out
  (first | subst eo9 | (injection eo9 with f1_ f2_ f3_; have f4_ := f1_.symm; have f5_ := f3_.symm; clear f1_ f2_ f3_; subst f4_; subst f5_))
  refine hK.out _ _ ⟨(blk_cell BK341.out 0).trans rfl, (blk_cell BK341.out 1).trans rfl, (blk_cell BK341.out 2).trans rfl, (blk_cell BK341.out 3).trans rfl⟩ (fun hHeld => ?_)
  clear hK K
  refine norm_ (a' := ?_) ?_ ?_
  rotate_left
  · show Act.put _ (some 11) _ = _
    simp only [Act.put, List.setIfInBounds_toArray, List.set_cons_zero, List.set_cons_succ, i64_w, i32_w]
    rfl
  refine one_ (i := 9) (N := some 12) #[true, true, true, true, true, true, true, true, true, true, false] rfl rfl (one_of HT_.out (by kernel_rfl)) (by decide) (fun K hK => ?_)
  refine goes_ Tryd.func80 (by kernel_rfl) rfl #[.slice Ao9 y343.length co9] (by rfl) rfl rfl (by (try simp only [List.map_toArray, List.map_cons, List.map_nil]); first | done | rfl | (simp only [List.length_drop, List.length_take]; rfl)) ?_
  with_reducible refine (spec_l2Join.calls k _ _ y343 t346 _ ?side1 ?side2 A3.out).mono ?_
  (case side1 => repeat (first | exact (Kd.R_reads' HO345.out).2.2 | (with_reducible refine Kd.C_alloc ?_ _) | (with_reducible refine Kd.C_drewN ?_ _) | (with_reducible refine Kd.C_drew ?_)))
  (case side2 => exact (Kd.R_reads' HO345.out).2.1)
  rintro e w' ⟨rfl, ⟨nd, rfl⟩⟩
  refine ⟨_, rfl, ?_⟩
  refine hK.out _ _ ⟨(blk_cell BK341.out 0).trans rfl, (blk_cell BK341.out 1).trans rfl, (blk_cell BK341.out 2).trans rfl, (blk_cell BK341.out 3).trans rfl⟩ (fun hHeld => ?_)
  clear hK K
  refine norm_ (a' := ?_) ?_ ?_
  rotate_left
  · show Act.put _ (some 12) _ = _
    simp only [Act.put, List.setIfInBounds_toArray, List.set_cons_zero, List.set_cons_succ, i64_w, i32_w]
    rfl
  refine pure_ (i := 10) (N := some 2) (v := ?_) (a' := ?_) #[true, true, true, true, true, true, true, true, true, true, true] rfl rfl (any_of HT_.out (by kernel_rfl)) (fun _ _ _ h => h) (Or.inl ⟨by rfl, ?_⟩) ?_ ?_
  rotate_left
  · intro w'
    go_simp
    with_reducible rfl
  rotate_left
  · simp only [Act.put, List.setIfInBounds_toArray, List.set_cons_zero, List.set_cons_succ, i64_w, i32_w]
    rfl
  refine done_ (done_of HT_.out (by kernel_rfl)) ?_
  try go_wp2
  go_ret
  exact ⟨by first | rfl | (simp [errW_none, errW_some] <;> rfl) | (simp [*, errW_none, errW_some] <;> rfl), by repeat (first | (with_reducible first | exact HB.out | apply below_alloc | apply pw_below_drewN | apply below_drew1 | refine below_set ?_ GE341.out) | exact HB.out)⟩

end Go.Proofs.YtcckamdpncbkoaaDoor.G

namespace Go.Proofs.YtcckamdpncbkoaaDoor.G
open Go.RowKit Go.Proofs.YtcckamdpncbkoaaDoorW.PrintWords Go.Proofs.YtcckamdpncbkoaaDoorW.PrintLast Go.Proofs.YtcckamdpncbkoaaDoorW.PrintMore
open Go.Proofs.YtcckamdpncbkoaaDoor.Gl Go.Proofs.YtcckamdpncbkoaaDoor.Ext
attribute [local go_sem] max2_int min2_int max_two min_two max_three min_three max_four min_four   -- for this text's walks alone
set_option linter.unusedVariables false
set_option linter.unusedSimpArgs false

/-! ### impl_fullForm: function 54 -/
def impl_fullForm.f (l0_0 : List ByteArray) (a0_1 : ByteArray) (a0_2 : ByteArray) (a0_3 : ByteArray) : Option (ByteArray) := (strings_Join.f l0_0 (⟨#[32]⟩ : ByteArray)).bind fun t351 => ((impl_spaced.f (([t351, a0_1, a0_2, a0_3] : List ByteArray))).bind fun t355 => (some t355))
def impl_fullForm.T1 : Bool × List (List Nat × List Nat) := (true, [([], []), ([0], [0]), ([1], [1]), ([], []), ([3], [3]), ([], []), ([5], [5]), ([], []), ([7], [7]), ([2, 4, 6, 8], [2, 4, 6, 8]), ([9, 2], [9]), ([10, 10, 0, 1, 2, 3, 4, 5, 6, 7, 8, 9, 10], [10])])
def impl_fullForm.B1 : List Nat := [0, 1, 3, 0, 8, 0, 32, 0, 128, 511, 1023, 2047]
theorem impl_fullForm.tab1 : rtab .any (opsOf Tryd.f54 1) = impl_fullForm.T1 := by kernel_rfl
theorem impl_fullForm.bits1 : waitsOk impl_fullForm.T1.2 impl_fullForm.B1 = true := by kernel_rfl
set_option maxHeartbeats 8000000 in
set_option maxRecDepth 100000 in
theorem impl_fullForm.calls (A0_0 : Option Addr) (c0_0 : Nat) (l0_0 : List ByteArray) (a0_1 : ByteArray) (a0_2 : ByteArray) (a0_3 : ByteArray) (r : ByteArray) (w : World) (hr0_0 : Kd.C Kd.string w A0_0 l0_0.length l0_0) (hc0_0 : l0_0.length ≤ c0_0) (h : impl_fullForm.f l0_0 a0_1 a0_2 a0_3 = some r) :
    Calls Tryd.prog 54 #[.agg #[.slice A0_0 l0_0.length c0_0, .string a0_1, .string a0_2, .string a0_3]] w fun e w' => e = .returned (.string r) ∧ Below w.heap.size w w' := by
  have hu27 := Tryd.underlying27
  have HR0_0 := Aside0.mk hr0_0
  have HC0_0 := Aside0.mk hc0_0
  clear hr0_0 hc0_0
  have HB := Aside0.mk (Below.refl w.heap.size w)
  have H : ((strings_Join.f l0_0 (⟨#[32]⟩ : ByteArray)).bind fun t351 => ((impl_spaced.f (([t351, a0_1, a0_2, a0_3] : List ByteArray))).bind fun t355 => (some t355))) = some r := h
  clear h
  replace H := Option.bind_eq_some_iff.mp H
  obtain ⟨t351, A20, H⟩ := H
  replace H : ((impl_spaced.f (([t351, a0_1, a0_2, a0_3] : List ByteArray))).bind fun t355 => (some t355)) = some r := H
  have A2 := Aside0.mk A20
  clear A20
  obtain ⟨y352, hy352⟩ : ∃ y_ : List ByteArray, y_ = (([t351, a0_1, a0_2, a0_3] : List ByteArray)) := ⟨_, rfl⟩
  replace H : ((impl_spaced.f y352).bind fun t355 => (some t355)) = some r := by first | (rw [hy352]; with_reducible exact H) | (have H2_ := (Option.bind_some _ _).symm.trans H; rw [hy352]; with_reducible exact H2_) | (have H2_ := (Option.bind_some _ _).symm.trans H; with_reducible exact H2_) | with_reducible exact H | (rw [hy352]; exact H) | exact H
  have Ny352 := Aside0.mk hy352
  clear hy352
  replace H := Option.bind_eq_some_iff.mp H
  obtain ⟨t355, A30, H⟩ := H
  replace H : (some t355) = some r := H
  have A3 := Aside0.mk A30
  clear A30
  obtain rfl := Option.some.inj H
  go_enter Tryd.func54, Tryd.ntmps54
  try go_wp2_with (first | ((with_reducible refine gate_dst (N := 1) rfl ?_); refine box_event ?hg (N := 1) ?hd (cs := #[.slice A0_0 l0_0.length c0_0, .string a0_1, .string a0_2, .string a0_3]) (t := 27) ?hr ?_; (case hd => rfl); (case hg => rfl); (case hr => first | (go_simp; done) | (go_simp; rfl)); intro gb350 hg w4 hbox hb; have n0_ := Aside0.mk (below_step (by repeat (first | (with_reducible first | exact HB.out | apply below_alloc | apply pw_below_drewN | apply below_drew1) | exact HB.out)) hb); have n1_ := Aside0.mk (hbox); have n2_ := Aside0.mk ((by rw [hg]; exact (below_size (by repeat (first | (with_reducible first | exact HB.out | apply below_alloc | apply pw_below_drewN | apply below_drew1) | exact HB.out))) : w.heap.size ≤ gb350)); have n3_ := Aside0.mk ((by rw [hg]; exact (below_size (by repeat (first | (with_reducible first | exact HB.out | apply below_alloc | apply pw_below_drewN | apply below_drew1) | exact HB.out))) : w.heap.size ≤ gb350)); clear HB; have HB := n0_; have BK350 := n1_; have GW350 := n2_; have GE350 := n3_; clear n0_ n1_ n2_ n3_; clear hb hbox hg))
  have n0_ := Aside0.mk (blk_drew BK350.out)
  have n1_ := Aside0.mk (below_drew1 HB.out)
  clear BK350
  clear HB
  have BK350 := n0_
  have HB := n1_
  clear n0_ n1_
  refine start_ (n := 12) (S := fun w' => w'.cell? ⟨gb350, 0, none⟩ = some (.slice A0_0 l0_0.length c0_0) ∧ w'.cell? ⟨gb350, 1, none⟩ = some (.string a0_1) ∧ w'.cell? ⟨gb350, 2, none⟩ = some (.string a0_2) ∧ w'.cell? ⟨gb350, 3, none⟩ = some (.string a0_3)) (ds := []) #[false, false, false, false, false, false, false, false, false, false, false, false] (by kernel_rfl) rfl rfl ⟨(blk_cell BK350.out 0).trans rfl, (blk_cell BK350.out 1).trans rfl, (blk_cell BK350.out 2).trans rfl, (blk_cell BK350.out 3).trans rfl⟩ (fun hHeld => ?_); refine with_tabW impl_fullForm.tab1 impl_fullForm.bits1 (fun HT_ HW_ => ?_)
  generalize w4.drew = w5 at BK350 HB hHeld ⊢
  refine pure_ (i := 0) (N := some 3) (v := ?_) (a' := ?_) #[true, false, false, false, false, false, false, false, false, false, false, false] rfl rfl (any_of HT_.out (by kernel_rfl)) (fun _ _ _ h => h) (Or.inl ⟨by rfl, ?_⟩) ?_ ?_
  rotate_left
  · intro w'
    go_simp
    with_reducible rfl
  rotate_left
  · simp only [Act.put, List.setIfInBounds_toArray, List.set_cons_zero, List.set_cons_succ, i64_w, i32_w]
    rfl
  refine pure_ (i := 3) (N := some 6) (v := ?_) (a' := ?_) #[true, false, false, true, false, false, false, false, false, false, false, false] rfl rfl (any_of HT_.out (by kernel_rfl)) (fun _ _ _ h => h) (Or.inl ⟨by rfl, ?_⟩) ?_ ?_
  rotate_left
  · intro w'
    go_simp
    with_reducible rfl
  rotate_left
  · simp only [Act.put, List.setIfInBounds_toArray, List.set_cons_zero, List.set_cons_succ, i64_w, i32_w]
    rfl
  refine pure_ (i := 5) (N := some 8) (v := ?_) (a' := ?_) #[true, false, false, true, false, true, false, false, false, false, false, false] rfl rfl (any_of HT_.out (by kernel_rfl)) (fun _ _ _ h => h) (Or.inl ⟨by rfl, ?_⟩) ?_ ?_
  rotate_left
  · intro w'
    go_simp
    with_reducible rfl
  rotate_left
  · simp only [Act.put, List.setIfInBounds_toArray, List.set_cons_zero, List.set_cons_succ, i64_w, i32_w]
    rfl
  refine pure_ (i := 7) (N := some 10) (v := ?_) (a' := ?_) #[true, false, false, true, false, true, false, true, false, false, false, false] rfl rfl (any_of HT_.out (by kernel_rfl)) (fun _ _ _ h => h) (Or.inl ⟨by rfl, ?_⟩) ?_ ?_
  rotate_left
  · intro w'
    go_simp
    with_reducible rfl
  rotate_left
  · simp only [Act.put, List.setIfInBounds_toArray, List.set_cons_zero, List.set_cons_succ, i64_w, i32_w]
    rfl
  refine take_ (i := 1) (N := some 4) (v := ?_) (a' := ?_) #[true, true, false, true, false, true, false, true, false, false, false, false] rfl rfl (take_ofW HT_.out HW_.out (by kernel_rfl)) (fun _ _ _ h => h) (Or.inl ⟨by rfl, ?_⟩) hHeld ?_ ?_
  rotate_left
  · rintro w' ⟨s0, s1, s2, s3⟩
    go_simp
    with_reducible rfl
  rotate_left
  · simp only [Act.put, List.setIfInBounds_toArray, List.set_cons_zero, List.set_cons_succ, i64_w, i32_w]
    rfl
  refine take_ (i := 4) (N := some 7) (v := ?_) (a' := ?_) #[true, true, false, true, true, true, false, true, false, false, false, false] rfl rfl (take_ofW HT_.out HW_.out (by kernel_rfl)) (fun _ _ _ h => h) (Or.inl ⟨by rfl, ?_⟩) hHeld ?_ ?_
  rotate_left
  · rintro w' ⟨s0, s1, s2, s3⟩
    go_simp
    with_reducible rfl
  rotate_left
  · simp only [Act.put, List.setIfInBounds_toArray, List.set_cons_zero, List.set_cons_succ, i64_w, i32_w]
    rfl
  refine take_ (i := 6) (N := some 9) (v := ?_) (a' := ?_) #[true, true, false, true, true, true, true, true, false, false, false, false] rfl rfl (take_ofW HT_.out HW_.out (by kernel_rfl)) (fun _ _ _ h => h) (Or.inl ⟨by rfl, ?_⟩) hHeld ?_ ?_
  rotate_left
  · rintro w' ⟨s0, s1, s2, s3⟩
    go_simp
    with_reducible rfl
  rotate_left
  · simp only [Act.put, List.setIfInBounds_toArray, List.set_cons_zero, List.set_cons_succ, i64_w, i32_w]
    rfl
  refine take_ (i := 8) (N := some 11) (v := ?_) (a' := ?_) #[true, true, false, true, true, true, true, true, true, false, false, false] rfl rfl (take_ofW HT_.out HW_.out (by kernel_rfl)) (fun _ _ _ h => h) (Or.inl ⟨by rfl, ?_⟩) hHeld ?_ ?_
  rotate_left
  · rintro w' ⟨s0, s1, s2, s3⟩
    go_simp
    with_reducible rfl
  rotate_left
  · simp only [Act.put, List.setIfInBounds_toArray, List.set_cons_zero, List.set_cons_succ, i64_w, i32_w]
    rfl
  refine one_ (i := 2) (N := some 5) #[true, true, true, true, true, true, true, true, true, false, false, false] rfl rfl (one_of HT_.out (by kernel_rfl)) (by decide) (fun K hK => ?_)
  refine goes_ Tryd.func61 (by kernel_rfl) rfl #[.slice A0_0 l0_0.length c0_0, .string (⟨#[32]⟩ : ByteArray)] (by rfl) rfl rfl (by (try simp only [List.map_toArray, List.map_cons, List.map_nil]); first | done | rfl | (simp only [List.length_drop, List.length_take]; rfl)) ?_
  with_reducible refine (strings_Join.calls _ _ l0_0 (⟨#[32]⟩ : ByteArray) t351 _ ?side1 ?side2 A2.out).mono ?_
  (case side1 => repeat (first | exact (Kd.C_below HR0_0.out HB.out) | (with_reducible refine Kd.C_alloc ?_ _) | (with_reducible refine Kd.C_drewN ?_ _) | (with_reducible refine Kd.C_drew ?_)))
  (case side2 => exact HC0_0.out)
  rintro e w6 ⟨rfl, hb⟩
  refine ⟨_, rfl, ?_⟩
  have n0_ := Aside0.mk (blk_below (g := gb350) (o := .cells #[.slice A0_0 l0_0.length c0_0, .string a0_1, .string a0_2, .string a0_3] 27 (0, 0)) (by (with_reducible repeat (first | refine blk_drewN ?_ _ | refine blk_drew ?_ | refine blk_alloc ?_ _)); exact BK350.out) hb)
  have n1_ := Aside0.mk (below_step (by repeat (first | (with_reducible first | exact HB.out | apply below_alloc | apply pw_below_drewN | apply below_drew1 | refine below_set ?_ GE350.out) | exact HB.out)) hb)
  clear BK350
  clear HB
  have BK350 := n0_
  have HB := n1_
  clear n0_ n1_
  (try clear hb)
  (try clear hb2)
  (try clear hk)
  (try clear hi)
  refine hK.out _ _ ⟨(blk_cell BK350.out 0).trans rfl, (blk_cell BK350.out 1).trans rfl, (blk_cell BK350.out 2).trans rfl, (blk_cell BK350.out 3).trans rfl⟩ (fun hHeld => ?_)
  clear hK K
  refine norm_ (a' := ?_) ?_ ?_
  rotate_left
  · show Act.put _ (some 5) _ = _
    simp only [Act.put, List.setIfInBounds_toArray, List.set_cons_zero, List.set_cons_succ, i64_w, i32_w]
    rfl
  refine one_ (i := 9) (N := some 12) #[true, true, true, true, true, true, true, true, true, true, false, false] rfl rfl (one_of HT_.out (by kernel_rfl)) (by decide) (fun K hK => ?_)
  refine Kd.R_lit_step Kd.string _ 9 ?hg (N := 12) ?hd (xs := ([t351, a0_1, a0_2, a0_3] : List ByteArray)) (inner := [.string t351, .string a0_1, .string a0_2, .string a0_3]) (ok := fun _ => True) (okp := fun _ => True) ?hr ?hp (fun _ hk => hk) trivial (Below.refl _ _) (Nat.le_refl _) (by simp) ?_; (case hd => rfl); (case hg => rfl); (case hr => first | (go_simp; done) | (go_simp; rfl)); (case hp => exact (Reps.one (show Kd.M Kd.string _ _ _ t351 [.string t351] from rfl) (Reps.one (show Kd.M Kd.string _ _ _ a0_1 [.string a0_1] from rfl) (Reps.one (show Kd.M Kd.string _ _ _ a0_2 [.string a0_2] from rfl) (Reps.one (show Kd.M Kd.string _ _ _ a0_3 [.string a0_3] from rfl) (Reps.none _ _))))))
  intro v353 w7 ho8 hb hg_ hnew_
  clear hg_ hnew_
  (first | rw [← Ny352.out] at ho8 | (simp only [Int.reduceToNat] at ho8; rw [← Ny352.out] at ho8))
  have n0_ := Aside0.mk (Kd.R_lower ho8 (below_size (by repeat (first | (with_reducible first | exact HB.out | apply below_alloc | apply pw_below_drewN | apply below_drew1 | refine below_set ?_ GE350.out) | exact HB.out))))
  have n1_ := Aside0.mk (blk_below (g := gb350) (o := .cells #[.slice A0_0 l0_0.length c0_0, .string a0_1, .string a0_2, .string a0_3] 27 (0, 0)) (by (with_reducible repeat (first | refine blk_drewN ?_ _ | refine blk_drew ?_ | refine blk_alloc ?_ _)); exact BK350.out) hb)
  have n2_ := Aside0.mk (below_step (by repeat (first | (with_reducible first | exact HB.out | apply below_alloc | apply pw_below_drewN | apply below_drew1 | refine below_set ?_ GE350.out) | exact HB.out)) hb)
  clear BK350
  clear HB
  have HO354 := n0_
  have BK350 := n1_
  have HB := n2_
  clear n0_ n1_ n2_
  clear hb ho8
  obtain ⟨Ao9, co9, eo9⟩ := Kd.R_slice HO354.out
  (first | subst eo9 | (injection eo9 with f1_ f2_ f3_; have f4_ := f1_.symm; have f5_ := f3_.symm; clear f1_ f2_ f3_; subst f4_; subst f5_))
  refine hK.out _ _ ⟨(blk_cell BK350.out 0).trans rfl, (blk_cell BK350.out 1).trans rfl, (blk_cell BK350.out 2).trans rfl, (blk_cell BK350.out 3).trans rfl⟩ (fun hHeld => ?_)
  clear hK K
  refine norm_ (a' := ?_) ?_ ?_
  rotate_left
  · show Act.put _ (some 12) _ = _
    simp only [Act.put, List.setIfInBounds_toArray, List.set_cons_zero, List.set_cons_succ, i64_w, i32_w]
    rfl
  refine one_ (i := 10) (N := some 13) #[true, true, true, true, true, true, true, true, true, true, true, false] rfl rfl (one_of HT_.out (by kernel_rfl)) (by decide) (fun K hK => ?_)
  refine goes_ Tryd.func82 (by kernel_rfl) rfl #[.slice Ao9 y352.length co9] (by rfl) rfl rfl (by (try simp only [List.map_toArray, List.map_cons, List.map_nil]); first | done | rfl | (simp only [List.length_drop, List.length_take]; rfl)) ?_
  with_reducible refine (impl_spaced.calls (fun k_ => some k_ = (.slice Ao9 y352.length co9 : Value).ownBlock) (.slice Ao9 y352.length co9) y352 t355 w _ ?side1 ?side2 A3.out).mono ?_
  (case side1 => repeat (first | (with_reducible first | exact HB.out | apply below_alloc | apply pw_below_drewN | apply below_drew1 | refine below_set ?_ GE350.out) | exact HB.out))
  (case side2 => exact Kd.R_tight rfl HO354.out)
  rintro e w10 ⟨rfl, hb, hkp⟩
  refine ⟨_, rfl, ?_⟩
  have n0_ := Aside0.mk (blk_kept (by (with_reducible repeat (first | refine blk_drewN ?_ _ | refine blk_drew ?_ | refine blk_alloc ?_ _)); exact BK350.out) hkp (fun hs_ => (fun e_ => (Kd.R_ne HO354.out BK350.out (by decide)) e_) hs_))
  have n1_ := Aside0.mk (hb)
  clear BK350
  clear HB
  clear HO354
  have BK350 := n0_
  have HB := n1_
  clear n0_ n1_
  (try clear hb)
  (try clear hkp)
  refine hK.out _ _ ⟨(blk_cell BK350.out 0).trans rfl, (blk_cell BK350.out 1).trans rfl, (blk_cell BK350.out 2).trans rfl, (blk_cell BK350.out 3).trans rfl⟩ (fun hHeld => ?_)
  clear hK K
  refine norm_ (a' := ?_) ?_ ?_
  rotate_left
  · show Act.put _ (some 13) _ = _
    simp only [Act.put, List.setIfInBounds_toArray, List.set_cons_zero, List.set_cons_succ, i64_w, i32_w]
    rfl
  refine pure_ (i := 11) (N := some 2) (v := ?_) (a' := ?_) #[true, true, true, true, true, true, true, true, true, true, true, true] rfl rfl (any_of HT_.out (by kernel_rfl)) (fun _ _ _ h => h) (Or.inl ⟨by rfl, ?_⟩) ?_ ?_
  rotate_left
  · intro w'
    go_simp
    with_reducible rfl
  rotate_left
  · simp only [Act.put, List.setIfInBounds_toArray, List.set_cons_zero, List.set_cons_succ, i64_w, i32_w]
    rfl
  refine done_ (done_of HT_.out (by kernel_rfl)) ?_
  try go_wp2
  go_ret
  exact ⟨by first | rfl | (simp [errW_none, errW_some] <;> rfl) | (simp [*, errW_none, errW_some] <;> rfl), by repeat (first | (with_reducible first | exact HB.out | apply below_alloc | apply pw_below_drewN | apply below_drew1 | refine below_set ?_ GE350.out) | exact HB.out)⟩

end Go.Proofs.YtcckamdpncbkoaaDoor.G

namespace Go.Proofs.YtcckamdpncbkoaaDoor.G
open Go.RowKit Go.Proofs.YtcckamdpncbkoaaDoorW.PrintWords Go.Proofs.YtcckamdpncbkoaaDoorW.PrintLast Go.Proofs.YtcckamdpncbkoaaDoor.B
set_option linter.unusedVariables false
set_option linter.unusedSimpArgs false
def spB : ByteArray := ⟨#[32]⟩
def glu (s p : ByteArray) : ByteArray := (if s.size ≠ 0 ∧ p.size ≠ 0 then s ++ spB else s) ++ p
def joinD (l : List ByteArray) : ByteArray := l.foldl glu ByteArray.empty
def sumB (l : List ByteArray) : Nat := (l.map fun x => x.size + 1).sum
theorem sumB_cons (a : ByteArray) (l : List ByteArray) : sumB (a :: l) = a.size + 1 + sumB l := by simp [sumB]
theorem glu_size (s p : ByteArray) : (glu s p).size ≤ s.size + (p.size + 1) := by
  unfold glu
  rw [size_append]
  split
  · rw [size_append]; show s.size + 1 + p.size ≤ _; omega
  · omega
theorem fold_size (l : List ByteArray) : ∀ s : ByteArray, (l.foldl glu s).size ≤ s.size + sumB l := by
  induction l with
  | nil => intro s; simp [sumB]
  | cons p l ih =>
    intro s
    have := ih (glu s p)
    have h2 := glu_size s p
    rw [List.foldl_cons, sumB_cons]; omega
theorem joinD_size (l : List ByteArray) : (joinD l).size ≤ sumB l := by
  have := fold_size l ByteArray.empty
  have e : ByteArray.empty.size = 0 := rfl
  unfold joinD; omega
theorem L_nil {s : ByteArray} (h : s.size = 0) : L s = [] := (size_pos_iff s).1 h
theorem L_glu (s p : ByteArray) : L (glu s p) = if s.size ≠ 0 ∧ p.size ≠ 0 then L s ++ 32 :: L p else L s ++ L p := by
  unfold glu
  rw [L_append]
  split
  · rw [L_append, List.append_assoc]; rfl
  · rfl
theorem fold_join (l : List ByteArray) : ∀ s : ByteArray, L (l.foldl glu s) = if s.size = 0 then Lib.join ((l.filter fun x => !decide (x.size = 0)).map (·.data.toList)) [32] else L s ++ Lib.joinTail [32] ((l.filter fun x => !decide (x.size = 0)).map (·.data.toList)) := by
  induction l with
  | nil =>
    intro s
    by_cases h : s.size = 0
    · rw [if_pos h]; simp [Lib.join_nil, L_nil h]
    · rw [if_neg h]; simp [Lib.joinTail]
  | cons p l ih =>
    intro s
    rw [List.foldl_cons, ih]
    by_cases hp : p.size = 0
    · have e : glu s p = s := L_inj (by rw [L_glu, if_neg (fun h => h.2 hp), L_nil hp, List.append_nil])
      rw [e, List.filter_cons_of_neg (by simp [hp])]
    · have hg : ¬ (glu s p).size = 0 := by rw [← L_len, L_glu]; split <;> simp [L_len, hp]
      rw [if_neg hg, List.filter_cons_of_pos (by simp [hp]), List.map_cons, L_glu]
      by_cases h : s.size = 0
      · rw [if_neg (fun x => x.1 h), if_pos h, L_nil h, List.nil_append, Lib.join_cons]
      · rw [if_pos (And.intro h hp), if_neg h]
        simp [Lib.joinTail]
theorem join_filter (l : List ByteArray) : Lib.join ((l.filter fun x => !decide (x.size = 0)).map (·.data.toList)) (⟨#[32]⟩ : ByteArray).data.toList = L (joinD l) := by
  have := fold_join l ByteArray.empty
  rw [if_pos (show ByteArray.empty.size = 0 from rfl)] at this
  exact this.symm
theorem filter_all {l : List ByteArray} (h : ∀ x ∈ l, 1 ≤ x.size) : (l.filter fun x => !decide (x.size = 0)) = l := by
  rw [List.filter_eq_self]
  intro x hx
  have := h x hx
  show (!decide (x.size = 0)) = true
  rw [decide_eq_false (by omega)]; rfl
theorem libJoin_filter (l : List ByteArray) (hl : l.length ≤ 1000) (hs : sumB l ≤ 140737488355328) : strings_Join.f (l.filter fun x => !decide (x.size = 0)) (⟨#[32]⟩ : ByteArray) = some (joinD l) := by
  have h1 : (l.filter fun x => !decide (x.size = 0)).length ≤ l.length := List.length_filter_le _ _
  have h2 := joinD_size l
  unfold strings_Join.f
  rw [join_filter, if_pos ⟨by omega, by rw [L_len]; omega⟩]
theorem libJoin_all (l : List ByteArray) (hp : ∀ x ∈ l, 1 ≤ x.size) (hl : l.length ≤ 1000) (hs : sumB l ≤ 140737488355328) : strings_Join.f l (⟨#[32]⟩ : ByteArray) = some (joinD l) := by
  have := libJoin_filter l hl hs
  rwa [filter_all hp] at this
theorem spaced_eq (l : List ByteArray) (h1 : 1 ≤ l.length) (hl : l.length ≤ 1000) (hs : sumB l ≤ 140737488355328) : impl_spaced.f l = some (joinD l) := by
  unfold impl_spaced.f
  rw [if_pos ⟨h1, hl⟩]
  exact libJoin_filter l hl hs
theorem spec_join_loop (l : List ByteArray) (hl : l.length ≤ 4611686018427387904) (hs : sumB l ≤ 140737488355328) (d : Nat) : ∀ (s : ByteArray) (i : Nat), i ≤ l.length → l.length - i = d → s.size + sumB (l.drop i) ≤ 140737488355328 →
    Ev (fun k => spec_l2Join.l0 k l s (i : Int)) ((l.drop i).foldl glu s) := by
  induction d with
  | zero =>
    intro s i h1 hd hb
    refine Ev.step (f := fun _ => some s) (fun k => ?_) (ev_eq (Ev.now _) ?_)
    · simp only [spec_l2Join.l0]; rw [if_neg (by omega)]
    · rw [List.drop_of_length_le (by omega)]; rfl
  | succ d ih =>
    intro s i h1 hd hb
    have hi : i < l.length := by omega
    have hw : wrap64 ((i : Int) + 1) = ((i + 1 : Nat) : Int) := by rw [w64 (by omega) (by omega)]; rfl
    rw [List.drop_eq_getElem_cons hi] at hb ⊢
    rw [sumB_cons] at hb
    have hg := glu_size s l[i]
    rw [List.foldl_cons]
    refine Ev.step (f := fun k => spec_l2Join.l0 k l (glu s l[i]) ((i + 1 : Nat) : Int)) (fun k => ?_) (ih (glu s l[i]) (i + 1) (by omega) (by omega) (by omega))
    simp only [spec_l2Join.l0, rd_get l i hi]
    have a1 : (i : Int) < (l.length : Int) := by omega
    have a2 : (0 : Int) ≤ (i : Int) := by omega
    have a3 : s.size + l[i].size ≤ 9223372036854775807 := by omega
    have a4 : s.size + 1 ≤ 9223372036854775807 := by omega
    have a5 : (s ++ (⟨#[32]⟩ : ByteArray)).size + l[i].size ≤ 9223372036854775807 := by
      rw [size_append]; show s.size + 1 + l[i].size ≤ _; omega
    simp only [if_pos a1, if_pos a2, if_pos a3, if_pos a4, if_pos a5, hw]
    unfold glu
    by_cases hs0 : s.size = 0
    · have b : s.toList = ([] : List UInt8) := (nil_iff s).2 hs0
      simp only [b, hs0, ne_eq, not_true_eq_false, false_and, if_true, if_false]
    · have b : ¬ s.toList = ([] : List UInt8) := fun e => hs0 ((nil_iff s).1 e)
      rw [if_neg b]
      by_cases hp : l[i].size = 0
      · have b2 : (l[i]).toList = ([] : List UInt8) := (nil_iff _).2 hp
        rw [if_pos b2, if_neg (fun x : s.size ≠ 0 ∧ l[i].size ≠ 0 => x.2 hp)]
      · have b2 : ¬ (l[i]).toList = ([] : List UInt8) := fun e => hp ((nil_iff _).1 e)
        rw [if_neg b2, if_pos (show s.size ≠ 0 ∧ l[i].size ≠ 0 from ⟨hs0, hp⟩)]
        rfl
theorem spec_join (l : List ByteArray) (hl : l.length ≤ 4611686018427387904) (hs : sumB l ≤ 140737488355328) : Ev (fun k => spec_l2Join.f k l) (joinD l) := by
  have := spec_join_loop l hl hs _ ByteArray.empty 0 (by omega) rfl (by rw [List.drop_zero]; show 0 + _ ≤ _; omega)
  unfold spec_l2Join.f
  rw [List.drop_zero] at this
  exact this
theorem sumB_bulk (l : List ByteArray) : sumB l = bulkS l := by
  induction l with
  | nil => rfl
  | cons a l ih => rw [sumB_cons, ih]; unfold bulkS; rw [bytesS_cons, List.length_cons]; omega
def fullD (G : List ByteArray) (P F S : ByteArray) : ByteArray := joinD [joinD G, P, F, S]
theorem full_sum (G : List ByteArray) (P F S : ByteArray) (h : bulkN G P F S ≤ 1048576) : sumB G ≤ 1048576 ∧ sumB [joinD G, P, F, S] ≤ 1048580 := by
  have h1 := joinD_size G
  have h2 := sumB_bulk G
  unfold bulkN at h
  simp only [sumB_cons]
  refine ⟨by omega, ?_⟩
  show _ + (_ + (_ + (_ + sumB []))) ≤ _
  have : sumB [] = 0 := rfl
  omega
theorem spec_full (G : List ByteArray) (P F S : ByteArray) (h : bulkN G P F S ≤ 1048576) : Ev (fun k => spec_l2Full.f k G P F S) (fullD G P F S) := by
  obtain ⟨h1, h2⟩ := full_sum G P F S h
  have hn : G.length ≤ bulkN G P F S := by unfold bulkN bulkS; omega
  unfold spec_l2Full.f spec_l2Given.f
  exact Ev.bind (Ev.bind (spec_join G (by omega) (by omega)) (Ev.now _)) (Ev.bind (spec_join _ (by simp) (by omega)) (Ev.now _))
theorem impl_full (G : List ByteArray) (P F S : ByteArray) (hg : goodN G P F S = true) (h : bulkN G P F S ≤ 1048576) : impl_fullForm.f G P F S = some (fullD G P F S) := by
  obtain ⟨h1, h2⟩ := full_sum G P F S h
  obtain ⟨h3, h4⟩ := good_pos hg
  unfold impl_fullForm.f
  rw [libJoin_all G h4 (by omega) (by omega)]
  show (impl_spaced.f [joinD G, P, F, S]).bind _ = _
  rw [spaced_eq _ (by simp) (by simp) (by omega)]
  rfl
end Go.Proofs.YtcckamdpncbkoaaDoor.G

namespace Go.Proofs.YtcckamdpncbkoaaDoor.G
open Go.RowKit Go.Proofs.YtcckamdpncbkoaaDoorW.PrintWords Go.Proofs.YtcckamdpncbkoaaDoorW.PrintLast Go.Proofs.YtcckamdpncbkoaaDoor.B
set_option linter.unusedVariables false
set_option linter.unusedSimpArgs false
def hyp (c : Int) : ByteArray := mkB [45, UInt8.ofNat c.toNat, 46]
def upC (c : Int) : Int := if loD c = true then c - 32 else c
def hyD (w : ByteArray) : Nat → Nat → ByteArray → ByteArray
  | 0, _, a => a
  | d + 1, i, a => hyD w d (i + 1) (if bt w (i : Int) = 45 then a ++ hyp (upC (bt w ((i + 1 : Nat) : Int))) else a)
theorem hyD_back (w : ByteArray) (d : Nat) : ∀ (i : Nat) (a : ByteArray), bt w ((i + d : Nat) : Int) ≠ 45 → hyD w (d + 1) i a = hyD w d i a := by
  induction d with
  | zero => intro i a h; simp only [hyD]; rw [if_neg (show ¬ bt w (i : Int) = 45 from h)]
  | succ d ih =>
    intro i a h
    have e : i + (d + 1) = (i + 1) + d := by omega
    rw [e] at h
    show hyD w (d + 1) (i + 1) _ = hyD w d (i + 1) _
    exact ih (i + 1) _ h
theorem hyD_front (w : ByteArray) (d i : Nat) (a : ByteArray) (h : bt w (i : Int) ≠ 45) : hyD w (d + 1) i a = hyD w d (i + 1) a := by
  show hyD w d (i + 1) _ = _
  rw [if_neg h]
theorem hyp_size (c : Int) : (hyp c).size = 3 := by unfold hyp; rw [size_mk]; rfl
theorem hyD_size (w : ByteArray) (d : Nat) : ∀ (i : Nat) (a : ByteArray), a.size ≤ (hyD w d i a).size ∧ (hyD w d i a).size ≤ a.size + 3 * d := by
  induction d with
  | zero => intro i a; exact ⟨Nat.le_refl _, Nat.le_refl _⟩
  | succ d ih =>
    intro i a
    show a.size ≤ (hyD w d (i + 1) _).size ∧ (hyD w d (i + 1) _).size ≤ _
    have := ih (i + 1) (if bt w (i : Int) = 45 then a ++ hyp (upC (bt w ((i + 1 : Nat) : Int))) else a)
    have e : (if bt w (i : Int) = 45 then a ++ hyp (upC (bt w ((i + 1 : Nat) : Int))) else a).size ≤ a.size + 3 ∧ a.size ≤ (if bt w (i : Int) = 45 then a ++ hyp (upC (bt w ((i + 1 : Nat) : Int))) else a).size := by
      split
      · rw [size_append, hyp_size]; omega
      · omega
    omega
theorem bt_rng (s : ByteArray) (i : Nat) (h : i < s.size) : 0 ≤ bt s (i : Int) ∧ bt s (i : Int) ≤ 255 := by
  rw [bt_get s i h]
  have := ((L s)[i]'(by rw [L_len]; exact h)).toNat_lt
  omega
theorem le_rng {c : Int} (h : leD c = true) : 65 ≤ c ∧ c ≤ 122 := by
  unfold leD upD loD at h
  simp only [Bool.or_eq_true, Bool.and_eq_true, decide_eq_true_eq] at h
  omega
theorem wl_at (s : ByteArray) (d : Nat) : ∀ i j : Nat, wlD s d i = true → i ≤ j → j < i + d → okD s j = true := by
  induction d with
  | zero => intro i j h h1 h2; omega
  | succ d ih =>
    intro i j h h1 h2
    unfold wlD at h
    rw [Bool.and_eq_true] at h
    by_cases e : j = i
    · rw [e]; exact h.1
    · exact ih (i + 1) j h.2 (by omega) (by omega)
structure Wrd (w : ByteArray) : Prop where
  s1 : 1 ≤ w.size
  s2 : w.size ≤ 12
  h0 : bt w ((0 : Nat) : Int) ≠ 45
  hn : bt w ((w.size - 1 : Nat) : Int) ≠ 45
  asc : ∀ j : Nat, j < w.size → 0 ≤ bt w (j : Int) ∧ bt w (j : Int) < 128
theorem wrd_of {w : ByteArray} (h : wordD w = true) : Wrd w := by
  obtain ⟨s1, s2⟩ := word_in h
  unfold wordD at h
  simp only [Bool.and_eq_true] at h
  obtain ⟨_, ⟨h1, h2⟩, h3⟩ := h
  have r1 := le_rng h1
  have e : ((w.size : Int) - 1) = ((w.size - 1 : Nat) : Int) := by omega
  rw [e] at h2
  have r2 := le_rng h2
  refine ⟨s1, s2, fun e => by rw [show ((0 : Nat) : Int) = 0 from rfl] at e; omega, fun e => by omega, fun j hj => ?_⟩
  by_cases h0 : j = 0
  · subst h0; rw [show ((0 : Nat) : Int) = 0 from rfl]; omega
  · have := wl_at w _ 1 j h3 (by omega) (by omega)
    unfold okD at this
    simp only [Bool.or_eq_true, Bool.and_eq_true, decide_eq_true_eq] at this
    rcases this with h | ⟨h, _⟩
    · have := le_rng h; omega
    · omega
theorem great_wrd {w : ByteArray} (h : greatD w = true) : Wrd w := by
  unfold greatD at h; rw [Bool.and_eq_true] at h; exact wrd_of h.1
theorem up_rng {c : Int} (h : 0 ≤ c ∧ c < 128) : 0 ≤ upC c ∧ upC c < 128 := by
  unfold upC
  split
  · rename_i e
    unfold loD at e
    simp only [Bool.and_eq_true, decide_eq_true_eq] at e
    omega
  · exact h
theorem impl_upB (c : Int) (h : 0 ≤ c ∧ c < 128) : impl_upperByte.f c = some (upC c) := by
  unfold impl_upperByte.f upC
  rw [impl_lo]
  show (if loD c = true then _ else _) = _
  cases e : loD c with
  | false => rw [if_neg (by simp), if_neg (by simp)]
  | true =>
    unfold loD at e
    simp only [Bool.and_eq_true, decide_eq_true_eq] at e
    rw [if_pos rfl, if_pos rfl]
    congr 1; omega
theorem enc_one (c : Int) (h : 0 ≤ c ∧ c < 128) : Utf8.encode (wrap32 c) = mkB [UInt8.ofNat c.toNat] := by
  have e : wrap32 c = c := by unfold wrap32; omega
  have v : Utf8.valid c = true := by unfold Utf8.valid; simp; omega
  rw [e]
  unfold Utf8.encode
  simp only [v, if_true]
  rw [if_pos (by omega)]
  rfl
/-- What the program puts behind a text at a hyphen. -/
theorem hyp_impl (a : ByteArray) (u : Int) : a ++ (((⟨#[45]⟩ : ByteArray) ++ mkB [UInt8.ofNat u.toNat]) ++ (⟨#[46]⟩ : ByteArray)) = a ++ hyp u := by
  apply L_inj; simp only [L_append, L_mk, hyp]; rfl
theorem hyp_spec (a : ByteArray) (u : Int) : ((a ++ (⟨#[45]⟩ : ByteArray)) ++ strOfNums [u]) ++ (⟨#[46]⟩ : ByteArray) = a ++ hyp u := by
  apply L_inj
  have e : L (strOfNums [u]) = [UInt8.ofNat u.toNat] := rfl
  simp only [L_append, L_mk, hyp, e, List.append_assoc]; rfl
theorem str_one (u : Int) : (strOfNums [u]).size = 1 := rfl
theorem one_size (n : UInt8) : (⟨#[n]⟩ : ByteArray).size = 1 := rfl
theorem spec_ini_l1 (parts : List ByteArray) (x4 : Int) (w : ByteArray) (hW : Wrd w) (G : List ByteArray) (P F S v : ByteArray) (hp : parts.length < 8796093022208) (d : Nat) : ∀ (i : Nat) (a : ByteArray), i + 1 ≤ w.size → w.size - (i + 1) = d → a.size + 3 * d ≤ 1000 →
    Ev (fun k => spec_l2Initials.l0 k (parts ++ [hyD w d i a]) (wrap64 (x4 + 1)) G P F S) v → Ev (fun k => spec_l2Initials.l1 k parts x4 w a ((i + 1 : Nat) : Int) G P F S) v := by
  induction d with
  | zero =>
    intro i a h1 h2 h3 hv
    refine Ev.step (fun k => ?_) hv
    simp only [spec_l2Initials.l1]
    rw [if_neg (by omega), if_pos hp]
    rfl
  | succ d ih =>
    intro i a h1 h2 h3 hv
    have hs := hW.s2
    have hw1 : wrap64 (((i + 1 : Nat) : Int) - 1) = (i : Int) := by rw [w64 (by omega) (by omega)]; omega
    have hw2 : wrap64 (((i + 1 : Nat) : Int) + 1) = ((i + 1 + 1 : Nat) : Int) := by rw [w64 (by omega) (by omega)]; rfl
    have b := hW.asc (i + 1) (by omega)
    have a1 : ((i + 1 : Nat) : Int) < (w.size : Int) := by omega
    have a2 : (0 : Int) ≤ (i : Int) := by omega
    have a3 : (i : Int) < (w.size : Int) := by omega
    have a4 : (0 : Int) ≤ ((i + 1 : Nat) : Int) := by omega
    have a5 : a.size + 1 ≤ 9223372036854775807 := by omega
    have hv' : Ev (fun k => spec_l2Initials.l0 k (parts ++ [hyD w d (i + 1) (if bt w (i : Int) = 45 then a ++ hyp (upC (bt w ((i + 1 : Nat) : Int))) else a)]) (wrap64 (x4 + 1)) G P F S) v := hv
    by_cases c : bt w (i : Int) = 45
    · rw [if_pos c] at hv'
      have := ih (i + 1) (a ++ hyp (upC (bt w ((i + 1 : Nat) : Int)))) (by omega) (by omega) (by rw [size_append, hyp_size]; omega) hv'
      refine Ev.step (fun k => ?_) this
      simp only [spec_l2Initials.l1]
      rw [if_pos a1, hw1, if_pos a2, if_pos a3, if_pos c, if_pos a4, spec_lo, hw2]
      simp only [Option.bind_some]
      have a6 : ∀ u : Int, (a ++ (⟨#[45]⟩ : ByteArray)).size + (strOfNums [u]).size ≤ 9223372036854775807 := fun u => by rw [size_append, str_one, one_size]; omega
      have a7 : ∀ u : Int, ((a ++ (⟨#[45]⟩ : ByteArray)) ++ strOfNums [u]).size + 1 ≤ 9223372036854775807 := fun u => by rw [size_append, size_append, str_one, one_size]; omega
      cases e : loD (bt w ((i + 1 : Nat) : Int)) with
      | false =>
        have eu : upC (bt w ((i + 1 : Nat) : Int)) = bt w ((i + 1 : Nat) : Int) := by unfold upC; rw [if_neg (by rw [e]; exact Bool.false_ne_true)]
        rw [if_neg (by simp), if_pos a5, if_pos (a6 _), if_pos (a7 _), hyp_spec, eu]
      | true =>
        have eu : upC (bt w ((i + 1 : Nat) : Int)) = bt w ((i + 1 : Nat) : Int) - 32 := by unfold upC; rw [if_pos e]
        have r := up_rng b
        rw [eu] at r
        have em : (bt w ((i + 1 : Nat) : Int) - 32) % 256 = bt w ((i + 1 : Nat) : Int) - 32 := by omega
        rw [if_pos rfl, if_pos a5, em, if_pos (a6 _), if_pos (a7 _), hyp_spec, eu]
    · rw [if_neg c] at hv'
      have := ih (i + 1) a (by omega) (by omega) (by omega) hv'
      refine Ev.step (fun k => ?_) this
      simp only [spec_l2Initials.l1]
      rw [if_pos a1, hw1, if_pos a2, if_pos a3, if_neg c, hw2]
theorem impl_ini_l1 (parts : List ByteArray) (w : ByteArray) (hW : Wrd w) (G : List ByteArray) (x11 x12 : Int) (v : ByteArray) (hp : parts.length < 8796093022208) (d : Nat) : ∀ (i : Nat) (a : ByteArray), i ≤ w.size → w.size - i = d → a.size + 3 * d ≤ 1000 →
    Ev (fun k => impl_initialsOf.l0 k (parts ++ [hyD w d i a]) G x11 (wrap64 (x12 + 1))) v → Ev (fun k => impl_initialsOf.l1 k parts w a (i : Int) G x11 x12) v := by
  induction d with
  | zero =>
    intro i a h1 h2 h3 hv
    refine Ev.step (fun k => ?_) hv
    simp only [impl_initialsOf.l1]
    rw [if_neg (by omega), if_pos hp]
    rfl
  | succ d ih =>
    intro i a h1 h2 h3 hv
    have hs := hW.s2
    have hw2 : wrap64 ((i : Int) + 1) = ((i + 1 : Nat) : Int) := by rw [w64 (by omega) (by omega)]; rfl
    have a1 : (i : Int) < (w.size : Int) := by omega
    have a2 : (0 : Int) ≤ (i : Int) := by omega
    have a4 : (0 : Int) ≤ ((i + 1 : Nat) : Int) := by omega
    have hv' : Ev (fun k => impl_initialsOf.l0 k (parts ++ [hyD w d (i + 1) (if bt w (i : Int) = 45 then a ++ hyp (upC (bt w ((i + 1 : Nat) : Int))) else a)]) G x11 (wrap64 (x12 + 1))) v := hv
    by_cases c : bt w (i : Int) = 45
    · rw [if_pos c] at hv'
      have hne : i ≠ w.size - 1 := fun e => hW.hn (by rw [← e]; exact c)
      have b := hW.asc (i + 1) (by omega)
      have a3 : ((i + 1 : Nat) : Int) < (w.size : Int) := by omega
      have := ih (i + 1) (a ++ hyp (upC (bt w ((i + 1 : Nat) : Int)))) (by omega) (by omega) (by rw [size_append, hyp_size]; omega) hv'
      refine Ev.step (fun k => ?_) this
      simp only [impl_initialsOf.l1]
      rw [if_pos a1, if_pos a2, if_pos c, hw2, if_pos a4, if_pos a3, impl_upB _ b]
      simp only [Option.bind_some]
      have s1 : (mkB [UInt8.ofNat (upC (bt w ((i + 1 : Nat) : Int))).toNat]).size = 1 := by rw [size_mk]; rfl
      rw [enc_one _ (up_rng b), s1, if_pos (by omega), if_pos (by rw [size_append, s1, one_size]; omega), if_pos (by rw [size_append, size_append, s1, one_size, one_size]; omega), hyp_impl]
    · rw [if_neg c] at hv'
      have := ih (i + 1) a (by omega) (by omega) (by omega) hv'
      refine Ev.step (fun k => ?_) this
      simp only [impl_initialsOf.l1]
      rw [if_pos a1, if_pos a2, if_neg c, hw2]
def iniD (w : ByteArray) : ByteArray := hyD w (w.size - 1) 1 (w.extract 0 1 ++ (⟨#[46]⟩ : ByteArray))
theorem head_size (w : ByteArray) (h : 1 ≤ w.size) : (w.extract 0 1 ++ (⟨#[46]⟩ : ByteArray)).size = 2 := by
  rw [size_append, ByteArray.size_extract, one_size]; omega
theorem ini_alt {w : ByteArray} (hW : Wrd w) : hyD w (w.size - 1) 0 (w.extract 0 1 ++ (⟨#[46]⟩ : ByteArray)) = iniD w := by
  unfold iniD
  rw [← hyD_front w (w.size - 1) 0 _ hW.h0]
  exact (hyD_back w (w.size - 1) 0 _ (by rw [Nat.zero_add]; exact hW.hn)).symm
theorem ini_size {w : ByteArray} (hW : Wrd w) : 1 ≤ (iniD w).size ∧ (iniD w).size ≤ 40 := by
  have h1 := hyD_size w (w.size - 1) 1 (w.extract 0 1 ++ (⟨#[46]⟩ : ByteArray))
  have h2 := head_size w hW.s1
  have h3 := hW.s2
  unfold iniD
  omega
def PartsOk (l : List ByteArray) : Prop := l.length ≤ 3 ∧ ∀ x ∈ l, 1 ≤ x.size ∧ x.size ≤ 40
theorem parts_sum (l : List ByteArray) (h : ∀ x ∈ l, 1 ≤ x.size ∧ x.size ≤ 40) : sumB l ≤ 41 * l.length := by
  induction l with
  | nil => exact Nat.le_refl _
  | cons a l ih =>
    have := ih (fun x hx => h x (List.mem_cons_of_mem _ hx))
    have := (h a (List.mem_cons_self)).2
    rw [sumB_cons, List.length_cons]; omega
theorem spec_ini_l0 (G : List ByteArray) (P F S : ByteArray) (hG : G.length ≤ 3) (hW : ∀ w ∈ G, Wrd w) (d : Nat) : ∀ (i : Nat) (parts : List ByteArray), i ≤ G.length → G.length - i = d → parts.length = i → (∀ x ∈ parts, 1 ≤ x.size ∧ x.size ≤ 40) →
    Ev (fun k => spec_l2Initials.l0 k parts (i : Int) G P F S) (joinD (parts ++ (G.drop i).map iniD)) := by
  induction d with
  | zero =>
    intro i parts h1 h2 h3 h4
    have hb := parts_sum parts h4
    refine Ev.step (f := fun k => (spec_l2Join.f k parts).bind fun t => some t) (fun k => ?_) (Ev.bind (spec_join parts (by omega) (by omega)) (ev_eq (Ev.now _) ?_))
    · simp only [spec_l2Initials.l0]; rw [if_neg (by omega)]
    · rw [List.drop_of_length_le (by omega), List.map_nil, List.append_nil]
  | succ d ih =>
    intro i parts h1 h2 h3 h4
    have hi : i < G.length := by omega
    have w1 := hW G[i] (List.getElem_mem hi)
    have hs := head_size G[i] w1.s1
    have hw : wrap64 ((i : Int) + 1) = ((i + 1 : Nat) : Int) := by rw [w64 (by omega) (by omega)]; rfl
    have hn := ih (i + 1) (parts ++ [iniD G[i]]) (by omega) (by omega) (by simp [h3]) (fun x hx => by
      rcases List.mem_append.1 hx with h | h
      · exact h4 x h
      · rw [List.mem_singleton.1 h]; exact ini_size w1)
    rw [← ini_alt w1, ← hw] at hn
    have h5 := w1.s1
    have h6 := w1.s2
    have h7 := spec_ini_l1 parts (i : Int) G[i] w1 G P F S _ (by omega) (G[i].size - 1) 0 _ (by omega) (by omega) (by omega) hn
    rw [List.drop_eq_getElem_cons hi, List.map_cons]
    refine Ev.step (fun k => ?_) (ev_eq h7 (by rw [ini_alt w1, List.append_assoc]; rfl))
    simp only [spec_l2Initials.l0, rd_get G i hi]
    have a0 : (0 : Nat) ≤ 1 := by omega
    rw [if_pos (by omega), if_pos (by omega), if_pos a0, if_pos (by omega), if_pos (by rw [ByteArray.size_extract]; omega)]
    rfl
theorem impl_ini_l0 (G : List ByteArray) (hG : G.length ≤ 3) (hW : ∀ w ∈ G, Wrd w) (d : Nat) : ∀ (i : Nat) (parts : List ByteArray), i ≤ G.length → G.length - i = d → parts.length = i → (∀ x ∈ parts, 1 ≤ x.size ∧ x.size ≤ 40) →
    Ev (fun k => impl_initialsOf.l0 k parts G (G.length : Int) (i : Int)) (joinD (parts ++ (G.drop i).map iniD)) := by
  induction d with
  | zero =>
    intro i parts h1 h2 h3 h4
    have hb := parts_sum parts h4
    refine Ev.step (f := fun k => (strings_Join.f parts (⟨#[32]⟩ : ByteArray)).bind fun t => some t) (fun k => ?_) (ev_bind0 (libJoin_all parts (fun x hx => (h4 x hx).1) (by omega) (by omega)) (ev_eq (Ev.now _) ?_))
    · simp only [impl_initialsOf.l0]; rw [if_neg (by omega)]
    · rw [List.drop_of_length_le (by omega), List.map_nil, List.append_nil]
  | succ d ih =>
    intro i parts h1 h2 h3 h4
    have hi : i < G.length := by omega
    have w1 := hW G[i] (List.getElem_mem hi)
    have hs := head_size G[i] w1.s1
    have hw : wrap64 ((i : Int) + 1) = ((i + 1 : Nat) : Int) := by rw [w64 (by omega) (by omega)]; rfl
    have hn := ih (i + 1) (parts ++ [iniD G[i]]) (by omega) (by omega) (by simp [h3]) (fun x hx => by
      rcases List.mem_append.1 hx with h | h
      · exact h4 x h
      · rw [List.mem_singleton.1 h]; exact ini_size w1)
    rw [← hw] at hn
    have h5 := w1.s1
    have h6 := w1.s2
    have h7 := impl_ini_l1 parts G[i] w1 G (G.length : Int) (i : Int) _ (by omega) (G[i].size - 1) 1 _ (by omega) (by omega) (by omega) hn
    rw [List.drop_eq_getElem_cons hi, List.map_cons]
    refine Ev.step (fun k => ?_) (ev_eq h7 (by rw [List.append_assoc]; rfl))
    simp only [impl_initialsOf.l0, rd_get G i hi]
    have a0 : (0 : Nat) ≤ 1 := by omega
    rw [if_pos (by omega), if_pos (by omega), if_pos (by omega), if_pos a0, if_pos (by omega), if_pos (by rw [ByteArray.size_extract]; omega)]
    rfl
def initD (G : List ByteArray) : ByteArray := joinD (G.map iniD)
theorem good_wrd {G : List ByteArray} {P F S : ByteArray} (h : goodN G P F S = true) : G.length ≤ 3 ∧ ∀ w ∈ G, Wrd w := by
  unfold goodN at h
  simp only [Bool.and_eq_true, decide_eq_true_eq] at h
  exact ⟨h.2.1, fun x hx => great_wrd (List.all_eq_true.1 h.1 x hx)⟩
theorem spec_ini (G : List ByteArray) (P F S : ByteArray) (hg : goodN G P F S = true) : Ev (fun k => spec_l2Initials.f k G P F S) (initD G) := by
  obtain ⟨h1, h2⟩ := good_wrd hg
  have := spec_ini_l0 G P F S h1 h2 _ 0 [] (by omega) rfl rfl (fun x hx => by cases hx)
  unfold spec_l2Initials.f
  exact this
theorem impl_ini (G : List ByteArray) (P F S : ByteArray) (hg : goodN G P F S = true) : Ev (fun k => impl_initialsOf.f k G P F S) (initD G) := by
  obtain ⟨h1, h2⟩ := good_wrd hg
  have := impl_ini_l0 G h1 h2 _ 0 [] (by omega) rfl rfl (fun x hx => by cases hx)
  unfold impl_initialsOf.f
  exact this
theorem init_size {G : List ByteArray} {P F S : ByteArray} (hg : goodN G P F S = true) : (initD G).size ≤ 123 := by
  obtain ⟨h1, h2⟩ := good_wrd hg
  have h3 := parts_sum (G.map iniD) (fun x hx => by obtain ⟨y, hy, rfl⟩ := List.mem_map.1 hx; exact ini_size (h2 y hy))
  have h4 := joinD_size (G.map iniD)
  rw [List.length_map] at h3
  unfold initD; omega
end Go.Proofs.YtcckamdpncbkoaaDoor.G

namespace Go.Proofs.YtcckamdpncbkoaaDoor.Pure
open Go.RowKit Go.Proofs.YtcckamdpncbkoaaDoor.G Go.Proofs.YtcckamdpncbkoaaDoorW.PrintWords Go.Proofs.YtcckamdpncbkoaaDoorW.PrintLast Go.Proofs.YtcckamdpncbkoaaDoor.B Go.Proofs.YtcckamdpncbkoaaDoor.Opn
set_option linter.unusedVariables false
set_option linter.unusedSimpArgs false
def frmR (G : List ByteArray) (P F S : ByteArray) : ByteArray × Bool := if goodN G P F S = true then (initD G, true) else ((⟨#[]⟩ : ByteArray), false)
theorem spec_f (G : List ByteArray) (P F S : ByteArray) (h : bulkN G P F S ≤ 1048576) : Ev (fun k => spec_InitialsOf.f k G P F S) (frmR G P F S) := by
  have hn : G.length ≤ bulkN G P F S ∧ P.size ≤ bulkN G P F S := by unfold bulkN bulkS; omega
  unfold spec_InitialsOf.f frmR
  refine Ev.bind (spec_name G P F S (by omega) (by omega)) ?_
  exact ev_ite (fun hg => Ev.bind (spec_ini G P F S hg) (Ev.now _)) (fun _ => Ev.now _)
theorem impl_f (G : List ByteArray) (P F S : ByteArray) (h : bulkN G P F S ≤ 1048576) : Ev (fun k => impl_InitialsOf.f k G P F S) (frmR G P F S) := by
  have hn : G.length ≤ bulkN G P F S ∧ P.size ≤ bulkN G P F S := by unfold bulkN bulkS; omega
  unfold impl_InitialsOf.f frmR
  refine Ev.bind (impl_valid G P F S (by omega) (by omega)) ?_
  exact ev_ite (fun hg => Ev.bind (impl_ini G P F S hg) (Ev.now _)) (fun _ => Ev.now _)
theorem FnExactInitialsOf : laws_FnExactInitialsOf.Pur := by
  intro G P F S hG hP hF hS
  apply Ev.rounds
  unfold laws_FnExactInitialsOf.f
  refine Ev.bind (szN_ev G P F S hG.2 hG.1 hP hF hS 1048576 (by omega) (by omega)) ?_
  by_cases c : (bulkN G P F S : Int) ≤ 1048576
  · have hl : lftOf 1048576 (bulkN G P F S) = 1048576 - bulkN G P F S := by unfold lftOf; rw [if_pos c]
    have hn : G.length ≤ bulkN G P F S ∧ P.size ≤ bulkN G P F S := by unfold bulkN bulkS; omega
    have hs := spec_f G P F S (by omega)
    have hi := impl_f G P F S (by omega)
    have ht := toN_ev G P F S (by omega)
    have he := eqN_same G P F S (by omega)
    rw [hl]
    refine ev_neg (by omega) (Ev.bind ht (Ev.bind hs (Ev.bind ht (Ev.bind hi (ev_pos rfl ?_)))))
    have e : ((frmR G P F S).2 != (frmR G P F S).2) = false := by simp
    rw [e]
    refine Ev.step (f := fun k => (laws_toName.f k G P F S).bind fun bt378 => ((laws_eqName.f k G P F S bt378.1 bt378.2.1 bt378.2.2.1 bt378.2.2.2).bind fun t384 => (if t384 = true then (some true) else (some false)))) (fun k => by simp [laws_FnExactInitialsOf.j0]) ?_
    exact Ev.bind ht (Ev.bind he (ev_pos rfl (Ev.now _)))
  · have hl : lftOf 1048576 (bulkN G P F S) = -1 := by unfold lftOf; rw [if_neg c]
    rw [hl]
    exact ev_pos (by omega) (Ev.now _)
end Go.Proofs.YtcckamdpncbkoaaDoor.Pure
