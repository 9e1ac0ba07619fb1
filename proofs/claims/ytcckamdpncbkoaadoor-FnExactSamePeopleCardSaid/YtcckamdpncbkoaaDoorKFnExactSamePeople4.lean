/- Texts of this session for the law FnExactSamePeople, put together by a program (merge.py): each ends with its namespace; conditions stand with each theorem. -/
import Derived.Test.YtcckamdpncbkoaaDoorKFnExactSamePeople1
import Derived.Test.YtcckamdpncbkoaaDoorKFnExactSamePeople2
import Derived.Test.YtcckamdpncbkoaaDoorKFnExactSamePeople3
import Derived.Test.YtcckamdpncbkoaaDoorWWords
import Derived.Deep.Slices
import Derived.Test.YtcckamdpncbkoaaDoorWMore
import Derived.Lib.Strings
import Derived.Lib.SplitLaws
import Derived.Lib.IndexBytes
import Derived.Lib.IndexLaws
namespace Go.Proofs.YtcckamdpncbkoaaDoor.G
open Go.RowKit Go.Proofs.YtcckamdpncbkoaaDoorW.PrintWords Go.Proofs.YtcckamdpncbkoaaDoorW.PrintLast Go.Proofs.YtcckamdpncbkoaaDoorW.PrintMore
open Go.Proofs.YtcckamdpncbkoaaDoor.Gl Go.Proofs.YtcckamdpncbkoaaDoor.Ext
attribute [local go_sem] max2_int min2_int max_two min_two max_three min_three max_four min_four   -- for this text's walks alone
set_option linter.unusedVariables false
set_option linter.unusedSimpArgs false

/-! ### laws_FnExactSamePeople: function 5 -/
def laws_FnExactSamePeople.j0 : Nat → List (S24) → List (S24) → List (S27) → List (S27) → Bool → Option (Bool)
  | 0, _, _, _, _, _ => none
  | k + 1, x0, x1, x8, x9, x47 => if x47 = true then (some false) else ((laws_toNameS.f k x0).bind fun t327 => ((laws_eqNameS.f k x8 t327).bind fun t330 => (if t330 = true then ((laws_toNameS.f k x1).bind fun t331 => ((laws_eqNameS.f k x9 t331).bind fun t334 => (if t334 = true then (some true) else (some false)))) else (some false))))
def laws_FnExactSamePeople.f (k : Nat) (l0 : List (S24)) (l1 : List (S24)) : Option (Bool) := (laws_szNameS.f k l0 1048576).bind fun t309 => (if t309 < 0 then (some true) else ((laws_szNameS.f k l1 t309).bind fun t310 => (if t310 < 0 then (some true) else ((laws_toNameS.f k l0).bind fun t311 => ((laws_toNameS.f k l1).bind fun t314 => ((spec_SamePeople.f k t311 t314).bind fun bt317 => ((laws_toNameS.f k l0).bind fun t319 => ((laws_toNameS.f k l1).bind fun t322 => ((impl_SamePeople.f k t319 t322).bind fun bt325 => (if (bt325.1 != bt317.1) = true then (laws_FnExactSamePeople.j0 k l0 l1 t319 t322 true) else (laws_FnExactSamePeople.j0 k l0 l1 t319 t322 (bt325.2 != bt317.2))))))))))))
theorem laws_FnExactSamePeople.mono_l : ∀ k, (∀ y0 y1 y2 y3 y4, LeO (laws_FnExactSamePeople.j0 k y0 y1 y2 y3 y4) (laws_FnExactSamePeople.j0 (k + 1) y0 y1 y2 y3 y4))
  | 0 => fun _ _ _ _ _ r h => by simp [laws_FnExactSamePeople.j0] at h
  | k + 1 => by
    have ih0 := laws_FnExactSamePeople.mono_l k
    · intro y0 y1 y2 y3 y4
      unfold laws_FnExactSamePeople.j0
      repeat' first
      | (with_reducible exact ih0 _ _ _ _ _)
      | (with_reducible exact impl_SamePeople.mono _ _ _)
      | (with_reducible exact laws_eqNameS.mono _ _ _)
      | (with_reducible exact laws_szNameS.mono _ _ _)
      | (with_reducible exact laws_toNameS.mono _ _)
      | (with_reducible exact spec_SamePeople.mono _ _ _)
      | (with_reducible exact LeO.refl _)
      | (with_reducible exact LeO.none _)
      | (with_reducible refine LeO.ite ?_ ?_)
      | (with_reducible refine LeO.bind ?_ (fun _ => ?_))
      | exact ih0 _ _ _ _ _
      | exact impl_SamePeople.mono _ _ _
      | exact laws_eqNameS.mono _ _ _
      | exact laws_szNameS.mono _ _ _
      | exact laws_toNameS.mono _ _
      | exact spec_SamePeople.mono _ _ _
      | exact LeO.none _
      | refine LeO.ite ?_ ?_
      | refine LeO.bind ?_ (fun _ => ?_)
theorem laws_FnExactSamePeople.mono : ∀ a0 a1 k, LeO (laws_FnExactSamePeople.f k a0 a1) (laws_FnExactSamePeople.f (k + 1) a0 a1) := by
  intro a0 a1 k
  have ih0 := laws_FnExactSamePeople.mono_l k
  unfold laws_FnExactSamePeople.f
  repeat' first
      | (with_reducible exact ih0 _ _ _ _ _)
      | (with_reducible exact impl_SamePeople.mono _ _ _)
      | (with_reducible exact laws_eqNameS.mono _ _ _)
      | (with_reducible exact laws_szNameS.mono _ _ _)
      | (with_reducible exact laws_toNameS.mono _ _)
      | (with_reducible exact spec_SamePeople.mono _ _ _)
      | (with_reducible exact LeO.refl _)
      | (with_reducible exact LeO.none _)
      | (with_reducible refine LeO.ite ?_ ?_)
      | (with_reducible refine LeO.bind ?_ (fun _ => ?_))
      | exact ih0 _ _ _ _ _
      | exact impl_SamePeople.mono _ _ _
      | exact laws_eqNameS.mono _ _ _
      | exact laws_szNameS.mono _ _ _
      | exact laws_toNameS.mono _ _
      | exact spec_SamePeople.mono _ _ _
      | exact LeO.none _
      | refine LeO.ite ?_ ?_
      | refine LeO.bind ?_ (fun _ => ?_)
set_option maxHeartbeats 8000000 in
set_option maxRecDepth 100000 in
theorem laws_FnExactSamePeople.calls (k : Nat) (A0 : Option Addr) (c0 : Nat) (l0 : List (S24)) (A1 : Option Addr) (c1 : Nat) (l1 : List (S24)) (r : Bool) (w : World) {gF1 gF2 gF3 : Bool} (hG : GL gF1 gF2 gF3 w) (hr0 : Kd.C k24 w A0 l0.length l0) (hc0 : l0.length ≤ c0) (hr1 : Kd.C k24 w A1 l1.length l1) (hc1 : l1.length ≤ c1) (h : laws_FnExactSamePeople.f k l0 l1 = some r) :
    Calls Tryd.prog 5 #[.slice A0 l0.length c0, .slice A1 l1.length c1] w fun e w' => e = .returned (.bool r) ∧ Below w.heap.size w w' := by
  have HG := Aside0.mk hG
  clear hG
  have HR0 := Aside0.mk hr0
  have HC0 := Aside0.mk hc0
  clear hr0 hc0
  have HR1 := Aside0.mk hr1
  have HC1 := Aside0.mk hc1
  clear hr1 hc1
  have HB := Aside0.mk (Below.refl w.heap.size w)
  have H : ((laws_szNameS.f k l0 1048576).bind fun t309 => (if t309 < 0 then (some true) else ((laws_szNameS.f k l1 t309).bind fun t310 => (if t310 < 0 then (some true) else ((laws_toNameS.f k l0).bind fun t311 => ((laws_toNameS.f k l1).bind fun t314 => ((spec_SamePeople.f k t311 t314).bind fun bt317 => ((laws_toNameS.f k l0).bind fun t319 => ((laws_toNameS.f k l1).bind fun t322 => ((impl_SamePeople.f k t319 t322).bind fun bt325 => (if (bt325.1 != bt317.1) = true then (laws_FnExactSamePeople.j0 k l0 l1 t319 t322 true) else (laws_FnExactSamePeople.j0 k l0 l1 t319 t322 (bt325.2 != bt317.2))))))))))))) = some r := h
  clear h
  replace H := Option.bind_eq_some_iff.mp H
  obtain ⟨t309, A30, H⟩ := H
  replace H : (if t309 < 0 then (some true) else ((laws_szNameS.f k l1 t309).bind fun t310 => (if t310 < 0 then (some true) else ((laws_toNameS.f k l0).bind fun t311 => ((laws_toNameS.f k l1).bind fun t314 => ((spec_SamePeople.f k t311 t314).bind fun bt317 => ((laws_toNameS.f k l0).bind fun t319 => ((laws_toNameS.f k l1).bind fun t322 => ((impl_SamePeople.f k t319 t322).bind fun bt325 => (if (bt325.1 != bt317.1) = true then (laws_FnExactSamePeople.j0 k l0 l1 t319 t322 true) else (laws_FnExactSamePeople.j0 k l0 l1 t319 t322 (bt325.2 != bt317.2)))))))))))) = some r := H
  have A3 := Aside0.mk A30
  clear A30
  by_cases c4 : t309 < 0
  · rw [if_pos c4] at H
    have c4b0 : decide (t309 < 0) = true := decide_eq_true c4
    clear c4
    obtain rfl := Option.some.inj H
    go_enter Tryd.func5, Tryd.ntmps5
    go_wp2_with (first | ((with_reducible refine gate_callee (f := 19) rfl ?_); refine goesL_ (some 14) rfl rfl Tryd.func19 (by kernel_rfl) rfl #[.slice A0 l0.length c0, .int .i64 1048576] rfl (by (try simp only [List.map_toArray, List.map_cons, List.map_nil]); first | done | rfl | (simp only [List.length_drop, List.length_take]; rfl)) ?_; (with_reducible refine (laws_szNameS.calls k _ _ l0 1048576 t309 _ ?side1 ?side2 A3.out).mono ?_); (case side1 => repeat (first | exact HR0.out | (with_reducible refine Kd.C_alloc ?_ _) | (with_reducible refine Kd.C_drewN ?_ _) | (with_reducible refine Kd.C_drew ?_))); (case side2 => exact HC0.out); rintro e w5 ⟨rfl, hb⟩; refine ⟨_, rfl, ?_⟩; have n0_ := Aside0.mk (below_step (by repeat (first | (with_reducible first | exact HB.out | apply below_alloc | apply pw_below_drewN | apply below_drew1) | exact HB.out)) hb); clear HB; have HB := n0_; clear n0_; (try clear hb); (try clear hb2); (try clear hk); (try clear hi)))
    go_ret
    exact ⟨by first | rfl | (simp [errW_none, errW_some] <;> rfl) | (simp [*, errW_none, errW_some] <;> rfl), by repeat (first | (with_reducible first | exact HB.out | apply below_alloc | apply pw_below_drewN | apply below_drew1) | exact HB.out)⟩
  · rw [if_neg c4] at H
    have c4b0 : decide (t309 < 0) = false := decide_eq_false c4
    clear c4
    replace H := Option.bind_eq_some_iff.mp H
    obtain ⟨t310, A60, H⟩ := H
    replace H : (if t310 < 0 then (some true) else ((laws_toNameS.f k l0).bind fun t311 => ((laws_toNameS.f k l1).bind fun t314 => ((spec_SamePeople.f k t311 t314).bind fun bt317 => ((laws_toNameS.f k l0).bind fun t319 => ((laws_toNameS.f k l1).bind fun t322 => ((impl_SamePeople.f k t319 t322).bind fun bt325 => (if (bt325.1 != bt317.1) = true then (laws_FnExactSamePeople.j0 k l0 l1 t319 t322 true) else (laws_FnExactSamePeople.j0 k l0 l1 t319 t322 (bt325.2 != bt317.2)))))))))) = some r := H
    have A6 := Aside0.mk A60
    clear A60
    by_cases c7 : t310 < 0
    · rw [if_pos c7] at H
      have c7b0 : decide (t310 < 0) = true := decide_eq_true c7
      clear c7
      obtain rfl := Option.some.inj H
      go_enter Tryd.func5, Tryd.ntmps5
      go_wp2_with (first | ((with_reducible refine gate_callee (f := 19) rfl ?_); refine goesL_ (some 14) rfl rfl Tryd.func19 (by kernel_rfl) rfl #[.slice A0 l0.length c0, .int .i64 1048576] rfl (by (try simp only [List.map_toArray, List.map_cons, List.map_nil]); first | done | rfl | (simp only [List.length_drop, List.length_take]; rfl)) ?_; (with_reducible refine (laws_szNameS.calls k _ _ l0 1048576 t309 _ ?side1 ?side2 A3.out).mono ?_); (case side1 => repeat (first | exact HR0.out | (with_reducible refine Kd.C_alloc ?_ _) | (with_reducible refine Kd.C_drewN ?_ _) | (with_reducible refine Kd.C_drew ?_))); (case side2 => exact HC0.out); rintro e w8 ⟨rfl, hb⟩; refine ⟨_, rfl, ?_⟩; have n0_ := Aside0.mk (below_step (by repeat (first | (with_reducible first | exact HB.out | apply below_alloc | apply pw_below_drewN | apply below_drew1) | exact HB.out)) hb); clear HB; have HB := n0_; clear n0_; (try clear hb); (try clear hb2); (try clear hk); (try clear hi)) | ((with_reducible refine gate_callee (f := 19) rfl ?_); refine goesL_ (some 19) rfl rfl Tryd.func19 (by kernel_rfl) rfl #[.slice A1 l1.length c1, .int .i64 t309] rfl (by (try simp only [List.map_toArray, List.map_cons, List.map_nil]); first | done | rfl | (simp only [List.length_drop, List.length_take]; rfl)) ?_; (with_reducible refine (laws_szNameS.calls k _ _ l1 t309 t310 _ ?side1 ?side2 A6.out).mono ?_); (case side1 => repeat (first | exact (Kd.C_below HR1.out HB.out) | (with_reducible refine Kd.C_alloc ?_ _) | (with_reducible refine Kd.C_drewN ?_ _) | (with_reducible refine Kd.C_drew ?_))); (case side2 => exact HC1.out); rintro e w9 ⟨rfl, hb⟩; refine ⟨_, rfl, ?_⟩; have n0_ := Aside0.mk (below_step (by repeat (first | (with_reducible first | exact HB.out | apply below_alloc | apply pw_below_drewN | apply below_drew1) | exact HB.out)) hb); clear HB; have HB := n0_; clear n0_; (try clear hb); (try clear hb2); (try clear hk); (try clear hi)))
      go_ret
      exact ⟨by first | rfl | (simp [errW_none, errW_some] <;> rfl) | (simp [*, errW_none, errW_some] <;> rfl), by repeat (first | (with_reducible first | exact HB.out | apply below_alloc | apply pw_below_drewN | apply below_drew1) | exact HB.out)⟩
    · rw [if_neg c7] at H
      have c7b0 : decide (t310 < 0) = false := decide_eq_false c7
      clear c7
      replace H := Option.bind_eq_some_iff.mp H
      obtain ⟨t311, A100, H⟩ := H
      replace H : ((laws_toNameS.f k l1).bind fun t314 => ((spec_SamePeople.f k t311 t314).bind fun bt317 => ((laws_toNameS.f k l0).bind fun t319 => ((laws_toNameS.f k l1).bind fun t322 => ((impl_SamePeople.f k t319 t322).bind fun bt325 => (if (bt325.1 != bt317.1) = true then (laws_FnExactSamePeople.j0 k l0 l1 t319 t322 true) else (laws_FnExactSamePeople.j0 k l0 l1 t319 t322 (bt325.2 != bt317.2)))))))) = some r := H
      have A10 := Aside0.mk A100
      clear A100
      replace H := Option.bind_eq_some_iff.mp H
      obtain ⟨t314, A110, H⟩ := H
      replace H : ((spec_SamePeople.f k t311 t314).bind fun bt317 => ((laws_toNameS.f k l0).bind fun t319 => ((laws_toNameS.f k l1).bind fun t322 => ((impl_SamePeople.f k t319 t322).bind fun bt325 => (if (bt325.1 != bt317.1) = true then (laws_FnExactSamePeople.j0 k l0 l1 t319 t322 true) else (laws_FnExactSamePeople.j0 k l0 l1 t319 t322 (bt325.2 != bt317.2))))))) = some r := H
      have A11 := Aside0.mk A110
      clear A110
      replace H := Option.bind_eq_some_iff.mp H
      obtain ⟨⟨t317, t318⟩, A120, H⟩ := H
      replace H : ((laws_toNameS.f k l0).bind fun t319 => ((laws_toNameS.f k l1).bind fun t322 => ((impl_SamePeople.f k t319 t322).bind fun bt325 => (if (bt325.1 != t317) = true then (laws_FnExactSamePeople.j0 k l0 l1 t319 t322 true) else (laws_FnExactSamePeople.j0 k l0 l1 t319 t322 (bt325.2 != t318)))))) = some r := H
      have A12 := Aside0.mk A120
      clear A120
      replace H := Option.bind_eq_some_iff.mp H
      obtain ⟨t319, A130, H⟩ := H
      replace H : ((laws_toNameS.f k l1).bind fun t322 => ((impl_SamePeople.f k t319 t322).bind fun bt325 => (if (bt325.1 != t317) = true then (laws_FnExactSamePeople.j0 k l0 l1 t319 t322 true) else (laws_FnExactSamePeople.j0 k l0 l1 t319 t322 (bt325.2 != t318))))) = some r := H
      have A13 := Aside0.mk A130
      clear A130
      replace H := Option.bind_eq_some_iff.mp H
      obtain ⟨t322, A140, H⟩ := H
      replace H : ((impl_SamePeople.f k t319 t322).bind fun bt325 => (if (bt325.1 != t317) = true then (laws_FnExactSamePeople.j0 k l0 l1 t319 t322 true) else (laws_FnExactSamePeople.j0 k l0 l1 t319 t322 (bt325.2 != t318)))) = some r := H
      have A14 := Aside0.mk A140
      clear A140
      replace H := Option.bind_eq_some_iff.mp H
      obtain ⟨⟨t325, t326⟩, A150, H⟩ := H
      replace H : (if (t325 != t317) = true then (laws_FnExactSamePeople.j0 k l0 l1 t319 t322 true) else (laws_FnExactSamePeople.j0 k l0 l1 t319 t322 (t326 != t318))) = some r := H
      have A15 := Aside0.mk A150
      clear A150
      have HC16 := Aside0.mk H
      clear H
      go_enter Tryd.func5, Tryd.ntmps5
      go_upto_region 12 with (first | ((with_reducible refine gate_callee (f := 19) rfl ?_); refine goesL_ (some 14) rfl rfl Tryd.func19 (by kernel_rfl) rfl #[.slice A0 l0.length c0, .int .i64 1048576] rfl (by (try simp only [List.map_toArray, List.map_cons, List.map_nil]); first | done | rfl | (simp only [List.length_drop, List.length_take]; rfl)) ?_; (with_reducible refine (laws_szNameS.calls k _ _ l0 1048576 t309 _ ?side1 ?side2 A3.out).mono ?_); (case side1 => repeat (first | exact HR0.out | (with_reducible refine Kd.C_alloc ?_ _) | (with_reducible refine Kd.C_drewN ?_ _) | (with_reducible refine Kd.C_drew ?_))); (case side2 => exact HC0.out); rintro e w17 ⟨rfl, hb⟩; refine ⟨_, rfl, ?_⟩; have n0_ := Aside0.mk (below_step (by repeat (first | (with_reducible first | exact HB.out | apply below_alloc | apply pw_below_drewN | apply below_drew1) | exact HB.out)) hb); clear HB; have HB := n0_; clear n0_; (try clear hb); (try clear hb2); (try clear hk); (try clear hi)) | ((with_reducible refine gate_callee (f := 19) rfl ?_); refine goesL_ (some 19) rfl rfl Tryd.func19 (by kernel_rfl) rfl #[.slice A1 l1.length c1, .int .i64 t309] rfl (by (try simp only [List.map_toArray, List.map_cons, List.map_nil]); first | done | rfl | (simp only [List.length_drop, List.length_take]; rfl)) ?_; (with_reducible refine (laws_szNameS.calls k _ _ l1 t309 t310 _ ?side1 ?side2 A6.out).mono ?_); (case side1 => repeat (first | exact (Kd.C_below HR1.out HB.out) | (with_reducible refine Kd.C_alloc ?_ _) | (with_reducible refine Kd.C_drewN ?_ _) | (with_reducible refine Kd.C_drew ?_))); (case side2 => exact HC1.out); rintro e w18 ⟨rfl, hb⟩; refine ⟨_, rfl, ?_⟩; have n0_ := Aside0.mk (below_step (by repeat (first | (with_reducible first | exact HB.out | apply below_alloc | apply pw_below_drewN | apply below_drew1) | exact HB.out)) hb); clear HB; have HB := n0_; clear n0_; (try clear hb); (try clear hb2); (try clear hk); (try clear hi)) | ((with_reducible refine gate_callee (f := 21) rfl ?_); refine goesL_ (some 24) rfl rfl Tryd.func21 (by kernel_rfl) rfl #[.slice A0 l0.length c0] rfl (by (try simp only [List.map_toArray, List.map_cons, List.map_nil]); first | done | rfl | (simp only [List.length_drop, List.length_take]; rfl)) ?_; (with_reducible refine (laws_toNameS.calls k _ _ l0 t311 _ ?side1 ?side2 A10.out).mono ?_); (case side1 => repeat (first | exact (Kd.C_below HR0.out HB.out) | (with_reducible refine Kd.C_alloc ?_ _) | (with_reducible refine Kd.C_drewN ?_ _) | (with_reducible refine Kd.C_drew ?_))); (case side2 => exact HC0.out); rintro e w19 ⟨v312, rfl, ho0, hb⟩; refine ⟨_, rfl, ?_⟩; have n0_ := Aside0.mk (Kd.S_lower ho0 (below_size (by repeat (first | (with_reducible first | exact HB.out | apply below_alloc | apply pw_below_drewN | apply below_drew1) | exact HB.out)))); have n1_ := Aside0.mk (below_step (by repeat (first | (with_reducible first | exact HB.out | apply below_alloc | apply pw_below_drewN | apply below_drew1) | exact HB.out)) hb); clear HB; have HO313 := n0_; have HB := n1_; clear n0_ n1_; (try clear hb); (try clear hb2); (try clear hk); (try clear hi); (try clear ho0)) | ((with_reducible refine gate_callee (f := 21) rfl ?_); refine goesL_ (some 26) rfl rfl Tryd.func21 (by kernel_rfl) rfl #[.slice A1 l1.length c1] rfl (by (try simp only [List.map_toArray, List.map_cons, List.map_nil]); first | done | rfl | (simp only [List.length_drop, List.length_take]; rfl)) ?_; (with_reducible refine (laws_toNameS.calls k _ _ l1 t314 _ ?side1 ?side2 A11.out).mono ?_); (case side1 => repeat (first | exact (Kd.C_below HR1.out HB.out) | (with_reducible refine Kd.C_alloc ?_ _) | (with_reducible refine Kd.C_drewN ?_ _) | (with_reducible refine Kd.C_drew ?_))); (case side2 => exact HC1.out); rintro e w20 ⟨v315, rfl, ho0, hb⟩; refine ⟨_, rfl, ?_⟩; have n0_ := Aside0.mk (Kd.S_elder' (by (with_reducible repeat (first | apply Kd.S_alloc | apply Kd.S_drewN | apply Kd.S_drew)); exact HO313.out) (Kd.S_base ho0) hb); have n1_ := Aside0.mk (Kd.S_lower (Kd.S_new' ho0 (Kd.S_lt (by (with_reducible repeat (first | apply Kd.S_alloc | apply Kd.S_drewN | apply Kd.S_drew)); exact HO313.out))) (below_size (by repeat (first | (with_reducible first | exact HB.out | apply below_alloc | apply pw_below_drewN | apply below_drew1) | exact HB.out)))); have n2_ := Aside0.mk (below_step (by repeat (first | (with_reducible first | exact HB.out | apply below_alloc | apply pw_below_drewN | apply below_drew1) | exact HB.out)) hb); clear HO313; clear HB; have HO313 := n0_; have HO316 := n1_; have HB := n2_; clear n0_ n1_ n2_; (try clear hb); (try clear hb2); (try clear hk); (try clear hi); (try clear ho0); obtain ⟨Ao21, co21, eo21⟩ := Kd.S_slice HO313.out; subst eo21; obtain ⟨Ao22, co22, eo22⟩ := Kd.S_slice HO316.out; subst eo22) | ((with_reducible refine gate_callee (f := 20) rfl ?_); refine goesL_ (some 27) rfl rfl Tryd.func20 (by kernel_rfl) rfl #[.slice Ao21 t311.length co21, .slice Ao22 t314.length co22] rfl (by (try simp only [List.map_toArray, List.map_cons, List.map_nil]); first | done | rfl | (simp only [List.length_drop, List.length_take]; rfl)) ?_; (with_reducible refine (spec_SamePeople.calls k _ _ t311 _ _ t314 t317 t318 _ ?side1 ?side2 ?side3 ?side4 A12.out).mono ?_); (case side1 => repeat (first | exact (Kd.S_reads' HO313.out).2.2 | (with_reducible refine Kd.C_alloc ?_ _) | (with_reducible refine Kd.C_drewN ?_ _) | (with_reducible refine Kd.C_drew ?_))); (case side2 => exact (Kd.S_reads' HO313.out).2.1); (case side3 => repeat (first | exact (Kd.S_reads' HO316.out).2.2 | (with_reducible refine Kd.C_alloc ?_ _) | (with_reducible refine Kd.C_drewN ?_ _) | (with_reducible refine Kd.C_drew ?_))); (case side4 => exact (Kd.S_reads' HO316.out).2.1); rintro e w23 ⟨rfl, hb⟩; refine ⟨_, rfl, ?_⟩; have n0_ := Aside0.mk (Kd.S_below (by (with_reducible repeat (first | apply Kd.S_alloc | apply Kd.S_drewN | apply Kd.S_drew)); exact HO313.out) hb); have n1_ := Aside0.mk (Kd.S_below (by (with_reducible repeat (first | apply Kd.S_alloc | apply Kd.S_drewN | apply Kd.S_drew)); exact HO316.out) hb); have n2_ := Aside0.mk (below_step (by repeat (first | (with_reducible first | exact HB.out | apply below_alloc | apply pw_below_drewN | apply below_drew1) | exact HB.out)) hb); clear HO313; clear HO316; clear HB; have HO313 := n0_; have HO316 := n1_; have HB := n2_; clear n0_ n1_ n2_; (try clear hb); (try clear hb2); (try clear hk); (try clear hi)) | ((with_reducible refine gate_callee (f := 21) rfl ?_); refine goesL_ (some 31) rfl rfl Tryd.func21 (by kernel_rfl) rfl #[.slice A0 l0.length c0] rfl (by (try simp only [List.map_toArray, List.map_cons, List.map_nil]); first | done | rfl | (simp only [List.length_drop, List.length_take]; rfl)) ?_; (with_reducible refine (laws_toNameS.calls k _ _ l0 t319 _ ?side1 ?side2 A13.out).mono ?_); (case side1 => repeat (first | exact (Kd.C_below HR0.out HB.out) | (with_reducible refine Kd.C_alloc ?_ _) | (with_reducible refine Kd.C_drewN ?_ _) | (with_reducible refine Kd.C_drew ?_))); (case side2 => exact HC0.out); rintro e w24 ⟨v320, rfl, ho0, hb⟩; refine ⟨_, rfl, ?_⟩; have n0_ := Aside0.mk (Kd.S_elder' (by (with_reducible repeat (first | apply Kd.S_alloc | apply Kd.S_drewN | apply Kd.S_drew)); exact HO313.out) (Kd.S_base ho0) hb); have n1_ := Aside0.mk (Kd.S_elder' (by (with_reducible repeat (first | apply Kd.S_alloc | apply Kd.S_drewN | apply Kd.S_drew)); exact HO316.out) (Kd.S_base ho0) hb); have n2_ := Aside0.mk (Kd.S_lower (Kd.S_new' (Kd.S_new' ho0 (Kd.S_lt (by (with_reducible repeat (first | apply Kd.S_alloc | apply Kd.S_drewN | apply Kd.S_drew)); exact HO313.out))) (Kd.S_lt (by (with_reducible repeat (first | apply Kd.S_alloc | apply Kd.S_drewN | apply Kd.S_drew)); exact HO316.out))) (below_size (by repeat (first | (with_reducible first | exact HB.out | apply below_alloc | apply pw_below_drewN | apply below_drew1) | exact HB.out)))); have n3_ := Aside0.mk (below_step (by repeat (first | (with_reducible first | exact HB.out | apply below_alloc | apply pw_below_drewN | apply below_drew1) | exact HB.out)) hb); clear HO313; clear HO316; clear HB; have HO313 := n0_; have HO316 := n1_; have HO321 := n2_; have HB := n3_; clear n0_ n1_ n2_ n3_; (try clear hb); (try clear hb2); (try clear hk); (try clear hi); (try clear ho0)) | ((with_reducible refine gate_callee (f := 21) rfl ?_); refine goesL_ (some 33) rfl rfl Tryd.func21 (by kernel_rfl) rfl #[.slice A1 l1.length c1] rfl (by (try simp only [List.map_toArray, List.map_cons, List.map_nil]); first | done | rfl | (simp only [List.length_drop, List.length_take]; rfl)) ?_; (with_reducible refine (laws_toNameS.calls k _ _ l1 t322 _ ?side1 ?side2 A14.out).mono ?_); (case side1 => repeat (first | exact (Kd.C_below HR1.out HB.out) | (with_reducible refine Kd.C_alloc ?_ _) | (with_reducible refine Kd.C_drewN ?_ _) | (with_reducible refine Kd.C_drew ?_))); (case side2 => exact HC1.out); rintro e w25 ⟨v323, rfl, ho0, hb⟩; refine ⟨_, rfl, ?_⟩; have n0_ := Aside0.mk (Kd.S_elder' (by (with_reducible repeat (first | apply Kd.S_alloc | apply Kd.S_drewN | apply Kd.S_drew)); exact HO313.out) (Kd.S_base ho0) hb); have n1_ := Aside0.mk (Kd.S_elder' (by (with_reducible repeat (first | apply Kd.S_alloc | apply Kd.S_drewN | apply Kd.S_drew)); exact HO316.out) (Kd.S_base ho0) hb); have n2_ := Aside0.mk (Kd.S_elder' (by (with_reducible repeat (first | apply Kd.S_alloc | apply Kd.S_drewN | apply Kd.S_drew)); exact HO321.out) (Kd.S_base ho0) hb); have n3_ := Aside0.mk (Kd.S_lower (Kd.S_new' (Kd.S_new' (Kd.S_new' ho0 (Kd.S_lt (by (with_reducible repeat (first | apply Kd.S_alloc | apply Kd.S_drewN | apply Kd.S_drew)); exact HO313.out))) (Kd.S_lt (by (with_reducible repeat (first | apply Kd.S_alloc | apply Kd.S_drewN | apply Kd.S_drew)); exact HO316.out))) (Kd.S_lt (by (with_reducible repeat (first | apply Kd.S_alloc | apply Kd.S_drewN | apply Kd.S_drew)); exact HO321.out))) (below_size (by repeat (first | (with_reducible first | exact HB.out | apply below_alloc | apply pw_below_drewN | apply below_drew1) | exact HB.out)))); have n4_ := Aside0.mk (below_step (by repeat (first | (with_reducible first | exact HB.out | apply below_alloc | apply pw_below_drewN | apply below_drew1) | exact HB.out)) hb); clear HO313; clear HO316; clear HO321; clear HB; have HO313 := n0_; have HO316 := n1_; have HO321 := n2_; have HO324 := n3_; have HB := n4_; clear n0_ n1_ n2_ n3_ n4_; (try clear hb); (try clear hb2); (try clear hk); (try clear hi); (try clear ho0); obtain ⟨Ao26, co26, eo26⟩ := Kd.S_slice HO321.out; subst eo26; obtain ⟨Ao27, co27, eo27⟩ := Kd.S_slice HO324.out; subst eo27) | ((with_reducible refine gate_callee (f := 22) rfl ?_); refine goesL_ (some 37) rfl rfl Tryd.func22 (by kernel_rfl) rfl #[.slice Ao26 t319.length co26, .slice Ao27 t322.length co27] rfl (by (try simp only [List.map_toArray, List.map_cons, List.map_nil]); first | done | rfl | (simp only [List.length_drop, List.length_take]; rfl)) ?_; (with_reducible refine (impl_SamePeople.calls (hG := (by first | exact HG.out | (refine HG.out.drawn ?_; (repeat (first | exact Drawn0.refl _ | apply Drawn0.step)); done) | (refine HG.out.below ?_; (repeat (first | (with_reducible first | exact HB.out | apply below_alloc | apply pw_below_drewN | apply below_drew1 | refine below_set ?_ (by first | assumption | exact Aside0.out (by assumption))) | exact HB.out)); done))) k _ _ t319 _ _ t322 t325 t326 _ ?side1 ?side2 ?side3 ?side4 A15.out).mono ?_); (case side1 => repeat (first | exact (Kd.S_reads' HO321.out).2.2 | (with_reducible refine Kd.C_alloc ?_ _) | (with_reducible refine Kd.C_drewN ?_ _) | (with_reducible refine Kd.C_drew ?_))); (case side2 => exact (Kd.S_reads' HO321.out).2.1); (case side3 => repeat (first | exact (Kd.S_reads' HO324.out).2.2 | (with_reducible refine Kd.C_alloc ?_ _) | (with_reducible refine Kd.C_drewN ?_ _) | (with_reducible refine Kd.C_drew ?_))); (case side4 => exact (Kd.S_reads' HO324.out).2.1); rintro e w28 ⟨rfl, hb⟩; refine ⟨_, rfl, ?_⟩; have n0_ := Aside0.mk (Kd.S_below (by (with_reducible repeat (first | apply Kd.S_alloc | apply Kd.S_drewN | apply Kd.S_drew)); exact HO313.out) hb); have n1_ := Aside0.mk (Kd.S_below (by (with_reducible repeat (first | apply Kd.S_alloc | apply Kd.S_drewN | apply Kd.S_drew)); exact HO316.out) hb); have n2_ := Aside0.mk (Kd.S_below (by (with_reducible repeat (first | apply Kd.S_alloc | apply Kd.S_drewN | apply Kd.S_drew)); exact HO321.out) hb); have n3_ := Aside0.mk (Kd.S_below (by (with_reducible repeat (first | apply Kd.S_alloc | apply Kd.S_drewN | apply Kd.S_drew)); exact HO324.out) hb); have n4_ := Aside0.mk (below_step (by repeat (first | (with_reducible first | exact HB.out | apply below_alloc | apply pw_below_drewN | apply below_drew1) | exact HB.out)) hb); clear HO313; clear HO316; clear HO321; clear HO324; clear HB; have HO313 := n0_; have HO316 := n1_; have HO321 := n2_; have HO324 := n3_; have HB := n4_; clear n0_ n1_ n2_ n3_ n4_; (try clear hb); (try clear hb2); (try clear hk); (try clear hi)))
      (try simp only [Act.put, List.setIfInBounds_toArray, List.set_cons_zero, List.set_cons_succ])
      go_cut [47] (fun v47 wc => ∃ (kq : Nat) (x47_15 : Bool), v47 = .bool x47_15 ∧ Aside0 (laws_FnExactSamePeople.j0 kq l0 l1 t319 t322 x47_15 = some r) ∧ Aside0 (kq ≤ k) ∧ Aside0 (Kd.S k27 27 wc w.heap.size (fun k_ => some k_ ≠ ((.slice Ao27 t322.length co27) : Value).ownBlock) (.slice Ao26 t319.length co26) t319) ∧ Aside0 (Kd.S k27 27 wc w.heap.size (fun k_ => some k_ ≠ ((.slice Ao26 t319.length co26) : Value).ownBlock) (.slice Ao27 t322.length co27) t322) ∧ Aside0 (Below w.heap.size w wc))
      case first =>
        have H := HC16.out
        clear HC16
        by_cases c29 : (t325 != t317) = true
        · rw [if_pos c29] at H
          have c29b0 : (t325 != t317) = true := c29
          (try (have c29b1 : decide (t325 = t317) = false := by simpa using c29))
          (try (have c29b2 : (t325 == t317) = false := by simpa using c29))
          (try (have c29b3 : ¬ (t325 = t317) := by simpa using c29))
          clear c29
          (first | rw [c29b0] | (simp only [i64_w, i32_w]; rw [c29b0]) | skip)
          have H' := Aside0.mk H
          clear H
          go_wp2
          go_meet
          case rel => exact ⟨_, (true), (by first | rfl | (simp; done) | (simp [*]; done)), H', ⟨by first | omega | exact Nat.le_refl _⟩, ⟨by (with_reducible repeat (first | apply Kd.S_alloc | apply Kd.S_drewN | apply Kd.S_drew)); exact Kd.S_mono HO321.out (fun _ hk => hk.2)⟩, ⟨by (with_reducible repeat (first | apply Kd.S_alloc | apply Kd.S_drewN | apply Kd.S_drew)); exact Kd.S_mono HO324.out (fun _ hk => hk.2)⟩, ⟨by repeat (first | (with_reducible first | exact HB.out | apply below_alloc | apply pw_below_drewN | apply below_drew1) | exact HB.out)⟩⟩
        · rw [if_neg c29] at H
          have c29b0 : (t325 != t317) = false := by simpa using c29
          (try (have c29b1 : decide (t325 = t317) = true := by simpa using c29))
          (try (have c29b2 : (t325 == t317) = true := by simpa using c29))
          clear c29
          (first | rw [c29b0] | (simp only [i64_w, i32_w]; rw [c29b0]) | skip)
          have H' := Aside0.mk H
          clear H
          go_wp2
          go_meet
          case rel => exact ⟨_, ((t326 != t318)), (by first | rfl | (simp; done) | (simp [*]; done)), H', ⟨by first | omega | exact Nat.le_refl _⟩, ⟨by (with_reducible repeat (first | apply Kd.S_alloc | apply Kd.S_drewN | apply Kd.S_drew)); exact Kd.S_mono HO321.out (fun _ hk => hk.2)⟩, ⟨by (with_reducible repeat (first | apply Kd.S_alloc | apply Kd.S_drewN | apply Kd.S_drew)); exact Kd.S_mono HO324.out (fun _ hk => hk.2)⟩, ⟨by repeat (first | (with_reducible first | exact HB.out | apply below_alloc | apply pw_below_drewN | apply below_drew1) | exact HB.out)⟩⟩
      case rest =>
        clear HC16
        try clear c1
        try clear c2
        try clear p2
        try clear c4
        try clear c4b0
        try clear c5
        try clear c7
        try clear c7b0
        try clear c19
        try clear c20
        try clear c21
        try clear c22
        try clear c29
        try clear c29b0
        try clear c29b1
        try clear c29b2
        obtain ⟨kq, x47_15, rfl, HA, HJ15, HO_8, HO_9, HB⟩ := hcut
        cases kq with
        | zero => exact absurd HA.out (by simp [laws_FnExactSamePeople.j0])
        | succ kj15 =>
          have H := HA.out
          clear HA
          simp only [laws_FnExactSamePeople.j0] at H
          by_cases c30 : x47_15 = true
          · subst c30
            have H1 : (some false) = some r := by rw [if_pos rfl] at H; exact H
            clear H
            have H := H1
            clear H1
            obtain rfl := Option.some.inj H
            go_wp2
            go_ret
            exact ⟨by first | rfl | (simp [errW_none, errW_some] <;> rfl) | (simp [*, errW_none, errW_some] <;> rfl), by repeat (first | (with_reducible first | exact HB.out | apply below_alloc | apply pw_below_drewN | apply below_drew1) | exact HB.out)⟩
          · replace c30 := Bool.eq_false_iff.mpr c30
            subst c30
            have H1 : ((laws_toNameS.f kj15 l0).bind fun t327 => ((laws_eqNameS.f kj15 t319 t327).bind fun t330 => (if t330 = true then ((laws_toNameS.f kj15 l1).bind fun t331 => ((laws_eqNameS.f kj15 t322 t331).bind fun t334 => (if t334 = true then (some true) else (some false)))) else (some false)))) = some r := by rw [if_neg (show ¬ (false = true) by decide)] at H; exact H
            clear H
            have H := H1
            clear H1
            replace H := Option.bind_eq_some_iff.mp H
            obtain ⟨t327, A310, H⟩ := H
            replace H : ((laws_eqNameS.f kj15 t319 t327).bind fun t330 => (if t330 = true then ((laws_toNameS.f kj15 l1).bind fun t331 => ((laws_eqNameS.f kj15 t322 t331).bind fun t334 => (if t334 = true then (some true) else (some false)))) else (some false))) = some r := H
            have A31 := Aside0.mk A310
            clear A310
            replace H := Option.bind_eq_some_iff.mp H
            obtain ⟨t330, A320, H⟩ := H
            replace H : (if t330 = true then ((laws_toNameS.f kj15 l1).bind fun t331 => ((laws_eqNameS.f kj15 t322 t331).bind fun t334 => (if t334 = true then (some true) else (some false)))) else (some false)) = some r := H
            have A32 := Aside0.mk A320
            clear A320
            by_cases c33 : t330 = true
            · subst c33
              have H1 : ((laws_toNameS.f kj15 l1).bind fun t331 => ((laws_eqNameS.f kj15 t322 t331).bind fun t334 => (if t334 = true then (some true) else (some false)))) = some r := by rw [if_pos rfl] at H; exact H
              clear H
              have H := H1
              clear H1
              replace H := Option.bind_eq_some_iff.mp H
              obtain ⟨t331, A340, H⟩ := H
              replace H : ((laws_eqNameS.f kj15 t322 t331).bind fun t334 => (if t334 = true then (some true) else (some false))) = some r := H
              have A34 := Aside0.mk A340
              clear A340
              replace H := Option.bind_eq_some_iff.mp H
              obtain ⟨t334, A350, H⟩ := H
              replace H : (if t334 = true then (some true) else (some false)) = some r := H
              have A35 := Aside0.mk A350
              clear A350
              by_cases c36 : t334 = true
              · subst c36
                have H1 : (some true) = some r := by rw [if_pos rfl] at H; exact H
                clear H
                have H := H1
                clear H1
                obtain rfl := Option.some.inj H
                go_wp2_with (first | ((with_reducible refine gate_callee (f := 21) rfl ?_); refine goesL_ (some 50) rfl rfl Tryd.func21 (by kernel_rfl) rfl #[.slice A0 l0.length c0] rfl (by (try simp only [List.map_toArray, List.map_cons, List.map_nil]); first | done | rfl | (simp only [List.length_drop, List.length_take]; rfl)) ?_; (with_reducible refine (laws_toNameS.calls kj15 _ _ l0 t327 _ ?side1 ?side2 A31.out).mono ?_); (case side1 => repeat (first | exact (Kd.C_below HR0.out HB.out) | (with_reducible refine Kd.C_alloc ?_ _) | (with_reducible refine Kd.C_drewN ?_ _) | (with_reducible refine Kd.C_drew ?_))); (case side2 => exact HC0.out); rintro e w37 ⟨v328, rfl, ho0, hb⟩; refine ⟨_, rfl, ?_⟩; have n0_ := Aside0.mk (Kd.S_elder' (by (with_reducible repeat (first | apply Kd.S_alloc | apply Kd.S_drewN | apply Kd.S_drew)); exact HO_8.out) (Kd.S_base ho0) hb); have n1_ := Aside0.mk (Kd.S_elder' (by (with_reducible repeat (first | apply Kd.S_alloc | apply Kd.S_drewN | apply Kd.S_drew)); exact HO_9.out) (Kd.S_base ho0) hb); have n2_ := Aside0.mk (Kd.S_lower (Kd.S_new' (Kd.S_new' ho0 (Kd.S_lt (by (with_reducible repeat (first | apply Kd.S_alloc | apply Kd.S_drewN | apply Kd.S_drew)); exact HO_8.out))) (Kd.S_lt (by (with_reducible repeat (first | apply Kd.S_alloc | apply Kd.S_drewN | apply Kd.S_drew)); exact HO_9.out))) (below_size (by repeat (first | (with_reducible first | exact HB.out | apply below_alloc | apply pw_below_drewN | apply below_drew1) | exact HB.out)))); have n3_ := Aside0.mk (below_step (by repeat (first | (with_reducible first | exact HB.out | apply below_alloc | apply pw_below_drewN | apply below_drew1) | exact HB.out)) hb); clear HO_8; clear HO_9; clear HB; have HO_8 := n0_; have HO_9 := n1_; have HO329 := n2_; have HB := n3_; clear n0_ n1_ n2_ n3_; (try clear hb); (try clear hb2); (try clear hk); (try clear hi); (try clear ho0); obtain ⟨Ao38, co38, eo38⟩ := Kd.S_slice HO329.out; subst eo38) | ((with_reducible refine gate_callee (f := 23) rfl ?_); refine goesL_ (some 51) rfl rfl Tryd.func23 (by kernel_rfl) rfl #[.slice Ao26 t319.length co26, .slice Ao38 t327.length co38] rfl (by (try simp only [List.map_toArray, List.map_cons, List.map_nil]); first | done | rfl | (simp only [List.length_drop, List.length_take]; rfl)) ?_; (with_reducible refine (laws_eqNameS.calls kj15 _ _ t319 _ _ t327 true _ ?side1 ?side2 ?side3 ?side4 A32.out).mono ?_); (case side1 => repeat (first | exact (Kd.S_reads' HO_8.out).2.2 | (with_reducible refine Kd.C_alloc ?_ _) | (with_reducible refine Kd.C_drewN ?_ _) | (with_reducible refine Kd.C_drew ?_))); (case side2 => exact (Kd.S_reads' HO_8.out).2.1); (case side3 => repeat (first | exact (Kd.S_reads' HO329.out).2.2 | (with_reducible refine Kd.C_alloc ?_ _) | (with_reducible refine Kd.C_drewN ?_ _) | (with_reducible refine Kd.C_drew ?_))); (case side4 => exact (Kd.S_reads' HO329.out).2.1); rintro e w39 ⟨rfl, hb⟩; refine ⟨_, rfl, ?_⟩; have n0_ := Aside0.mk (Kd.S_below (by (with_reducible repeat (first | apply Kd.S_alloc | apply Kd.S_drewN | apply Kd.S_drew)); exact HO_8.out) hb); have n1_ := Aside0.mk (Kd.S_below (by (with_reducible repeat (first | apply Kd.S_alloc | apply Kd.S_drewN | apply Kd.S_drew)); exact HO_9.out) hb); have n2_ := Aside0.mk (Kd.S_below (by (with_reducible repeat (first | apply Kd.S_alloc | apply Kd.S_drewN | apply Kd.S_drew)); exact HO329.out) hb); have n3_ := Aside0.mk (below_step (by repeat (first | (with_reducible first | exact HB.out | apply below_alloc | apply pw_below_drewN | apply below_drew1) | exact HB.out)) hb); clear HO_8; clear HO_9; clear HO329; clear HB; have HO_8 := n0_; have HO_9 := n1_; have HO329 := n2_; have HB := n3_; clear n0_ n1_ n2_ n3_; (try clear hb); (try clear hb2); (try clear hk); (try clear hi)) | ((with_reducible refine gate_callee (f := 21) rfl ?_); refine goesL_ (some 55) rfl rfl Tryd.func21 (by kernel_rfl) rfl #[.slice A1 l1.length c1] rfl (by (try simp only [List.map_toArray, List.map_cons, List.map_nil]); first | done | rfl | (simp only [List.length_drop, List.length_take]; rfl)) ?_; (with_reducible refine (laws_toNameS.calls kj15 _ _ l1 t331 _ ?side1 ?side2 A34.out).mono ?_); (case side1 => repeat (first | exact (Kd.C_below HR1.out HB.out) | (with_reducible refine Kd.C_alloc ?_ _) | (with_reducible refine Kd.C_drewN ?_ _) | (with_reducible refine Kd.C_drew ?_))); (case side2 => exact HC1.out); rintro e w40 ⟨v332, rfl, ho0, hb⟩; refine ⟨_, rfl, ?_⟩; have n0_ := Aside0.mk (Kd.S_elder' (by (with_reducible repeat (first | apply Kd.S_alloc | apply Kd.S_drewN | apply Kd.S_drew)); exact HO_8.out) (Kd.S_base ho0) hb); have n1_ := Aside0.mk (Kd.S_elder' (by (with_reducible repeat (first | apply Kd.S_alloc | apply Kd.S_drewN | apply Kd.S_drew)); exact HO_9.out) (Kd.S_base ho0) hb); have n2_ := Aside0.mk (Kd.S_elder' (by (with_reducible repeat (first | apply Kd.S_alloc | apply Kd.S_drewN | apply Kd.S_drew)); exact HO329.out) (Kd.S_base ho0) hb); have n3_ := Aside0.mk (Kd.S_lower (Kd.S_new' (Kd.S_new' (Kd.S_new' ho0 (Kd.S_lt (by (with_reducible repeat (first | apply Kd.S_alloc | apply Kd.S_drewN | apply Kd.S_drew)); exact HO_8.out))) (Kd.S_lt (by (with_reducible repeat (first | apply Kd.S_alloc | apply Kd.S_drewN | apply Kd.S_drew)); exact HO_9.out))) (Kd.S_lt (by (with_reducible repeat (first | apply Kd.S_alloc | apply Kd.S_drewN | apply Kd.S_drew)); exact HO329.out))) (below_size (by repeat (first | (with_reducible first | exact HB.out | apply below_alloc | apply pw_below_drewN | apply below_drew1) | exact HB.out)))); have n4_ := Aside0.mk (below_step (by repeat (first | (with_reducible first | exact HB.out | apply below_alloc | apply pw_below_drewN | apply below_drew1) | exact HB.out)) hb); clear HO_8; clear HO_9; clear HO329; clear HB; have HO_8 := n0_; have HO_9 := n1_; have HO329 := n2_; have HO333 := n3_; have HB := n4_; clear n0_ n1_ n2_ n3_ n4_; (try clear hb); (try clear hb2); (try clear hk); (try clear hi); (try clear ho0); obtain ⟨Ao41, co41, eo41⟩ := Kd.S_slice HO333.out; subst eo41) | ((with_reducible refine gate_callee (f := 23) rfl ?_); refine goesL_ (some 56) rfl rfl Tryd.func23 (by kernel_rfl) rfl #[.slice Ao27 t322.length co27, .slice Ao41 t331.length co41] rfl (by (try simp only [List.map_toArray, List.map_cons, List.map_nil]); first | done | rfl | (simp only [List.length_drop, List.length_take]; rfl)) ?_; (with_reducible refine (laws_eqNameS.calls kj15 _ _ t322 _ _ t331 true _ ?side1 ?side2 ?side3 ?side4 A35.out).mono ?_); (case side1 => repeat (first | exact (Kd.S_reads' HO_9.out).2.2 | (with_reducible refine Kd.C_alloc ?_ _) | (with_reducible refine Kd.C_drewN ?_ _) | (with_reducible refine Kd.C_drew ?_))); (case side2 => exact (Kd.S_reads' HO_9.out).2.1); (case side3 => repeat (first | exact (Kd.S_reads' HO333.out).2.2 | (with_reducible refine Kd.C_alloc ?_ _) | (with_reducible refine Kd.C_drewN ?_ _) | (with_reducible refine Kd.C_drew ?_))); (case side4 => exact (Kd.S_reads' HO333.out).2.1); rintro e w42 ⟨rfl, hb⟩; refine ⟨_, rfl, ?_⟩; have n0_ := Aside0.mk (Kd.S_below (by (with_reducible repeat (first | apply Kd.S_alloc | apply Kd.S_drewN | apply Kd.S_drew)); exact HO_8.out) hb); have n1_ := Aside0.mk (Kd.S_below (by (with_reducible repeat (first | apply Kd.S_alloc | apply Kd.S_drewN | apply Kd.S_drew)); exact HO_9.out) hb); have n2_ := Aside0.mk (Kd.S_below (by (with_reducible repeat (first | apply Kd.S_alloc | apply Kd.S_drewN | apply Kd.S_drew)); exact HO329.out) hb); have n3_ := Aside0.mk (Kd.S_below (by (with_reducible repeat (first | apply Kd.S_alloc | apply Kd.S_drewN | apply Kd.S_drew)); exact HO333.out) hb); have n4_ := Aside0.mk (below_step (by repeat (first | (with_reducible first | exact HB.out | apply below_alloc | apply pw_below_drewN | apply below_drew1) | exact HB.out)) hb); clear HO_8; clear HO_9; clear HO329; clear HO333; clear HB; have HO_8 := n0_; have HO_9 := n1_; have HO329 := n2_; have HO333 := n3_; have HB := n4_; clear n0_ n1_ n2_ n3_ n4_; (try clear hb); (try clear hb2); (try clear hk); (try clear hi)))
                go_ret
                exact ⟨by first | rfl | (simp [errW_none, errW_some] <;> rfl) | (simp [*, errW_none, errW_some] <;> rfl), by repeat (first | (with_reducible first | exact HB.out | apply below_alloc | apply pw_below_drewN | apply below_drew1) | exact HB.out)⟩
              · replace c36 := Bool.eq_false_iff.mpr c36
                subst c36
                have H1 : (some false) = some r := by rw [if_neg (show ¬ (false = true) by decide)] at H; exact H
                clear H
                have H := H1
                clear H1
                obtain rfl := Option.some.inj H
                go_wp2_with (first | ((with_reducible refine gate_callee (f := 21) rfl ?_); refine goesL_ (some 50) rfl rfl Tryd.func21 (by kernel_rfl) rfl #[.slice A0 l0.length c0] rfl (by (try simp only [List.map_toArray, List.map_cons, List.map_nil]); first | done | rfl | (simp only [List.length_drop, List.length_take]; rfl)) ?_; (with_reducible refine (laws_toNameS.calls kj15 _ _ l0 t327 _ ?side1 ?side2 A31.out).mono ?_); (case side1 => repeat (first | exact (Kd.C_below HR0.out HB.out) | (with_reducible refine Kd.C_alloc ?_ _) | (with_reducible refine Kd.C_drewN ?_ _) | (with_reducible refine Kd.C_drew ?_))); (case side2 => exact HC0.out); rintro e w43 ⟨v328, rfl, ho0, hb⟩; refine ⟨_, rfl, ?_⟩; have n0_ := Aside0.mk (Kd.S_elder' (by (with_reducible repeat (first | apply Kd.S_alloc | apply Kd.S_drewN | apply Kd.S_drew)); exact HO_8.out) (Kd.S_base ho0) hb); have n1_ := Aside0.mk (Kd.S_elder' (by (with_reducible repeat (first | apply Kd.S_alloc | apply Kd.S_drewN | apply Kd.S_drew)); exact HO_9.out) (Kd.S_base ho0) hb); have n2_ := Aside0.mk (Kd.S_lower (Kd.S_new' (Kd.S_new' ho0 (Kd.S_lt (by (with_reducible repeat (first | apply Kd.S_alloc | apply Kd.S_drewN | apply Kd.S_drew)); exact HO_8.out))) (Kd.S_lt (by (with_reducible repeat (first | apply Kd.S_alloc | apply Kd.S_drewN | apply Kd.S_drew)); exact HO_9.out))) (below_size (by repeat (first | (with_reducible first | exact HB.out | apply below_alloc | apply pw_below_drewN | apply below_drew1) | exact HB.out)))); have n3_ := Aside0.mk (below_step (by repeat (first | (with_reducible first | exact HB.out | apply below_alloc | apply pw_below_drewN | apply below_drew1) | exact HB.out)) hb); clear HO_8; clear HO_9; clear HB; have HO_8 := n0_; have HO_9 := n1_; have HO329 := n2_; have HB := n3_; clear n0_ n1_ n2_ n3_; (try clear hb); (try clear hb2); (try clear hk); (try clear hi); (try clear ho0); obtain ⟨Ao44, co44, eo44⟩ := Kd.S_slice HO329.out; subst eo44) | ((with_reducible refine gate_callee (f := 23) rfl ?_); refine goesL_ (some 51) rfl rfl Tryd.func23 (by kernel_rfl) rfl #[.slice Ao26 t319.length co26, .slice Ao44 t327.length co44] rfl (by (try simp only [List.map_toArray, List.map_cons, List.map_nil]); first | done | rfl | (simp only [List.length_drop, List.length_take]; rfl)) ?_; (with_reducible refine (laws_eqNameS.calls kj15 _ _ t319 _ _ t327 true _ ?side1 ?side2 ?side3 ?side4 A32.out).mono ?_); (case side1 => repeat (first | exact (Kd.S_reads' HO_8.out).2.2 | (with_reducible refine Kd.C_alloc ?_ _) | (with_reducible refine Kd.C_drewN ?_ _) | (with_reducible refine Kd.C_drew ?_))); (case side2 => exact (Kd.S_reads' HO_8.out).2.1); (case side3 => repeat (first | exact (Kd.S_reads' HO329.out).2.2 | (with_reducible refine Kd.C_alloc ?_ _) | (with_reducible refine Kd.C_drewN ?_ _) | (with_reducible refine Kd.C_drew ?_))); (case side4 => exact (Kd.S_reads' HO329.out).2.1); rintro e w45 ⟨rfl, hb⟩; refine ⟨_, rfl, ?_⟩; have n0_ := Aside0.mk (Kd.S_below (by (with_reducible repeat (first | apply Kd.S_alloc | apply Kd.S_drewN | apply Kd.S_drew)); exact HO_8.out) hb); have n1_ := Aside0.mk (Kd.S_below (by (with_reducible repeat (first | apply Kd.S_alloc | apply Kd.S_drewN | apply Kd.S_drew)); exact HO_9.out) hb); have n2_ := Aside0.mk (Kd.S_below (by (with_reducible repeat (first | apply Kd.S_alloc | apply Kd.S_drewN | apply Kd.S_drew)); exact HO329.out) hb); have n3_ := Aside0.mk (below_step (by repeat (first | (with_reducible first | exact HB.out | apply below_alloc | apply pw_below_drewN | apply below_drew1) | exact HB.out)) hb); clear HO_8; clear HO_9; clear HO329; clear HB; have HO_8 := n0_; have HO_9 := n1_; have HO329 := n2_; have HB := n3_; clear n0_ n1_ n2_ n3_; (try clear hb); (try clear hb2); (try clear hk); (try clear hi)) | ((with_reducible refine gate_callee (f := 21) rfl ?_); refine goesL_ (some 55) rfl rfl Tryd.func21 (by kernel_rfl) rfl #[.slice A1 l1.length c1] rfl (by (try simp only [List.map_toArray, List.map_cons, List.map_nil]); first | done | rfl | (simp only [List.length_drop, List.length_take]; rfl)) ?_; (with_reducible refine (laws_toNameS.calls kj15 _ _ l1 t331 _ ?side1 ?side2 A34.out).mono ?_); (case side1 => repeat (first | exact (Kd.C_below HR1.out HB.out) | (with_reducible refine Kd.C_alloc ?_ _) | (with_reducible refine Kd.C_drewN ?_ _) | (with_reducible refine Kd.C_drew ?_))); (case side2 => exact HC1.out); rintro e w46 ⟨v332, rfl, ho0, hb⟩; refine ⟨_, rfl, ?_⟩; have n0_ := Aside0.mk (Kd.S_elder' (by (with_reducible repeat (first | apply Kd.S_alloc | apply Kd.S_drewN | apply Kd.S_drew)); exact HO_8.out) (Kd.S_base ho0) hb); have n1_ := Aside0.mk (Kd.S_elder' (by (with_reducible repeat (first | apply Kd.S_alloc | apply Kd.S_drewN | apply Kd.S_drew)); exact HO_9.out) (Kd.S_base ho0) hb); have n2_ := Aside0.mk (Kd.S_elder' (by (with_reducible repeat (first | apply Kd.S_alloc | apply Kd.S_drewN | apply Kd.S_drew)); exact HO329.out) (Kd.S_base ho0) hb); have n3_ := Aside0.mk (Kd.S_lower (Kd.S_new' (Kd.S_new' (Kd.S_new' ho0 (Kd.S_lt (by (with_reducible repeat (first | apply Kd.S_alloc | apply Kd.S_drewN | apply Kd.S_drew)); exact HO_8.out))) (Kd.S_lt (by (with_reducible repeat (first | apply Kd.S_alloc | apply Kd.S_drewN | apply Kd.S_drew)); exact HO_9.out))) (Kd.S_lt (by (with_reducible repeat (first | apply Kd.S_alloc | apply Kd.S_drewN | apply Kd.S_drew)); exact HO329.out))) (below_size (by repeat (first | (with_reducible first | exact HB.out | apply below_alloc | apply pw_below_drewN | apply below_drew1) | exact HB.out)))); have n4_ := Aside0.mk (below_step (by repeat (first | (with_reducible first | exact HB.out | apply below_alloc | apply pw_below_drewN | apply below_drew1) | exact HB.out)) hb); clear HO_8; clear HO_9; clear HO329; clear HB; have HO_8 := n0_; have HO_9 := n1_; have HO329 := n2_; have HO333 := n3_; have HB := n4_; clear n0_ n1_ n2_ n3_ n4_; (try clear hb); (try clear hb2); (try clear hk); (try clear hi); (try clear ho0); obtain ⟨Ao47, co47, eo47⟩ := Kd.S_slice HO333.out; subst eo47) | ((with_reducible refine gate_callee (f := 23) rfl ?_); refine goesL_ (some 56) rfl rfl Tryd.func23 (by kernel_rfl) rfl #[.slice Ao27 t322.length co27, .slice Ao47 t331.length co47] rfl (by (try simp only [List.map_toArray, List.map_cons, List.map_nil]); first | done | rfl | (simp only [List.length_drop, List.length_take]; rfl)) ?_; (with_reducible refine (laws_eqNameS.calls kj15 _ _ t322 _ _ t331 false _ ?side1 ?side2 ?side3 ?side4 A35.out).mono ?_); (case side1 => repeat (first | exact (Kd.S_reads' HO_9.out).2.2 | (with_reducible refine Kd.C_alloc ?_ _) | (with_reducible refine Kd.C_drewN ?_ _) | (with_reducible refine Kd.C_drew ?_))); (case side2 => exact (Kd.S_reads' HO_9.out).2.1); (case side3 => repeat (first | exact (Kd.S_reads' HO333.out).2.2 | (with_reducible refine Kd.C_alloc ?_ _) | (with_reducible refine Kd.C_drewN ?_ _) | (with_reducible refine Kd.C_drew ?_))); (case side4 => exact (Kd.S_reads' HO333.out).2.1); rintro e w48 ⟨rfl, hb⟩; refine ⟨_, rfl, ?_⟩; have n0_ := Aside0.mk (Kd.S_below (by (with_reducible repeat (first | apply Kd.S_alloc | apply Kd.S_drewN | apply Kd.S_drew)); exact HO_8.out) hb); have n1_ := Aside0.mk (Kd.S_below (by (with_reducible repeat (first | apply Kd.S_alloc | apply Kd.S_drewN | apply Kd.S_drew)); exact HO_9.out) hb); have n2_ := Aside0.mk (Kd.S_below (by (with_reducible repeat (first | apply Kd.S_alloc | apply Kd.S_drewN | apply Kd.S_drew)); exact HO329.out) hb); have n3_ := Aside0.mk (Kd.S_below (by (with_reducible repeat (first | apply Kd.S_alloc | apply Kd.S_drewN | apply Kd.S_drew)); exact HO333.out) hb); have n4_ := Aside0.mk (below_step (by repeat (first | (with_reducible first | exact HB.out | apply below_alloc | apply pw_below_drewN | apply below_drew1) | exact HB.out)) hb); clear HO_8; clear HO_9; clear HO329; clear HO333; clear HB; have HO_8 := n0_; have HO_9 := n1_; have HO329 := n2_; have HO333 := n3_; have HB := n4_; clear n0_ n1_ n2_ n3_ n4_; (try clear hb); (try clear hb2); (try clear hk); (try clear hi)))
                go_ret
                exact ⟨by first | rfl | (simp [errW_none, errW_some] <;> rfl) | (simp [*, errW_none, errW_some] <;> rfl), by repeat (first | (with_reducible first | exact HB.out | apply below_alloc | apply pw_below_drewN | apply below_drew1) | exact HB.out)⟩
            · replace c33 := Bool.eq_false_iff.mpr c33
              subst c33
              have H1 : (some false) = some r := by rw [if_neg (show ¬ (false = true) by decide)] at H; exact H
              clear H
              have H := H1
              clear H1
              obtain rfl := Option.some.inj H
              go_wp2_with (first | ((with_reducible refine gate_callee (f := 21) rfl ?_); refine goesL_ (some 50) rfl rfl Tryd.func21 (by kernel_rfl) rfl #[.slice A0 l0.length c0] rfl (by (try simp only [List.map_toArray, List.map_cons, List.map_nil]); first | done | rfl | (simp only [List.length_drop, List.length_take]; rfl)) ?_; (with_reducible refine (laws_toNameS.calls kj15 _ _ l0 t327 _ ?side1 ?side2 A31.out).mono ?_); (case side1 => repeat (first | exact (Kd.C_below HR0.out HB.out) | (with_reducible refine Kd.C_alloc ?_ _) | (with_reducible refine Kd.C_drewN ?_ _) | (with_reducible refine Kd.C_drew ?_))); (case side2 => exact HC0.out); rintro e w49 ⟨v328, rfl, ho0, hb⟩; refine ⟨_, rfl, ?_⟩; have n0_ := Aside0.mk (Kd.S_elder' (by (with_reducible repeat (first | apply Kd.S_alloc | apply Kd.S_drewN | apply Kd.S_drew)); exact HO_8.out) (Kd.S_base ho0) hb); have n1_ := Aside0.mk (Kd.S_elder' (by (with_reducible repeat (first | apply Kd.S_alloc | apply Kd.S_drewN | apply Kd.S_drew)); exact HO_9.out) (Kd.S_base ho0) hb); have n2_ := Aside0.mk (Kd.S_lower (Kd.S_new' (Kd.S_new' ho0 (Kd.S_lt (by (with_reducible repeat (first | apply Kd.S_alloc | apply Kd.S_drewN | apply Kd.S_drew)); exact HO_8.out))) (Kd.S_lt (by (with_reducible repeat (first | apply Kd.S_alloc | apply Kd.S_drewN | apply Kd.S_drew)); exact HO_9.out))) (below_size (by repeat (first | (with_reducible first | exact HB.out | apply below_alloc | apply pw_below_drewN | apply below_drew1) | exact HB.out)))); have n3_ := Aside0.mk (below_step (by repeat (first | (with_reducible first | exact HB.out | apply below_alloc | apply pw_below_drewN | apply below_drew1) | exact HB.out)) hb); clear HO_8; clear HO_9; clear HB; have HO_8 := n0_; have HO_9 := n1_; have HO329 := n2_; have HB := n3_; clear n0_ n1_ n2_ n3_; (try clear hb); (try clear hb2); (try clear hk); (try clear hi); (try clear ho0); obtain ⟨Ao50, co50, eo50⟩ := Kd.S_slice HO329.out; subst eo50) | ((with_reducible refine gate_callee (f := 23) rfl ?_); refine goesL_ (some 51) rfl rfl Tryd.func23 (by kernel_rfl) rfl #[.slice Ao26 t319.length co26, .slice Ao50 t327.length co50] rfl (by (try simp only [List.map_toArray, List.map_cons, List.map_nil]); first | done | rfl | (simp only [List.length_drop, List.length_take]; rfl)) ?_; (with_reducible refine (laws_eqNameS.calls kj15 _ _ t319 _ _ t327 false _ ?side1 ?side2 ?side3 ?side4 A32.out).mono ?_); (case side1 => repeat (first | exact (Kd.S_reads' HO_8.out).2.2 | (with_reducible refine Kd.C_alloc ?_ _) | (with_reducible refine Kd.C_drewN ?_ _) | (with_reducible refine Kd.C_drew ?_))); (case side2 => exact (Kd.S_reads' HO_8.out).2.1); (case side3 => repeat (first | exact (Kd.S_reads' HO329.out).2.2 | (with_reducible refine Kd.C_alloc ?_ _) | (with_reducible refine Kd.C_drewN ?_ _) | (with_reducible refine Kd.C_drew ?_))); (case side4 => exact (Kd.S_reads' HO329.out).2.1); rintro e w51 ⟨rfl, hb⟩; refine ⟨_, rfl, ?_⟩; have n0_ := Aside0.mk (Kd.S_below (by (with_reducible repeat (first | apply Kd.S_alloc | apply Kd.S_drewN | apply Kd.S_drew)); exact HO_8.out) hb); have n1_ := Aside0.mk (Kd.S_below (by (with_reducible repeat (first | apply Kd.S_alloc | apply Kd.S_drewN | apply Kd.S_drew)); exact HO_9.out) hb); have n2_ := Aside0.mk (Kd.S_below (by (with_reducible repeat (first | apply Kd.S_alloc | apply Kd.S_drewN | apply Kd.S_drew)); exact HO329.out) hb); have n3_ := Aside0.mk (below_step (by repeat (first | (with_reducible first | exact HB.out | apply below_alloc | apply pw_below_drewN | apply below_drew1) | exact HB.out)) hb); clear HO_8; clear HO_9; clear HO329; clear HB; have HO_8 := n0_; have HO_9 := n1_; have HO329 := n2_; have HB := n3_; clear n0_ n1_ n2_ n3_; (try clear hb); (try clear hb2); (try clear hk); (try clear hi)))
              go_ret
              exact ⟨by first | rfl | (simp [errW_none, errW_some] <;> rfl) | (simp [*, errW_none, errW_some] <;> rfl), by repeat (first | (with_reducible first | exact HB.out | apply below_alloc | apply pw_below_drewN | apply below_drew1) | exact HB.out)⟩

end Go.Proofs.YtcckamdpncbkoaaDoor.G

namespace Go.Proofs.YtcckamdpncbkoaaDoor.Opn
open Go.RowKit Go.Proofs.YtcckamdpncbkoaaDoorW.PrintWords
set_option linter.unusedVariables false
set_option linter.unusedSimpArgs false
variable {H : Type} {enc : TypeId × Value → H} {P : Program} {w : World} {base : Nat} {spare : Nat → Bool} {held : Bool}
def okInt (k : IntKind) (n : Int) : Prop := (Lit.int k n).wf = true
def okBool (_ : Bool) : Prop := True
def okStr (s : ByteArray) : Prop := s.size ≤ 9223372036854775807
def okList {α : Type} (p : α → Prop) (xs : List α) : Prop := xs.length ≤ 9223372036854775807 ∧ ∀ x ∈ xs, p x
theorem of_int {t : TypeId} {k : IntKind} {fuel : Nat} {cs : List Value} {x : DataW H × List MemPlace} (ht : P.underlying t = some (.int k)) (h : DataW.trod enc P w base spare held fuel t cs = some x) :
    ∃ n, (Kd.int k).K w n cs ∧ okInt k n := by
  obtain ⟨n, rfl, rfl, hw⟩ := DataW.trod_int ht h
  exact ⟨n, rfl, hw⟩
theorem of_bool {t : TypeId} {fuel : Nat} {cs : List Value} {x : DataW H × List MemPlace} (ht : P.underlying t = some .bool) (h : DataW.trod enc P w base spare held fuel t cs = some x) :
    ∃ n, Kd.bool.K w n cs ∧ okBool n := by
  cases fuel with
  | zero => simp [DataW.trod] at h
  | succ fuel =>
    match cs with
    | [] => simp [DataW.trod, ht] at h
    | [v] => cases v <;> simp [DataW.trod, ht] at h; exact ⟨_, rfl, trivial⟩
    | _ :: _ :: _ => simp [DataW.trod, ht] at h
theorem of_string {t : TypeId} {fuel : Nat} {cs : List Value} {x : DataW H × List MemPlace} (ht : P.underlying t = some .string) (h : DataW.trod enc P w base spare held fuel t cs = some x) :
    ∃ n, Kd.string.K w n cs ∧ okStr n := by
  cases fuel with
  | zero => simp [DataW.trod] at h
  | succ fuel =>
    match cs with
    | [] => simp [DataW.trod, ht] at h
    | [v] => cases v <;> simp [DataW.trod, ht] at h; exact ⟨_, rfl, h.1⟩
    | _ :: _ :: _ => simp [DataW.trod, ht] at h
theorem add_add (a : Addr) (k i : Nat) : (a.add k).add i = a.add (k + i) := by
  unfold Addr.add
  by_cases hk : k = 0 <;> by_cases hi : i = 0 <;> simp [hk, hi, Nat.add_assoc]
theorem of_slice {α : Type} {d : Kd α} {ok : α → Prop} {t e : TypeId} {fuel : Nat} {cs : List Value} {x : DataW H × List MemPlace} (ht : P.underlying t = some (.slice e)) (hc : P.cellsOf e = d.sz)
    (ih : ∀ n cs x, DataW.trod enc P w base spare held n e cs = some x → ∃ y, d.K w y cs ∧ ok y) (h : DataW.trod enc P w base spare held fuel t cs = some x) :
    ∃ ys, (Kd.slice e d).K w ys cs ∧ okList ok ys := by
  rcases Go.Deep.open_slice ht h with ⟨rfl, _⟩ | ⟨a, len, cap, m, n, D, Pl, rfl, hb, hl, hm, hmm, hxe, hel⟩
  · exact ⟨[], ⟨none, 0, rfl, by simp, rfl, by simp, fun h => absurd h (by simp)⟩, by simp, fun x hx => by simp at hx⟩
  · have hlm : len ≤ m := by rw [hmm]; split <;> omega
    have hm' : len ≤ 9223372036854775807 := by unfold maxLen at hm; omega
    have key : ∀ i, i < len → ∃ cs' y, w.cells? base (a.add (i * P.cellsOf e)) (P.cellsOf e) = some cs' ∧ d.K w y cs' ∧ ok y := by
      intro i hi
      obtain ⟨cs', h1, h2⟩ := hel i (by omega)
      obtain ⟨y, hy, ho⟩ := ih _ _ _ h2
      exact ⟨cs', y, h1, hy, ho⟩
    obtain ⟨ys, hlen, hys⟩ : ∃ ys : List α, ys.length = len ∧ ∀ i (hi : i < ys.length), ∃ cs', w.cells? base (a.add (i * P.cellsOf e)) (P.cellsOf e) = some cs' ∧ d.K w ys[i] cs' ∧ ok ys[i] := by
      clear h hxe hel hmm hlm hl hm hm'
      induction len with
      | zero => exact ⟨[], rfl, fun i hi => by simp at hi⟩
      | succ len ihl =>
        obtain ⟨ys, h1, h2⟩ := ihl (fun i hi => key i (by omega))
        obtain ⟨cs', y, h3, h4, h5⟩ := key len (by omega)
        refine ⟨ys ++ [y], by simp [h1], fun i hi => ?_⟩
        by_cases hi' : i < ys.length
        · rw [List.getElem_append_left hi']; exact h2 i hi'
        · have : i = len := by simp at hi; omega
          subst this
          refine ⟨cs', h3, ?_, ?_⟩ <;> rw [List.getElem_append_right (by omega)] <;> simpa [h1]
    refine ⟨ys, ⟨some a, cap, by rw [hlen], by omega, rfl, by omega, fun _ => ⟨a, rfl, fun j p hj => ?_⟩⟩, by omega, fun y hy => ?_⟩
    · obtain ⟨hj', rfl⟩ := List.getElem?_eq_some_iff.1 hj
      obtain ⟨cs', h1, h2, _⟩ := hys j hj'
      rw [hc] at h1
      refine ⟨cs', d.K_len h2, h2, fun i u hu => ?_⟩
      obtain ⟨_, hl', hcell⟩ := World.cells?_some h1
      have hi : i < d.sz := by have := (List.getElem?_eq_some_iff.1 hu).1; omega
      have := hcell i hi
      rw [hu, add_add] at this
      exact this
    · obtain ⟨i, hi, rfl⟩ := List.getElem_of_mem hy
      obtain ⟨_, _, _, h3⟩ := hys i hi
      exact h3
theorem mapM_all {α β : Type} {f : α → Option β} : ∀ {l : List α} {ys : List β}, l.mapM f = some ys → ∀ x ∈ l, ∃ y, f x = some y
  | [], _, _, x, hx => by simp at hx
  | a :: l, ys, h, x, hx => by
    rw [List.mapM_cons] at h
    simp only [Option.bind_eq_bind, Option.bind_eq_some_iff] at h
    obtain ⟨y, h1, ys', h2, _⟩ := h
    rcases List.mem_cons.1 hx with rfl | hx
    · exact ⟨y, h1⟩
    · exact mapM_all h2 x hx
theorem of_fields {t : TypeId} {fs : Array Field} {fuel : Nat} {cs : List Value} {x : DataW H × List MemPlace} (ht : P.underlying t = some (.struct fs)) (h : DataW.trod enc P w base spare held fuel t cs = some x) :
    cs.length = P.cellsOf t ∧ ∃ n, ∀ f ∈ fs.toList, ∃ y, DataW.trod enc P w base spare held n f.type ((cs.drop f.offset).take (P.cellsOf f.type)) = some y := by
  cases fuel with
  | zero => simp [DataW.trod] at h
  | succ fuel =>
    simp only [DataW.trod, ht] at h
    split at h
    · rename_i hl
      refine ⟨hl, fuel, ?_⟩
      simp only [Option.map_eq_some_iff] at h
      obtain ⟨ys, h1, _⟩ := h
      exact mapM_all h1
    · simp at h
theorem pair_K {α β : Type} {a : Kd α} {b : Kd β} {x : α} {y : β} {cs : List Value} {n : Nat} (off : Nat) (hn : a.sz = n) (h0 : a.K w x ((cs.drop off).take n)) (h1 : b.K w y (cs.drop (off + n))) : (Kd.pair a b).K w (x, y) (cs.drop off) :=
  ⟨_, _, by rw [← List.drop_drop]; exact (List.take_append_drop n (cs.drop off)).symm, h0, h1⟩
theorem last_K {α : Type} {a : Kd α} {x : α} {cs : List Value} {n : Nat} (off : Nat) (hl : cs.length = off + n) (h0 : a.K w x ((cs.drop off).take n)) : a.K w x (cs.drop off) := by
  rwa [List.take_of_length_le (by rw [List.length_drop]; omega)] at h0
end Go.Proofs.YtcckamdpncbkoaaDoor.Opn

namespace Go.Proofs.YtcckamdpncbkoaaDoor.G
open Go.Proofs.YtcckamdpncbkoaaDoor.Opn
open Go.RowKit Go.Proofs.YtcckamdpncbkoaaDoorW.PrintWords Go.Proofs.YtcckamdpncbkoaaDoorW.PrintLast Go.Proofs.YtcckamdpncbkoaaDoorW.PrintMore
open Go.Proofs.YtcckamdpncbkoaaDoor.Gl Go.Proofs.YtcckamdpncbkoaaDoor.Ext
attribute [local go_sem] max2_int min2_int max_two min_two max_three min_three max_four min_four   -- for this text's walks alone
set_option linter.unusedVariables false
set_option linter.unusedSimpArgs false

theorem cells9 : Tryd.prog.cellsOf 9 = 1 := by kernel_rfl
theorem cells22 : Tryd.prog.cellsOf 22 = 1 := by kernel_rfl
theorem cells24 : Tryd.prog.cellsOf 24 = 4 := by kernel_rfl
def ok24 (y : S24) : Prop := okList (okStr) y.f0 ∧ okStr y.f1 ∧ okStr y.f2 ∧ okStr y.f3
theorem of_T24 {H : Type} {enc : TypeId × Value → H} {w : World} {base : Nat} {spare : Nat → Bool} {held : Bool} {fuel : Nat} {cs : List Value} {x : DataW H × List MemPlace} (h : DataW.trod enc Tryd.prog w base spare held fuel 24 cs = some x) : ∃ y : S24, k24.K w y cs ∧ ok24 y := by
  obtain ⟨hl, n, hf⟩ := of_fields Tryd.underlying24 h
  rw [cells24] at hl
  simp only [List.mem_cons, List.not_mem_nil, or_false, forall_eq_or_imp, forall_eq] at hf
  obtain ⟨⟨y0, f0⟩, ⟨y1, f1⟩, ⟨y2, f2⟩, ⟨y3, f3⟩⟩ := hf
  rw [cells22] at f0
  obtain ⟨x0, g0, b0⟩ := of_slice (ok := okStr) Tryd.underlying22 cells9 (fun _ _ _ h_ => of_string Tryd.underlying9 h_) f0
  rw [cells9] at f1
  obtain ⟨x1, g1, b1⟩ := of_string Tryd.underlying9 f1
  rw [cells9] at f2
  obtain ⟨x2, g2, b2⟩ := of_string Tryd.underlying9 f2
  rw [cells9] at f3
  obtain ⟨x3, g3, b3⟩ := of_string Tryd.underlying9 f3
  exact ⟨⟨x0, x1, x2, x3⟩, (pair_K (n := 1) 0 rfl g0 (pair_K (n := 1) 1 rfl g1 (pair_K (n := 1) 2 rfl g2 (last_K (n := 1) 3 hl g3)))), ⟨b0, b1, b2, b3⟩⟩
end Go.Proofs.YtcckamdpncbkoaaDoor.G

namespace Go.Proofs.YtcckamdpncbkoaaDoor.G
open Go.Proofs.YtcckamdpncbkoaaDoor.Opn
open Go.RowKit Go.Proofs.YtcckamdpncbkoaaDoorW.PrintWords Go.Proofs.YtcckamdpncbkoaaDoorW.PrintLast Go.Proofs.YtcckamdpncbkoaaDoorW.PrintMore
open Go.Proofs.YtcckamdpncbkoaaDoor.Gl Go.Proofs.YtcckamdpncbkoaaDoor.Ext
attribute [local go_sem] max2_int min2_int max_two min_two max_three min_three max_four min_four   -- for this text's walks alone
set_option linter.unusedVariables false
set_option linter.unusedSimpArgs false

def laws_FnExactSamePeople.Pur : Prop := ∀ (l0 : List (S24)) (l1 : List (S24)), okList (ok24) l0 → okList (ok24) l1 → ∃ k, laws_FnExactSamePeople.f k l0 l1 = some true
theorem laws_FnExactSamePeople.wlk (P : laws_FnExactSamePeople.Pur) (A0 : Option Addr) (c0 : Nat) (l0 : List (S24)) (A1 : Option Addr) (c1 : Nat) (l1 : List (S24)) (w : World) (hr0 : Kd.C k24 w A0 l0.length l0) (hc0 : l0.length ≤ c0) (hr1 : Kd.C k24 w A1 l1.length l1) (hc1 : l1.length ≤ c1) {gF1 gF2 gF3 : Bool} (hG : GL gF1 gF2 gF3 w) (bl0 : okList (ok24) l0) (bl1 : okList (ok24) l1) :
    Calls Tryd.prog 5 #[.slice A0 l0.length c0, .slice A1 l1.length c1] w fun e w' => e = .returned (.bool true) ∧ Below w.heap.size w w' := by
  obtain ⟨k, h⟩ := P l0 l1 bl0 bl1
  refine (laws_FnExactSamePeople.calls k A0 c0 l0 A1 c1 l1 true w hG hr0 hc0 hr1 hc1 h).mono ?_
  rintro e w' ⟨rfl, hd⟩
  exact ⟨rfl, hd⟩

end Go.Proofs.YtcckamdpncbkoaaDoor.G

namespace Go.Proofs.YtcckamdpncbkoaaDoor.B
open Go.RowKit Go.Proofs.YtcckamdpncbkoaaDoorW.PrintWords Go.Proofs.YtcckamdpncbkoaaDoorW.PrintLast
set_option linter.unusedVariables false
set_option linter.unusedSimpArgs false
theorem w64 {x : Int} (h : -9223372036854775808 ≤ x) (h' : x ≤ 9223372036854775807) : wrap64 x = x := by unfold wrap64; omega
theorem ev_pos {α : Type} {c : Prop} [Decidable c] {g f : Nat → Option α} {r : α} (h : c) (e : Ev g r) : Ev (fun k => if c then g k else f k) r := Ev.congr (fun _ => if_pos h) e
theorem ev_neg {α : Type} {c : Prop} [Decidable c] {g f : Nat → Option α} {r : α} (h : ¬ c) (e : Ev f r) : Ev (fun k => if c then g k else f k) r := Ev.congr (fun _ => if_neg h) e
theorem ev_ite {α : Type} {c : Prop} [Decidable c] {g f : Nat → Option α} {a b : α} (h : c → Ev g a) (h' : ¬ c → Ev f b) : Ev (fun k => if c then g k else f k) (if c then a else b) := by
  by_cases hc : c
  · rw [if_pos hc]; exact ev_pos hc (h hc)
  · rw [if_neg hc]; exact ev_neg hc (h' hc)
theorem ev_bind0 {α β : Type} {o : Option α} {f : Nat → α → Option β} {a : α} {r : β} (h : o = some a) (k : Ev (fun n => f n a) r) : Ev (fun n => o.bind (f n)) r := Ev.congr (fun _ => by rw [h]; rfl) k
theorem ev_uniq {α : Type} {g : Nat → Option α} {a b : α} (h : Ev g a) (h' : Ev g b) : a = b := by
  obtain ⟨K, h⟩ := h
  obtain ⟨K', h'⟩ := h'
  exact Option.some.inj ((h _ (Nat.le_max_left K K')).symm.trans (h' _ (Nat.le_max_right K K')))
theorem ev_eq {α : Type} {g : Nat → Option α} {a b : α} (h : Ev g a) (e : a = b) : Ev g b := e ▸ h
abbrev L (s : ByteArray) : List UInt8 := s.data.toList
def mkB (l : List UInt8) : ByteArray := ⟨l.toArray⟩
theorem L_mk (l : List UInt8) : L (mkB l) = l := by simp [mkB]
theorem mk_L (s : ByteArray) : mkB (L s) = s := by cases s; simp [mkB, L]
theorem L_inj {a b : ByteArray} (h : L a = L b) : a = b := by rw [← mk_L a, h, mk_L]
theorem L_iff {a b : ByteArray} : a = b ↔ L a = L b := ⟨fun h => by rw [h], L_inj⟩
theorem L_len (s : ByteArray) : (L s).length = s.size := (Lib.size_eq s).symm
theorem size_mk (l : List UInt8) : (mkB l).size = l.length := by rw [← L_len, L_mk]
theorem toList_L (s : ByteArray) : s.toList = L s := Lib.toList_data s
theorem L_extract (s : ByteArray) (a b : Nat) : L (s.extract a b) = ((L s).drop a).take (b - a) := Lib.extract_data s a b
theorem L_append (a b : ByteArray) : L (a ++ b) = L a ++ L b := by simp [L, ByteArray.data_append]
theorem size_append (a b : ByteArray) : (a ++ b).size = a.size + b.size := by rw [← L_len, L_append, List.length_append, L_len, L_len]
theorem mk_append (a b : List UInt8) : mkB a ++ mkB b = mkB (a ++ b) := L_inj (by rw [L_append, L_mk, L_mk, L_mk])
theorem bt_get (s : ByteArray) (i : Nat) (h : i < s.size) : bt s (i : Int) = (((L s)[i]'(by rw [L_len]; exact h)).toNat : Int) := by
  unfold bt
  simp only [Int.toNat_natCast, h, dif_pos]
  rfl
theorem bt_getD (s : ByteArray) (i : Nat) (h : i < s.size) : bt s (i : Int) = (((L s).getD i 0).toNat : Int) := by
  rw [bt_get s i h, List.getD_eq_getElem?_getD, List.getElem?_eq_getElem (by rw [L_len]; exact h)]; rfl
theorem size_pos_iff (s : ByteArray) : s.size = 0 ↔ L s = [] := by rw [← L_len, List.length_eq_zero_iff]
theorem u8_inj {a b : UInt8} (h : (a.toNat : Int) = (b.toNat : Int)) : a = b := UInt8.toNat_inj.1 (by omega)
theorem toList_eq_iff {a b : ByteArray} : a.toList = b.toList ↔ a = b := by rw [toList_L, toList_L, L_iff]
theorem mk_eq_iff {a b : List UInt8} : mkB a = mkB b ↔ a = b := ⟨fun h => by have := congrArg L h; rwa [L_mk, L_mk] at this, fun h => by rw [h]⟩
end Go.Proofs.YtcckamdpncbkoaaDoor.B

namespace Go.Proofs.YtcckamdpncbkoaaDoor.B
open Go.RowKit Go.Proofs.YtcckamdpncbkoaaDoorW.PrintWords Go.Proofs.YtcckamdpncbkoaaDoorW.PrintLast
set_option linter.unusedVariables false
set_option linter.unusedSimpArgs false
/-- What stands ahd of the first part. -/
def ahd (seg : List UInt8) : List (List UInt8) → List (List UInt8)
  | [] => [seg]
  | h :: t => (seg ++ h) :: t
/-- The parts of a list between bytes b. -/
def spl (b : UInt8) : List UInt8 → List (List UInt8)
  | [] => [[]]
  | c :: cs => if c = b then [] :: spl b cs else ahd [c] (spl b cs)
theorem spl_nil (b : UInt8) : spl b [] = [[]] := rfl
theorem spl_cons (b c : UInt8) (cs : List UInt8) : spl b (c :: cs) = if c = b then [] :: spl b cs else ahd [c] (spl b cs) := rfl
theorem spl_ne (b : UInt8) (l : List UInt8) : spl b l ≠ [] := by
  cases l with
  | nil => simp [spl]
  | cons c cs => unfold spl; split <;> simp; unfold ahd; split <;> simp
theorem ahd_nil (p : List (List UInt8)) (h : p ≠ []) : ahd [] p = p := by cases p <;> simp_all [ahd]
theorem ahd_ahd (a b : List UInt8) (p : List (List UInt8)) : ahd a (ahd b p) = ahd (a ++ b) p := by cases p <;> simp [ahd]
theorem spl_length (b : UInt8) (l : List UInt8) : (spl b l).length ≤ l.length + 1 := by
  induction l with
  | nil => simp [spl]
  | cons c cs ih =>
    unfold spl
    split
    · simp; omega
    · cases h : spl b cs with
      | nil => exact absurd h (spl_ne b cs)
      | cons p q => rw [h] at ih; simp [ahd] at ih ⊢; omega
theorem spl_step (b : UInt8) (l : List UInt8) (from_ i : Nat) (hi : i < l.length) (hf : from_ ≤ i) :
    ahd ((l.drop from_).take (i - from_)) (spl b (l.drop i)) =
      if l[i] = b then ((l.drop from_).take (i - from_)) :: spl b (l.drop (i + 1)) else ahd ((l.drop from_).take (i + 1 - from_)) (spl b (l.drop (i + 1))) := by
  rw [List.drop_eq_getElem_cons hi, spl_cons]
  by_cases h : l[i] = b
  · rw [if_pos h, if_pos h]
    simp [ahd]
  · rw [if_neg h, if_neg h]
    have e : (l.drop from_).take (i + 1 - from_) = (l.drop from_).take (i - from_) ++ [l[i]] := by
      rw [show i + 1 - from_ = (i - from_) + 1 by omega, List.take_succ_eq_append_getElem (by rw [List.length_drop]; omega)]
      congr 2
      rw [List.getElem_drop]
      congr 1
      omega
    rw [e]
    exact ahd_ahd _ _ _
end Go.Proofs.YtcckamdpncbkoaaDoor.B

namespace Go.Proofs.YtcckamdpncbkoaaDoor.B
open Go.RowKit Go.Proofs.YtcckamdpncbkoaaDoorW.PrintWords Go.Proofs.YtcckamdpncbkoaaDoorW.PrintLast
set_option linter.unusedVariables false
set_option linter.unusedSimpArgs false
theorem spl_none (c : UInt8) : ∀ l : List UInt8, (∀ k : Nat, l[k]? ≠ some c) → spl c l = [l]
  | [], _ => rfl
  | a :: l, h => by
    have h0 : a ≠ c := fun e => h 0 (by simp [e])
    rw [spl_cons, if_neg h0, spl_none c l (fun k => by simpa using h (k + 1))]; rfl
theorem spl_first (c : UInt8) : ∀ (i : Nat) (l : List UInt8), l[i]? = some c → (∀ k : Nat, k < i → l[k]? ≠ some c) → spl c l = l.take i :: spl c (l.drop (i + 1))
  | 0, [], h, _ => by simp at h
  | 0, a :: l, h, _ => by
    have h0 : a = c := by simpa using h
    rw [spl_cons, if_pos h0]; rfl
  | i + 1, [], h, _ => by simp at h
  | i + 1, a :: l, h, hk => by
    have h0 : a ≠ c := fun e => hk 0 (by omega) (by simp [e])
    rw [spl_cons, if_neg h0, spl_first c i l (by simpa using h) (fun k hk' => by simpa using hk (k + 1) (by omega))]
    rfl
theorem indexB_one (s : ByteArray) (c : UInt8) : Lib.indexB s (mkB [c]) = Lib.indexByte (L s) c := by
  unfold Lib.indexB
  have : (mkB [c]).data.toList = [c] := L_mk [c]
  rw [this]
  exact Lib.index_one _ _
theorem splitB_spl (c : UInt8) (n : Nat) : ∀ s : ByteArray, s.size ≤ n → (Lib.splitB (mkB [c]) 0 (Lib.countB s (mkB [c])) s).map L = spl c (L s) := by
  have h1 : (mkB [c]).size = 1 := by rw [size_mk]; rfl
  induction n with
  | zero =>
    intro s hs
    rcases Lib.indexB_cases s (mkB [c]) with hm | ⟨i, hi, hr⟩
    · rw [Lib.splitB_miss _ _ _ _ hm]
      have := Lib.indexByte_none (by rw [← indexB_one]; exact hm : Lib.indexByte (L s) c = -1)
      rw [spl_none c (L s) this]; rfl
    · omega
  | succ n ih =>
    intro s hs
    rcases Lib.indexB_cases s (mkB [c]) with hm | ⟨i, hi, hr⟩
    · rw [Lib.splitB_miss _ _ _ _ hm]
      have := Lib.indexByte_none (by rw [← indexB_one]; exact hm : Lib.indexByte (L s) c = -1)
      rw [spl_none c (L s) this]; rfl
    · rw [h1] at hr
      have hc := Lib.countB_hit s (mkB [c]) i (by omega) hi
      rw [h1] at hc
      rw [hc, Nat.add_comm 1, Lib.splitB_hit _ _ _ _ i hi, h1, List.map_cons, ih (s.extract (i + 1) s.size) (by rw [ByteArray.size_extract]; omega)]
      obtain ⟨a, b⟩ := Lib.indexByte_some (by rw [← indexB_one]; exact hi : Lib.indexByte (L s) c = i)
      rw [spl_first c i (L s) a b, L_extract, L_extract]
      congr 1
      congr 1
      rw [List.take_of_length_le (by rw [List.length_drop, L_len]; omega)]
theorem splitB_eq (c : UInt8) (s : ByteArray) : Lib.splitB (mkB [c]) 0 (Lib.countB s (mkB [c])) s = (spl c (L s)).map mkB := by
  rw [← splitB_spl c s.size s (Nat.le_refl _), List.map_map]
  have : (mkB ∘ L) = id := by funext x; exact mk_L x
  rw [this, List.map_id]
end Go.Proofs.YtcckamdpncbkoaaDoor.B

namespace Go.Proofs.YtcckamdpncbkoaaDoor.G
open Go.RowKit Go.Proofs.YtcckamdpncbkoaaDoorW.PrintWords Go.Proofs.YtcckamdpncbkoaaDoorW.PrintLast Go.Proofs.YtcckamdpncbkoaaDoor.B
set_option linter.unusedVariables false
set_option linter.unusedSimpArgs false
theorem split_loop (s : ByteArray) (b : UInt8) (hs : s.size ≤ 8796093022000) (d : Nat) : ∀ (out : List ByteArray) (f i : Nat), out.length ≤ i → f ≤ i → i ≤ s.size → s.size - i = d →
    Ev (fun k => spec_l1Split.l0 k s (b.toNat : Int) out f i) (out ++ (ahd (((L s).drop f).take (i - f)) (spl b ((L s).drop i))).map mkB) := by
  have hL : (L s).length = s.size := L_len s
  induction d with
  | zero =>
    intro out f i h0 h1 h2 hd
    have e : i = s.size := by omega
    refine Ev.step (f := fun _ => some (out ++ [s.extract f s.size])) (fun k => ?_) (ev_eq (Ev.now _) ?_)
    · simp only [spec_l1Split.l0]
      rw [if_neg (by omega), if_pos (by omega), if_pos (by omega), if_pos (by omega)]
      simp
    · rw [List.drop_of_length_le (l := L s) (i := i) (by omega)]
      simp [spl, ahd]
      apply L_inj
      rw [L_extract, L_mk, e]
  | succ d ih =>
    intro out f i h0 h1 h2 hd
    have hlt : i < s.size := by omega
    have hlt' : i < (L s).length := by omega
    rw [spl_step b (L s) f i hlt' h1]
    have hw : wrap64 ((i : Int) + 1) = ((i + 1 : Nat) : Int) := by rw [w64 (by omega) (by omega)]; rfl
    by_cases e : (L s)[i] = b
    · rw [if_pos e]
      refine Ev.step (f := fun k => spec_l1Split.l0 k s (b.toNat : Int) (out ++ [s.extract f i]) ((i + 1 : Nat) : Int) ((i + 1 : Nat) : Int)) (fun k => ?_) (ev_eq (ih (out ++ [s.extract f i]) (i + 1) (i + 1) (by simp; omega) (by omega) (by omega) (by omega)) ?_)
      · simp only [spec_l1Split.l0]
        rw [if_pos (by omega), if_pos (by omega), if_pos (by rw [bt_get s i hlt, e]), if_pos (by omega), if_pos (by omega), if_pos (by omega), if_pos (by omega), hw]
        simp
      · rw [Nat.sub_self, List.take_zero, ahd_nil _ (spl_ne b _), List.append_assoc]
        congr 1
        simp
        apply L_inj
        rw [L_extract, L_mk]
    · rw [if_neg e]
      refine Ev.step (f := fun k => spec_l1Split.l0 k s (b.toNat : Int) out f ((i + 1 : Nat) : Int)) (fun k => ?_) (ih out f (i + 1) (by omega) (by omega) (by omega) (by omega))
      simp only [spec_l1Split.l0]
      rw [if_pos (by omega), if_pos (by omega), if_neg (by rw [bt_get s i hlt]; exact fun h => e (u8_inj h)), hw]
theorem split_ev (s : ByteArray) (b : UInt8) (hs : s.size ≤ 8796093022000) : Ev (fun k => spec_l1Split.f k s (b.toNat : Int)) ((spl b (L s)).map mkB) := by
  have := split_loop s b hs s.size [] 0 0 (by simp) (by omega) (by omega) (by omega)
  unfold spec_l1Split.f
  simpa [ahd_nil _ (spl_ne b _)] using this
end Go.Proofs.YtcckamdpncbkoaaDoor.G

namespace Go.Proofs.YtcckamdpncbkoaaDoor.G
open Go.RowKit Go.Proofs.YtcckamdpncbkoaaDoorW.PrintWords Go.Proofs.YtcckamdpncbkoaaDoorW.PrintLast Go.Proofs.YtcckamdpncbkoaaDoor.B
set_option linter.unusedVariables false
set_option linter.unusedSimpArgs false
def upD (c : Int) : Bool := decide (65 ≤ c) && decide (c ≤ 90)
def loD (c : Int) : Bool := decide (97 ≤ c) && decide (c ≤ 122)
def leD (c : Int) : Bool := upD c || loD c
def inD (n : Nat) : Bool := decide (1 ≤ n) && decide (n ≤ 12)
theorem spec_up (c : Int) : spec_l2Upper.f c = some (upD c) := by unfold spec_l2Upper.f upD; by_cases h : 65 ≤ c <;> simp [h]
theorem spec_lo (c : Int) : spec_l2Lower.f c = some (loD c) := by unfold spec_l2Lower.f loD; by_cases h : 97 ≤ c <;> simp [h]
theorem impl_up (c : Int) : impl_isUpper.f c = some (upD c) := by unfold impl_isUpper.f upD; by_cases h : 65 ≤ c <;> simp [h]
theorem impl_lo (c : Int) : impl_isLower.f c = some (loD c) := by unfold impl_isLower.f loD; by_cases h : 97 ≤ c <;> simp [h]
theorem spec_le (c : Int) : spec_l2Letter.f c = some (leD c) := by unfold spec_l2Letter.f leD; rw [spec_up, spec_lo]; cases upD c <;> simp
theorem impl_le (c : Int) : impl_isLetter.f c = some (leD c) := by unfold impl_isLetter.f leD; rw [impl_up, impl_lo]; cases upD c <;> simp
theorem in12 (n : Nat) : (if (n : Int) ≥ 1 then some (decide ((n : Int) ≤ 12)) else some false) = some (inD n) := by
  unfold inD
  by_cases h : 1 ≤ n
  · rw [if_pos (by omega)]
    congr 1
    rw [decide_eq_true h, Bool.true_and, decide_eq_decide]; omega
  · rw [if_neg (by omega)]; simp [h]
theorem spec_in (s : ByteArray) : spec_l1In.f (s.size : Int) 1 12 = some (inD s.size) := in12 s.size
theorem impl_in (s : ByteArray) : impl_inside.f (s.size : Int) 1 12 = some (inD s.size) := in12 s.size
theorem inD_iff {n : Nat} : inD n = true ↔ 1 ≤ n ∧ n ≤ 12 := by simp [inD]
/-- A byte of a word, behind the first. -/
def okD (s : ByteArray) (i : Nat) : Bool := leD (bt s i) || ((decide (bt s i = 45) || decide (bt s i = 39)) && leD (bt s ((i : Int) - 1)))
def wlD (s : ByteArray) : Nat → Nat → Bool
  | 0, _ => true
  | d + 1, i => okD s i && wlD s d (i + 1)
def wordD (s : ByteArray) : Bool := inD s.size && ((leD (bt s 0) && leD (bt s ((s.size : Int) - 1))) && wlD s (s.size - 1) 1)
def greatD (s : ByteArray) : Bool := wordD s && upD (bt s 0)
theorem word_step (s : ByteArray) (i k : Nat) (h1 : 1 ≤ i) (h2 : i < s.size) (h3 : s.size ≤ 12) : spec_l2Word.l0 (k + 1) s (i : Int) = if okD s i = true then spec_l2Word.l0 k s ((i + 1 : Nat) : Int) else some false := by
  have hw : wrap64 ((i : Int) + 1) = ((i + 1 : Nat) : Int) := by rw [w64 (by omega) (by omega)]; rfl
  have hw' : wrap64 ((i : Int) - 1) = (i : Int) - 1 := w64 (by omega) (by omega)
  have a1 : (0 : Int) ≤ (i : Int) - 1 := by omega
  have a2 : (i : Int) - 1 < (s.size : Int) := by omega
  simp only [spec_l2Word.l0]
  rw [if_pos (show (i : Int) < (s.size : Int) by omega), if_pos (show (0 : Int) ≤ (i : Int) by omega), spec_le, hw, hw']
  simp only [Option.bind_some, if_pos a1, if_pos a2, spec_le]
  unfold okD
  generalize ((i + 1 : Nat) : Int) = j
  cases leD (bt s i) <;> cases leD (bt s ((i : Int) - 1)) <;> by_cases c : bt s i = 45 <;> by_cases d : bt s i = 39 <;> simp [c, d]
theorem word_loop (s : ByteArray) (hs : s.size ≤ 12) (d : Nat) : ∀ i : Nat, 1 ≤ i → i ≤ s.size → s.size - i = d → Ev (fun k => spec_l2Word.l0 k s (i : Int)) (wlD s d i) := by
  induction d with
  | zero =>
    intro i h1 h2 hd
    refine Ev.step (f := fun _ => some true) (fun k => ?_) (Ev.now _)
    simp only [spec_l2Word.l0]; rw [if_neg (by omega)]
  | succ d ih =>
    intro i h1 h2 hd
    refine Ev.step (f := fun k => if okD s i = true then spec_l2Word.l0 k s ((i + 1 : Nat) : Int) else some false) (fun k => word_step s i k h1 (by omega) hs) ?_
    unfold wlD
    cases h : okD s i with
    | true => exact ev_pos rfl (ev_eq (ih (i + 1) (by omega) (by omega) (by omega)) (by simp))
    | false => exact ev_neg (by simp) (ev_eq (Ev.now _) (by simp))
theorem loops_eq (s : ByteArray) (k : Nat) : ∀ i : Int, impl_isNameWord.l0 k s i = spec_l2Word.l0 k s i := by
  induction k with
  | zero => intro i; simp [impl_isNameWord.l0, spec_l2Word.l0]
  | succ k ih => intro i; simp only [impl_isNameWord.l0, spec_l2Word.l0, impl_le, spec_le, ih]
theorem spec_word (s : ByteArray) : Ev (fun k => spec_l2Word.f k s) (wordD s) := by
  unfold spec_l2Word.f wordD
  cases h : inD s.size with
  | false =>
    refine Ev.step (f := fun _ => some false) (fun k => ?_) (ev_eq (Ev.now _) (by simp))
    simp only [spec_in, h, Option.bind_some, spec_l2Word.j0]; simp
  | true =>
    obtain ⟨h1, h2⟩ := inD_iff.1 h
    have hw : wrap64 ((s.size : Int) - 1) = (s.size : Int) - 1 := w64 (by omega) (by omega)
    refine Ev.step (f := fun k => if (leD (bt s 0) && leD (bt s ((s.size : Int) - 1))) = true then spec_l2Word.l0 k s ((1 : Nat) : Int) else some false) (fun k => ?_) ?_
    · have a1 : (0 : Int) < (s.size : Int) := by omega
      have a2 : (0 : Int) ≤ (s.size : Int) - 1 := by omega
      have a3 : (s.size : Int) - 1 < (s.size : Int) := by omega
      simp only [spec_in, h, Option.bind_some, if_pos a1, if_pos a2, if_pos a3, hw, spec_le, spec_l2Word.j0]
      cases leD (bt s 0) <;> cases leD (bt s ((s.size : Int) - 1)) <;> simp
    · cases h3 : (leD (bt s 0) && leD (bt s ((s.size : Int) - 1))) with
      | true => exact ev_pos rfl (ev_eq (word_loop s h2 (s.size - 1) 1 (by omega) (by omega) rfl) (by simp))
      | false => exact ev_neg (by simp) (ev_eq (Ev.now _) (by simp))
theorem impl_word (s : ByteArray) : Ev (fun k => impl_isNameWord.f k s) (wordD s) := by
  unfold impl_isNameWord.f wordD
  cases h : inD s.size with
  | false =>
    refine Ev.step (f := fun _ => some false) (fun k => ?_) (ev_eq (Ev.now _) (by simp))
    simp only [impl_in, h, Option.bind_some, impl_isNameWord.j0]; simp
  | true =>
    obtain ⟨h1, h2⟩ := inD_iff.1 h
    have hw : wrap64 ((s.size : Int) - 1) = (s.size : Int) - 1 := w64 (by omega) (by omega)
    refine Ev.step (f := fun k => if (leD (bt s 0) && leD (bt s ((s.size : Int) - 1))) = true then spec_l2Word.l0 k s ((0 : Nat) : Int) else some false) (fun k => ?_) ?_
    · have a1 : (0 : Int) < (s.size : Int) := by omega
      have a2 : (0 : Int) ≤ (s.size : Int) - 1 := by omega
      have a3 : (s.size : Int) - 1 < (s.size : Int) := by omega
      simp only [impl_in, h, Option.bind_some, if_pos a1, if_pos a2, if_pos a3, hw, impl_le, impl_isNameWord.j0, loops_eq]
      cases leD (bt s 0) <;> cases leD (bt s ((s.size : Int) - 1)) <;> simp
    · cases h3 : (leD (bt s 0) && leD (bt s ((s.size : Int) - 1))) with
      | true =>
        refine ev_pos rfl (Ev.step (f := fun k => spec_l2Word.l0 k s ((1 : Nat) : Int)) (fun k => ?_) (ev_eq (word_loop s h2 (s.size - 1) 1 (by omega) (by omega) rfl) (by simp)))
        have h0 : leD (bt s 0) = true := by simp at h3; exact h3.1
        simp only [spec_l2Word.l0]
        rw [if_pos (by omega), if_pos (by omega), spec_le, show ((0 : Nat) : Int) = 0 from rfl, h0, w64 (by omega) (by omega)]
        simp
      | false => exact ev_neg (by simp) (ev_eq (Ev.now _) (by simp))
theorem word_in {s : ByteArray} (h : wordD s = true) : 1 ≤ s.size ∧ s.size ≤ 12 := by
  unfold wordD at h
  cases hi : inD s.size with
  | true => exact inD_iff.1 hi
  | false => rw [hi] at h; simp at h
theorem impl_great (s : ByteArray) : Ev (fun k => impl_isGreatWord.f k s) (greatD s) := by
  unfold impl_isGreatWord.f greatD
  refine Ev.bind (impl_word s) ?_
  cases h : wordD s with
  | true =>
    have := word_in h
    refine ev_pos rfl (ev_pos (by omega) (ev_eq (Ev.congr (f := fun _ => some (upD (bt s 0))) (fun k => by rw [impl_up]; rfl) (Ev.now _)) (by simp)))
  | false => exact ev_neg (by simp) (ev_eq (Ev.now _) (by simp))
/-- Lower-case letters alone, from a place on. -/
def lowF (s : ByteArray) (j : Nat) : Bool := ((L s).drop j).all fun b => loD (b.toNat : Int)
def lowD (s : ByteArray) : Bool := lowF s 0
def wsD (l : List ByteArray) : Bool := l.all fun w => inD w.size && lowD w
theorem lowF_step (s : ByteArray) (j : Nat) (h : j < s.size) : lowF s j = (loD (bt s j) && lowF s (j + 1)) := by
  unfold lowF
  have hl : j < (L s).length := by rw [L_len]; exact h
  rw [List.drop_eq_getElem_cons hl, List.all_cons, bt_get s j h]
theorem lowF_end (s : ByteArray) (j : Nat) (h : s.size ≤ j) : lowF s j = true := by
  unfold lowF
  rw [List.drop_of_length_le (by rw [L_len]; exact h)]; rfl
theorem low_all (s : ByteArray) (h : lowD s = true) (j : Nat) (hj : j < s.size) : leD (bt s j) = true := by
  have hl : j < (L s).length := by rw [L_len]; exact hj
  have := List.all_eq_true.1 h _ (by rw [List.drop_zero]; exact List.getElem_mem hl)
  rw [bt_get s j hj]
  unfold leD
  rw [this]; simp
theorem wl_low (s : ByteArray) (h : lowD s = true) (d : Nat) : ∀ i, i + d ≤ s.size → wlD s d i = true := by
  induction d with
  | zero => intro i _; rfl
  | succ d ih =>
    intro i hi
    unfold wlD okD
    rw [low_all s h i (by omega), ih (i + 1) (by omega)]; rfl
theorem word_low (s : ByteArray) : (wordD s && lowD s) = (inD s.size && lowD s) := by
  cases h : lowD s with
  | false => simp
  | true =>
    unfold wordD
    cases hi : inD s.size with
    | false => simp
    | true =>
      obtain ⟨h1, h2⟩ := inD_iff.1 hi
      have e1 := low_all s h 0 (by omega)
      have e2 := low_all s h (s.size - 1) (by omega)
      rw [show ((s.size - 1 : Nat) : Int) = (s.size : Int) - 1 by omega] at e2
      rw [show ((0 : Nat) : Int) = 0 from rfl] at e1
      rw [e1, e2, wl_low s h (s.size - 1) 1 (by omega)]; rfl
theorem rd_get (l : List ByteArray) (i : Nat) (h : i < l.length) : rdOf ByteArray.empty l (i : Int) = l[i] := by simp [rdOf, h]
theorem spec_inner (ws : List ByteArray) (i : Nat) (hi : i < ws.length) (hs : (ws[i]).size ≤ 12) (hl : ws.length ≤ 4611686018427387904) (T : Bool) (hT : Ev (fun k => spec_l2Particle.l0 k ws ((i + 1 : Nat) : Int)) T) (d : Nat) : ∀ j : Nat, j ≤ (ws[i]).size → (ws[i]).size - j = d →
    Ev (fun k => spec_l2Particle.l1 k ws (i : Int) (j : Int)) (lowF ws[i] j && T) := by
  have hw : wrap64 ((i : Int) + 1) = ((i + 1 : Nat) : Int) := by rw [w64 (by omega) (by omega)]; rfl
  induction d with
  | zero =>
    intro j h1 hd
    refine Ev.step (f := fun k => spec_l2Particle.l0 k ws ((i + 1 : Nat) : Int)) (fun k => ?_) (ev_eq hT (by rw [lowF_end _ _ (by omega)]; simp))
    simp only [spec_l2Particle.l1, rd_get ws i hi]
    rw [if_pos (by omega), if_pos (by omega), if_neg (by omega), hw]
  | succ d ih =>
    intro j h1 hd
    rw [lowF_step _ j (by omega)]
    have hw' : wrap64 ((j : Int) + 1) = ((j + 1 : Nat) : Int) := by rw [w64 (by omega) (by omega)]; rfl
    refine Ev.step (f := fun k => if loD (bt ws[i] (j : Int)) = true then spec_l2Particle.l1 k ws (i : Int) ((j + 1 : Nat) : Int) else some false) (fun k => ?_) ?_
    · simp only [spec_l2Particle.l1, rd_get ws i hi]
      rw [if_pos (by omega), if_pos (by omega), if_pos (by omega), if_pos (by omega), hw', spec_lo]; rfl
    · cases h : loD (bt ws[i] (j : Int)) with
      | true => exact ev_pos rfl (ev_eq (ih (j + 1) (by omega) (by omega)) (by simp))
      | false => exact ev_neg (by simp) (ev_eq (Ev.now _) (by simp))
theorem spec_outer (ws : List ByteArray) (hl : ws.length ≤ 4611686018427387904) (d : Nat) : ∀ i : Nat, i ≤ ws.length → ws.length - i = d →
    Ev (fun k => spec_l2Particle.l0 k ws (i : Int)) (wsD (ws.drop i) && decide (ws.length ≤ 2)) := by
  induction d with
  | zero =>
    intro i h1 hd
    refine Ev.step (f := fun k => some (decide ((ws.length : Int) ≤ 2))) (fun k => ?_) (ev_eq (Ev.now _) ?_)
    · simp only [spec_l2Particle.l0]; rw [if_neg (by omega)]
    · rw [List.drop_of_length_le (by omega)]
      show decide _ = (true && decide _)
      rw [Bool.true_and, decide_eq_decide]; omega
  | succ d ih =>
    intro i h1 hd
    have hi : i < ws.length := by omega
    refine Ev.step (f := fun k => (spec_l2Word.f k ws[i]).bind fun t => if t = true then spec_l2Particle.l1 k ws (i : Int) ((0 : Nat) : Int) else some false) (fun k => ?_) ?_
    · simp only [spec_l2Particle.l0, rd_get ws i hi]
      rw [if_pos (by omega), if_pos (by omega)]; rfl
    · refine Ev.bind (spec_word _) ?_
      have e : (wsD (ws.drop i) && decide (ws.length ≤ 2)) = ((wordD ws[i] && lowD ws[i]) && (wsD (ws.drop (i + 1)) && decide (ws.length ≤ 2))) := by
        rw [word_low, List.drop_eq_getElem_cons hi]
        simp only [wsD, List.all_cons, Bool.and_assoc]
      rw [e]
      cases h : wordD ws[i] with
      | true => exact ev_pos rfl (ev_eq (spec_inner ws i hi (word_in h).2 hl _ (ih (i + 1) (by omega) (by omega)) _ 0 (by omega) rfl) (by simp [lowD]))
      | false => exact ev_neg (by simp) (ev_eq (Ev.now _) (by simp))
theorem impl_inner (ws ws' : List ByteArray) (n i : Nat) (w : ByteArray) (hi : i < 4611686018427387904) (hs : w.size ≤ 12) (T : Bool) (hT : Ev (fun k => impl_isParticle.l0 k ws ws' (n : Int) ((i + 1 : Nat) : Int)) T) (d : Nat) : ∀ j : Nat, j ≤ w.size → w.size - j = d →
    Ev (fun k => impl_isParticle.l1 k ws w (j : Int) ws' (n : Int) (i : Int)) (lowF w j && T) := by
  have hw : wrap64 ((i : Int) + 1) = ((i + 1 : Nat) : Int) := by rw [w64 (by omega) (by omega)]; rfl
  induction d with
  | zero =>
    intro j h1 hd
    refine Ev.step (f := fun k => impl_isParticle.l0 k ws ws' (n : Int) ((i + 1 : Nat) : Int)) (fun k => ?_) (ev_eq hT (by rw [lowF_end _ _ (by omega)]; simp))
    simp only [impl_isParticle.l1]
    rw [if_neg (by omega), hw]
  | succ d ih =>
    intro j h1 hd
    rw [lowF_step _ j (by omega)]
    have hw' : wrap64 ((j : Int) + 1) = ((j + 1 : Nat) : Int) := by rw [w64 (by omega) (by omega)]; rfl
    refine Ev.step (f := fun k => if loD (bt w (j : Int)) = true then impl_isParticle.l1 k ws w ((j + 1 : Nat) : Int) ws' (n : Int) (i : Int) else some false) (fun k => ?_) ?_
    · simp only [impl_isParticle.l1]
      rw [if_pos (by omega), if_pos (by omega), hw', impl_lo]; rfl
    · cases h : loD (bt w (j : Int)) with
      | true => exact ev_pos rfl (ev_eq (ih (j + 1) (by omega) (by omega)) (by simp))
      | false => exact ev_neg (by simp) (ev_eq (Ev.now _) (by simp))
theorem impl_outer (ws : List ByteArray) (hl : ws.length ≤ 4611686018427387904) (d : Nat) : ∀ i : Nat, i ≤ ws.length → ws.length - i = d →
    Ev (fun k => impl_isParticle.l0 k ws ws (ws.length : Int) (i : Int)) (wsD (ws.drop i) && decide (ws.length ≤ 2)) := by
  induction d with
  | zero =>
    intro i h1 hd
    refine Ev.step (f := fun k => some (decide ((ws.length : Int) ≤ 2))) (fun k => ?_) (ev_eq (Ev.now _) ?_)
    · simp only [impl_isParticle.l0]; rw [if_neg (by omega)]
    · rw [List.drop_of_length_le (by omega)]
      show decide _ = (true && decide _)
      rw [Bool.true_and, decide_eq_decide]; omega
  | succ d ih =>
    intro i h1 hd
    have hi : i < ws.length := by omega
    have e : (wsD (ws.drop i) && decide (ws.length ≤ 2)) = (inD (ws[i]).size && (lowD ws[i] && (wsD (ws.drop (i + 1)) && decide (ws.length ≤ 2)))) := by
      rw [List.drop_eq_getElem_cons hi]
      simp only [wsD, List.all_cons, Bool.and_assoc]
    rw [e]
    refine Ev.step (f := fun k => if inD (ws[i]).size = true then impl_isParticle.l1 k ws ws[i] ((0 : Nat) : Int) ws (ws.length : Int) (i : Int) else some false) (fun k => ?_) ?_
    · simp only [impl_isParticle.l0, rd_get ws i hi]
      rw [if_pos (by omega), if_pos (by omega), if_pos (by omega), impl_in]; rfl
    · cases h : inD (ws[i]).size with
      | true => exact ev_pos rfl (ev_eq (impl_inner ws ws ws.length i ws[i] (by omega) (inD_iff.1 h).2 _ (ih (i + 1) (by omega) (by omega)) _ 0 (by omega) rfl) (by simp [lowD]))
      | false => exact ev_neg (by simp) (ev_eq (Ev.now _) (by simp))
def wordsOf (s : ByteArray) : List ByteArray := (spl 32 (L s)).map mkB
def partD (s : ByteArray) : Bool := decide (s.size = 0) || (wsD (wordsOf s) && decide ((wordsOf s).length ≤ 2))
theorem wordsOf_len (s : ByteArray) : (wordsOf s).length ≤ s.size + 1 := by
  have := spl_length 32 (L s)
  rw [L_len] at this
  unfold wordsOf
  rw [List.length_map]; exact this
theorem nil_iff (s : ByteArray) : s.toList = ([] : List UInt8) ↔ s.size = 0 := by rw [toList_L, size_pos_iff]
theorem split_sp (s : ByteArray) (c : UInt8) (hs : s.size ≤ 4294967280) : strings_Split.f s (⟨#[c]⟩ : ByteArray) = some ((spl c (L s)).map mkB) := by
  have e : (⟨#[c]⟩ : ByteArray) = mkB [c] := rfl
  have h1 : (mkB [c]).size = 1 := by rw [size_mk]; rfl
  have hc := Lib.countB_le (mkB [c]) (by omega) s.size s (Nat.le_refl _)
  unfold strings_Split.f
  rw [e, if_pos ⟨by omega, by omega, Lib.splitB_all (mkB [c]) (by omega) 0 _ s rfl, by omega⟩, splitB_eq]
theorem spec_part (s : ByteArray) (hs : s.size ≤ 4294967280) : Ev (fun k => spec_l2Particle.f k s) (partD s) := by
  unfold spec_l2Particle.f partD
  by_cases h : s.size = 0
  · exact ev_pos ((nil_iff s).2 h) (ev_eq (Ev.now _) (by simp [h]))
  · refine ev_neg (fun e => h ((nil_iff s).1 e)) (Ev.bind (split_ev s 32 (by omega)) (ev_eq (spec_outer (wordsOf s) (by have := wordsOf_len s; omega) _ 0 (by omega) rfl) ?_))
    simp [h]
theorem impl_part (s : ByteArray) (hs : s.size ≤ 4294967280) : Ev (fun k => impl_isParticle.f k s) (partD s) := by
  unfold impl_isParticle.f partD
  by_cases h : s.size = 0
  · exact ev_pos ((nil_iff s).2 h) (ev_eq (Ev.now _) (by simp [h]))
  · refine ev_neg (fun e => h ((nil_iff s).1 e)) (ev_bind0 (split_sp s 32 hs) (ev_eq (impl_outer (wordsOf s) (by have := wordsOf_len s; omega) _ 0 (by omega) rfl) ?_))
    simp [h]
end Go.Proofs.YtcckamdpncbkoaaDoor.G

namespace Go.Proofs.YtcckamdpncbkoaaDoor.G
open Go.RowKit Go.Proofs.YtcckamdpncbkoaaDoorW.PrintWords Go.Proofs.YtcckamdpncbkoaaDoorW.PrintLast Go.Proofs.YtcckamdpncbkoaaDoor.B
set_option linter.unusedVariables false
set_option linter.unusedSimpArgs false
/-- The bytes of a list of strings. -/
def bytesS (l : List ByteArray) : Nat := (l.map (·.size)).sum
def bulkS (l : List ByteArray) : Nat := l.length + bytesS l
theorem bytesS_cons (a : ByteArray) (l : List ByteArray) : bytesS (a :: l) = a.size + bytesS l := by simp [bytesS]
/-- What is left, or -1. -/
def lftOf (left : Int) (n : Nat) : Int := if (n : Int) ≤ left then left - n else -1
theorem lftOf_nn {left : Int} {n : Nat} : 0 ≤ lftOf left n ↔ (n : Int) ≤ left := by
  unfold lftOf
  split <;> omega
theorem lftOf_le {left : Int} {n : Nat} (h : 0 ≤ left) : lftOf left n ≤ left := by
  unfold lftOf
  split <;> omega
theorem lftOf_ge {left : Int} {n : Nat} : -1 ≤ lftOf left n := by
  unfold lftOf
  split <;> omega
theorem szS_loop (l : List ByteArray) (hb : ∀ s ∈ l, s.size ≤ 9223372036854775807) (hl : l.length ≤ 9223372036854775807) (d : Nat) : ∀ (left : Int) (i : Nat), 0 ≤ left → left ≤ 4611686018427387904 → l.length - i = d → i ≤ l.length →
    Ev (fun k => laws_szStringS.l0 k l left i) (lftOf left (bytesS (l.drop i))) := by
  induction d with
  | zero =>
    intro left i h0 h1 hd hi
    refine Ev.step (f := fun _ => some left) (fun k => ?_) (ev_eq (Ev.now _) ?_)
    · simp only [laws_szStringS.l0]; rw [if_neg (by omega)]
    · rw [List.drop_of_length_le (by omega)]; simp [lftOf, bytesS]; omega
  | succ d ih =>
    intro left i h0 h1 hd hi
    have hlt : i < l.length := by omega
    have hs := hb l[i] (List.getElem_mem hlt)
    have hr : rdOf ByteArray.empty l (i : Int) = l[i] := by simp [rdOf, hlt]
    have hw : wrap64 (left - (l[i].size : Int)) = left - (l[i].size : Int) := w64 (by omega) (by omega)
    rw [List.drop_eq_getElem_cons hlt, bytesS_cons]
    by_cases hn : left - (l[i].size : Int) < 0
    · refine Ev.step (f := fun _ => some (-1)) (fun k => ?_) (ev_eq (Ev.now _) ?_)
      · simp only [laws_szStringS.l0]; rw [if_pos (by omega), if_pos (by omega), hr, hw, if_pos hn]
      · unfold lftOf; rw [if_neg (by omega)]
    · refine Ev.step (f := fun k => laws_szStringS.l0 k l (left - (l[i].size : Int)) ((i + 1 : Nat) : Int)) (fun k => ?_) (ev_eq (ih (left - (l[i].size : Int)) (i + 1) (by omega) (by omega) (by omega) (by omega)) ?_)
      · simp only [laws_szStringS.l0]; rw [if_pos (by omega), if_pos (by omega), hr, hw, if_neg hn, w64 (x := (i : Int) + 1) (by omega) (by omega)]; rfl
      · unfold lftOf; split <;> split <;> omega
theorem szS_ev (l : List ByteArray) (hb : ∀ s ∈ l, s.size ≤ 9223372036854775807) (hl : l.length ≤ 9223372036854775807) (left : Int) (h0 : 0 ≤ left) (h1 : left ≤ 4611686018427387904) :
    Ev (fun k => laws_szStringS.f k l left) (lftOf left (bulkS l)) := by
  unfold laws_szStringS.f
  have hw : wrap64 (left - (l.length : Int)) = left - (l.length : Int) := w64 (by omega) (by omega)
  rw [hw]
  by_cases hn : left - (l.length : Int) < 0
  · refine ev_pos hn (ev_eq (Ev.now _) ?_)
    unfold lftOf bulkS; rw [if_neg (by omega)]
  · refine ev_neg hn (ev_eq (szS_loop l hb hl l.length (left - l.length) 0 (by omega) (by omega) rfl (by omega)) ?_)
    rw [List.drop_zero]
    unfold lftOf bulkS; split <;> split <;> omega
theorem toS_loop (l : List ByteArray) (hl : l.length ≤ 17592186044416) (d : Nat) : ∀ (i : Nat), l.length - i = d → i ≤ l.length →
    Ev (fun k => laws_toStringS.l0 k l (l.take i ++ List.replicate (l.length - i) (⟨#[]⟩ : ByteArray)) i) l := by
  induction d with
  | zero =>
    intro i hd hi
    refine Ev.step (f := fun _ => some l) (fun k => ?_) (Ev.now _)
    simp only [laws_toStringS.l0]; rw [if_neg (by omega), hd, List.take_of_length_le (by omega)]; simp
  | succ d ih =>
    intro i hd hi
    have hlt : i < l.length := by omega
    refine Ev.step (f := fun k => laws_toStringS.l0 k l (l.take (i + 1) ++ List.replicate (l.length - (i + 1)) (⟨#[]⟩ : ByteArray)) ((i + 1 : Nat) : Int)) (fun k => ?_) (ih (i + 1) (by omega) (by omega))
    have hr : rdOf ByteArray.empty l (i : Int) = l[i] := by simp [rdOf, hlt]
    have hlen : (l.take i).length = i := by simp; omega
    have e : (l.take i ++ List.replicate (l.length - i) (⟨#[]⟩ : ByteArray)).set i l[i] = l.take (i + 1) ++ List.replicate (l.length - (i + 1)) (⟨#[]⟩ : ByteArray) := by
      rw [List.set_append_right _ _ (by omega), hlen, Nat.sub_self, show l.length - i = (l.length - (i + 1)) + 1 by omega, List.replicate_succ, List.set_cons_zero, List.take_succ_eq_append_getElem hlt, List.append_assoc]
      rfl
    simp only [laws_toStringS.l0]
    rw [if_pos (by omega), if_pos (by omega), if_pos (by simp; omega), hr, w64 (x := (i : Int) + 1) (by omega) (by omega), Int.toNat_natCast, e]
    rfl
theorem toS_ev (l : List ByteArray) (hl : l.length ≤ 17592186044416) : Ev (fun k => laws_toStringS.f k l) l := by
  unfold laws_toStringS.f
  refine ev_pos (by omega) (ev_pos (by omega) ?_)
  have := toS_loop l hl l.length 0 rfl (by omega)
  simpa using this
theorem bytesS_len {l : List ByteArray} {n : Nat} (h : bulkS l ≤ n) : l.length ≤ n := by unfold bulkS at h; omega
theorem bytesS_mem {l : List ByteArray} {s : ByteArray} (h : s ∈ l) : s.size ≤ bytesS l := by
  induction l with
  | nil => simp at h
  | cons a l ih =>
    rw [bytesS_cons]
    rcases List.mem_cons.1 h with rfl | h
    · omega
    · have := ih h; omega
end Go.Proofs.YtcckamdpncbkoaaDoor.G

namespace Go.Proofs.YtcckamdpncbkoaaDoor.G
open Go.RowKit Go.Proofs.YtcckamdpncbkoaaDoorW.PrintWords Go.Proofs.YtcckamdpncbkoaaDoorW.PrintLast Go.Proofs.YtcckamdpncbkoaaDoorW.PrintMore
open Go.Proofs.YtcckamdpncbkoaaDoor.Gl Go.Proofs.YtcckamdpncbkoaaDoor.Ext
attribute [local go_sem] max2_int min2_int max_two min_two max_three min_three max_four min_four   -- for this text's walks alone
set_option linter.unusedVariables false
set_option linter.unusedSimpArgs false

/-! ### spec_IsValidName: function 13 -/
def spec_IsValidName.f (k : Nat) (l0_0 : List ByteArray) (a0_1 : ByteArray) (a0_2 : ByteArray) (a0_3 : ByteArray) : Option (Bool) := (spec_l2Good.f k l0_0 a0_1 a0_2 a0_3).bind fun t139 => (some t139)
theorem spec_IsValidName.mono : ∀ a0 a1 a2 a3 k, LeO (spec_IsValidName.f k a0 a1 a2 a3) (spec_IsValidName.f (k + 1) a0 a1 a2 a3) := by
  intro a0 a1 a2 a3 k
  unfold spec_IsValidName.f
  repeat' first
      | (with_reducible exact spec_l2Good.mono _ _ _ _ _)
      | (with_reducible exact LeO.refl _)
      | (with_reducible exact LeO.none _)
      | (with_reducible refine LeO.ite ?_ ?_)
      | (with_reducible refine LeO.bind ?_ (fun _ => ?_))
      | exact spec_l2Good.mono _ _ _ _ _
      | exact LeO.none _
      | refine LeO.ite ?_ ?_
      | refine LeO.bind ?_ (fun _ => ?_)
set_option maxHeartbeats 8000000 in
set_option maxRecDepth 100000 in
theorem spec_IsValidName.calls (k : Nat) (A0_0 : Option Addr) (c0_0 : Nat) (l0_0 : List ByteArray) (a0_1 : ByteArray) (a0_2 : ByteArray) (a0_3 : ByteArray) (r : Bool) (w : World) (hr0_0 : Kd.C Kd.string w A0_0 l0_0.length l0_0) (hc0_0 : l0_0.length ≤ c0_0) (h : spec_IsValidName.f k l0_0 a0_1 a0_2 a0_3 = some r) :
    Calls Tryd.prog 13 #[.agg #[.slice A0_0 l0_0.length c0_0, .string a0_1, .string a0_2, .string a0_3]] w fun e w' => e = .returned (.bool r) ∧ Below w.heap.size w w' := by
  have hu27 := Tryd.underlying27
  have HR0_0 := Aside0.mk hr0_0
  have HC0_0 := Aside0.mk hc0_0
  clear hr0_0 hc0_0
  have HB := Aside0.mk (Below.refl w.heap.size w)
  have H : ((spec_l2Good.f k l0_0 a0_1 a0_2 a0_3).bind fun t139 => (some t139)) = some r := h
  clear h
  replace H := Option.bind_eq_some_iff.mp H
  obtain ⟨t139, A20, H⟩ := H
  replace H : (some t139) = some r := H
  have A2 := Aside0.mk A20
  clear A20
  obtain rfl := Option.some.inj H
  go_enter Tryd.func13, Tryd.ntmps13
  go_wp2_with (first | ((with_reducible refine gate_dst (N := 1) rfl ?_); refine box_event ?hg (N := 1) ?hd (cs := #[.slice A0_0 l0_0.length c0_0, .string a0_1, .string a0_2, .string a0_3]) (t := 27) ?hr ?_; (case hd => rfl); (case hg => rfl); (case hr => first | (go_simp; done) | (go_simp; rfl)); intro gb138 hg w3 hbox hb; have n0_ := Aside0.mk (below_step (by repeat (first | (with_reducible first | exact HB.out | apply below_alloc | apply pw_below_drewN | apply below_drew1) | exact HB.out)) hb); have n1_ := Aside0.mk (hbox); have n2_ := Aside0.mk ((by rw [hg]; exact (below_size (by repeat (first | (with_reducible first | exact HB.out | apply below_alloc | apply pw_below_drewN | apply below_drew1) | exact HB.out))) : w.heap.size ≤ gb138)); have n3_ := Aside0.mk ((by rw [hg]; exact (below_size (by repeat (first | (with_reducible first | exact HB.out | apply below_alloc | apply pw_below_drewN | apply below_drew1) | exact HB.out))) : w.heap.size ≤ gb138)); clear HB; have HB := n0_; have BK138 := n1_; have GW138 := n2_; have GE138 := n3_; clear n0_ n1_ n2_ n3_; clear hb hbox hg; have hcz4_0 : w3.cell? ⟨gb138, 0, none⟩ = some (.slice A0_0 l0_0.length c0_0) := (blk_cell BK138.out 0).trans rfl; have hcz4_1 : w3.cell? ⟨gb138, 1, none⟩ = some (.string a0_1) := (blk_cell BK138.out 1).trans rfl; have hcz4_2 : w3.cell? ⟨gb138, 2, none⟩ = some (.string a0_2) := (blk_cell BK138.out 2).trans rfl; have hcz4_3 : w3.cell? ⟨gb138, 3, none⟩ = some (.string a0_3) := (blk_cell BK138.out 3).trans rfl; have hfz4_0 := blk_frozen BK138.out 0; have hfz4_1 := blk_frozen BK138.out 1; have hfz4_2 := blk_frozen BK138.out 2; have hfz4_3 := blk_frozen BK138.out 3) | ((with_reducible refine gate_callee (f := 39) rfl ?_); refine goesL_ (some 4) rfl rfl Tryd.func39 (by kernel_rfl) rfl #[.agg #[.slice A0_0 l0_0.length c0_0, .string a0_1, .string a0_2, .string a0_3]] rfl (by (try simp only [List.map_toArray, List.map_cons, List.map_nil]); first | done | rfl | (simp only [List.length_drop, List.length_take]; rfl)) ?_; (with_reducible refine (spec_l2Good.calls k _ _ l0_0 a0_1 a0_2 a0_3 t139 _ ?side1 ?side2 A2.out).mono ?_); (case side1 => repeat (first | exact (Kd.C_below HR0_0.out HB.out) | (with_reducible refine Kd.C_alloc ?_ _) | (with_reducible refine Kd.C_drewN ?_ _) | (with_reducible refine Kd.C_drew ?_))); (case side2 => exact HC0_0.out); rintro e w5 ⟨rfl, hb⟩; refine ⟨_, rfl, ?_⟩; have n0_ := Aside0.mk (blk_below (g := gb138) (o := .cells #[.slice A0_0 l0_0.length c0_0, .string a0_1, .string a0_2, .string a0_3] 27 (0, 0)) (by (with_reducible repeat (first | refine blk_drewN ?_ _ | refine blk_drew ?_ | refine blk_alloc ?_ _)); exact BK138.out) hb); have n1_ := Aside0.mk (below_step (by repeat (first | (with_reducible first | exact HB.out | apply below_alloc | apply pw_below_drewN | apply below_drew1 | refine below_set ?_ GE138.out) | exact HB.out)) hb); clear BK138; clear HB; have BK138 := n0_; have HB := n1_; clear n0_ n1_; (try clear hb); (try clear hb2); (try clear hk); (try clear hi)))
  go_ret
  exact ⟨by first | rfl | (simp [errW_none, errW_some] <;> rfl) | (simp [*, errW_none, errW_some] <;> rfl), by repeat (first | (with_reducible first | exact HB.out | apply below_alloc | apply pw_below_drewN | apply below_drew1 | refine below_set ?_ GE138.out) | exact HB.out)⟩

end Go.Proofs.YtcckamdpncbkoaaDoor.G

namespace Go.Proofs.YtcckamdpncbkoaaDoor.G
open Go.RowKit Go.Proofs.YtcckamdpncbkoaaDoorW.PrintWords Go.Proofs.YtcckamdpncbkoaaDoorW.PrintLast Go.Proofs.YtcckamdpncbkoaaDoor.B
set_option linter.unusedVariables false
set_option linter.unusedSimpArgs false
def sufD (S : ByteArray) : Bool := decide (S.size = 0) || wordD S
def restD (P F S : ByteArray) : Bool := partD P && (greatD F && sufD S)
def goodN (G : List ByteArray) (P F S : ByteArray) : Bool := G.all greatD && (decide (G.length ≤ 3) && restD P F S)
theorem spec_tail (P F S : ByteArray) (hP : P.size ≤ 4294967280) : Ev (fun k => (spec_l2Particle.f k P).bind fun t134 => (if t134 = true then ((spec_l2Word.f k F).bind fun t135 => (if t135 = true then (if 0 < (F.size : Int) then ((spec_l2Upper.f (bt F 0)).bind fun t136 => (if t136 = true then (if S.toList = ([] : List UInt8) then (some true) else ((spec_l2Word.f k S).bind fun t137 => (some t137))) else (some false))) else (none)) else (some false))) else (some false))) (restD P F S) := by
  unfold restD
  refine Ev.bind (spec_part P hP) ?_
  cases partD P with
  | false => exact ev_neg (by simp) (Ev.now _)
  | true =>
    refine ev_pos rfl (Ev.bind (spec_word F) ?_)
    unfold greatD
    cases h : wordD F with
    | false => exact ev_neg (by simp) (Ev.now _)
    | true =>
      have := word_in h
      refine ev_pos rfl (ev_pos (by omega) (ev_bind0 (spec_up _) ?_))
      cases upD (bt F 0) with
      | false => exact ev_neg (by simp) (Ev.now _)
      | true =>
        refine ev_pos rfl ?_
        unfold sufD
        by_cases h : S.size = 0
        · exact ev_pos ((nil_iff S).2 h) (ev_eq (Ev.now _) (by simp [h]))
        · exact ev_neg (fun e => h ((nil_iff S).1 e)) (Ev.bind (spec_word S) (ev_eq (Ev.now _) (by simp [h])))
theorem spec_good_loop (G : List ByteArray) (P F S : ByteArray) (hG : G.length ≤ 4611686018427387904) (hP : P.size ≤ 4294967280) (d : Nat) : ∀ i : Nat, i ≤ G.length → G.length - i = d →
    Ev (fun k => spec_l2Good.l0 k (i : Int) G P F S) ((G.drop i).all greatD && (decide (G.length ≤ 3) && restD P F S)) := by
  induction d with
  | zero =>
    intro i h1 hd
    refine Ev.step (f := fun k => if (G.length : Int) ≤ 3 then ((spec_l2Particle.f k P).bind fun t134 => (if t134 = true then ((spec_l2Word.f k F).bind fun t135 => (if t135 = true then (if 0 < (F.size : Int) then ((spec_l2Upper.f (bt F 0)).bind fun t136 => (if t136 = true then (if S.toList = ([] : List UInt8) then (some true) else ((spec_l2Word.f k S).bind fun t137 => (some t137))) else (some false))) else (none)) else (some false))) else (some false))) else some false) (fun k => ?_) ?_
    · simp only [spec_l2Good.l0]; rw [if_neg (by omega)]
    · rw [List.drop_of_length_le (by omega)]
      by_cases h : G.length ≤ 3
      · exact ev_pos (by omega) (ev_eq (spec_tail P F S hP) (by simp [h]))
      · exact ev_neg (by omega) (ev_eq (Ev.now _) (by simp [h]))
  | succ d ih =>
    intro i h1 hd
    have hi : i < G.length := by omega
    have hw : wrap64 ((i : Int) + 1) = ((i + 1 : Nat) : Int) := by rw [w64 (by omega) (by omega)]; rfl
    rw [List.drop_eq_getElem_cons hi, List.all_cons, Bool.and_assoc]
    refine Ev.step (f := fun k => (spec_l2Word.f k G[i]).bind fun t131 => (if t131 = true then (if 0 < ((G[i]).size : Int) then ((spec_l2Upper.f (bt G[i] 0)).bind fun t133 => (if t133 = true then (spec_l2Good.l0 k ((i + 1 : Nat) : Int) G P F S) else (some false))) else (none)) else (some false))) (fun k => ?_) ?_
    · simp only [spec_l2Good.l0, rd_get G i hi]
      rw [if_pos (by omega), if_pos (by omega), hw]
    · refine Ev.bind (spec_word _) ?_
      rw [show greatD G[i] = (wordD G[i] && upD (bt G[i] 0)) from rfl]
      cases h : wordD G[i] with
      | false => exact ev_neg (by simp) (ev_eq (Ev.now _) (by simp))
      | true =>
        have := word_in h
        refine ev_pos rfl (ev_pos (by omega) (ev_bind0 (spec_up _) ?_))
        cases upD (bt G[i] 0) with
        | false => exact ev_neg (by simp) (ev_eq (Ev.now _) (by simp))
        | true => exact ev_pos rfl (ev_eq (ih (i + 1) (by omega) (by omega)) (by simp))
theorem spec_name (G : List ByteArray) (P F S : ByteArray) (hG : G.length ≤ 4611686018427387904) (hP : P.size ≤ 4294967280) : Ev (fun k => spec_l2Good.f k G P F S) (goodN G P F S) := by
  have := spec_good_loop G P F S hG hP _ 0 (by omega) rfl
  unfold spec_l2Good.f goodN
  rw [List.drop_zero] at this
  exact this
theorem spec_valid (G : List ByteArray) (P F S : ByteArray) (hG : G.length ≤ 4611686018427387904) (hP : P.size ≤ 4294967280) : Ev (fun k => spec_IsValidName.f k G P F S) (goodN G P F S) := by
  unfold spec_IsValidName.f
  exact Ev.bind (spec_name G P F S hG hP) (Ev.now _)
theorem idx_loop (G : List ByteArray) (hG : G.length ≤ 4611686018427387904) (d : Nat) : ∀ i : Nat, i ≤ G.length → G.length - i = d →
    ∃ v, Ev (fun k => slices_IndexFunc_string_string_at_42.l0 k G (G.length : Int) (i : Int)) v ∧ decide (v ≥ 0) = !((G.drop i).all greatD) := by
  induction d with
  | zero =>
    intro i h1 hd
    refine ⟨-1, Ev.step (f := fun _ => some (-1)) (fun k => ?_) (Ev.now _), ?_⟩
    · simp only [slices_IndexFunc_string_string_at_42.l0]; rw [if_neg (by omega)]
    · rw [List.drop_of_length_le (by omega)]; simp
  | succ d ih =>
    intro i h1 hd
    have hi : i < G.length := by omega
    have hw : wrap64 ((i : Int) + 1) = ((i + 1 : Nat) : Int) := by rw [w64 (by omega) (by omega)]; rfl
    rw [List.drop_eq_getElem_cons hi, List.all_cons]
    have hst : ∀ v, Ev (fun k => (impl_IsValidName_1.f k G[i]).bind fun t => if t = true then some (i : Int) else slices_IndexFunc_string_string_at_42.l0 k G (G.length : Int) ((i + 1 : Nat) : Int)) v → Ev (fun k => slices_IndexFunc_string_string_at_42.l0 k G (G.length : Int) (i : Int)) v := by
      intro v hv
      refine Ev.step (fun k => ?_) hv
      simp only [slices_IndexFunc_string_string_at_42.l0, rd_get G i hi]
      rw [if_pos (by omega), if_pos (by omega), if_pos (by omega), hw]
    have hf : Ev (fun k => impl_IsValidName_1.f k G[i]) (!greatD G[i]) := by
      unfold impl_IsValidName_1.f
      exact Ev.bind (impl_great _) (Ev.now _)
    cases h : greatD G[i] with
    | true =>
      obtain ⟨v, hv, e⟩ := ih (i + 1) (by omega) (by omega)
      refine ⟨v, hst v (Ev.bind hf (ev_neg (by simp [h]) hv)), ?_⟩
      rw [e]; simp
    | false =>
      refine ⟨(i : Int), hst _ (Ev.bind hf (ev_pos (by simp [h]) (Ev.now _))), ?_⟩
      simp
theorem contains_ev (G : List ByteArray) (hG : G.length ≤ 4611686018427387904) : Ev (fun k => slices_ContainsFunc_string_string_at_42.f k G) (!(G.all greatD)) := by
  obtain ⟨v, hv, e⟩ := idx_loop G hG _ 0 (by omega) rfl
  unfold slices_ContainsFunc_string_string_at_42.f slices_IndexFunc_string_string_at_42.f
  rw [List.drop_zero] at e
  exact Ev.bind hv (ev_eq (Ev.now _) e)
theorem impl_valid (G : List ByteArray) (P F S : ByteArray) (hG : G.length ≤ 4611686018427387904) (hP : P.size ≤ 4294967280) : Ev (fun k => impl_IsValidName.f k G P F S) (goodN G P F S) := by
  have hj1 : Ev (fun k => impl_IsValidName.j0 k true G P F S) false := Ev.step (f := fun _ => some false) (fun k => by simp [impl_IsValidName.j0]) (Ev.now _)
  have hj0 : Ev (fun k => impl_IsValidName.j0 k false G P F S) (restD P F S) := by
    refine Ev.step (f := fun k => (impl_isParticle.f k P).bind fun t172 => (if t172 = true then ((impl_isGreatWord.f k F).bind fun t173 => (if t173 = true then (if S.toList = ([] : List UInt8) then (some true) else ((impl_isNameWord.f k S).bind fun t174 => (some t174))) else (some false))) else (some false))) (fun k => by simp [impl_IsValidName.j0]) ?_
    unfold restD
    refine Ev.bind (impl_part P hP) ?_
    cases partD P with
    | false => exact ev_neg (by simp) (Ev.now _)
    | true =>
      refine ev_pos rfl (Ev.bind (impl_great F) ?_)
      cases greatD F with
      | false => exact ev_neg (by simp) (Ev.now _)
      | true =>
        refine ev_pos rfl ?_
        unfold sufD
        by_cases h : S.size = 0
        · exact ev_pos ((nil_iff S).2 h) (ev_eq (Ev.now _) (by simp [h]))
        · exact ev_neg (fun e => h ((nil_iff S).1 e)) (Ev.bind (impl_word S) (ev_eq (Ev.now _) (by simp [h])))
  unfold impl_IsValidName.f goodN
  by_cases h : G.length ≤ 3
  · refine ev_neg (by omega) (Ev.bind (contains_ev G hG) ?_)
    cases G.all greatD with
    | true => exact ev_eq hj0 (by simp [h])
    | false => exact ev_eq hj1 (by simp)
  · exact ev_pos (by omega) (ev_eq hj1 (by simp [h]))
/-- What a name weighs. -/
def bulkN (G : List ByteArray) (P F S : ByteArray) : Nat := bulkS G + P.size + F.size + S.size
theorem szN_ev (G : List ByteArray) (P F S : ByteArray) (hb : ∀ s ∈ G, s.size ≤ 9223372036854775807) (hl : G.length ≤ 9223372036854775807) (hP : P.size ≤ 9223372036854775807) (hF : F.size ≤ 9223372036854775807) (hS : S.size ≤ 9223372036854775807) (left : Int) (h0 : 0 ≤ left) (h1 : left ≤ 4611686018427387904) :
    Ev (fun k => laws_szName.f k G P F S left) (lftOf left (bulkN G P F S)) := by
  unfold laws_szName.f
  refine Ev.bind (szS_ev G hb hl left h0 h1) ?_
  unfold bulkN
  by_cases c : (bulkS G : Int) ≤ left
  · have e : lftOf left (bulkS G) = left - bulkS G := by unfold lftOf; rw [if_pos c]
    rw [e]
    have w1 : wrap64 (left - (bulkS G : Int) - (P.size : Int)) = left - (bulkS G : Int) - (P.size : Int) := w64 (by omega) (by omega)
    rw [w1]
    refine ev_neg (by omega) ?_
    by_cases c1 : left - (bulkS G : Int) - (P.size : Int) < 0
    · exact ev_pos c1 (ev_eq (Ev.now _) (by unfold lftOf; rw [if_neg (by omega)]))
    refine ev_neg c1 ?_
    have w2 : wrap64 (left - (bulkS G : Int) - (P.size : Int) - (F.size : Int)) = left - (bulkS G : Int) - (P.size : Int) - (F.size : Int) := w64 (by omega) (by omega)
    rw [w2]
    by_cases c2 : left - (bulkS G : Int) - (P.size : Int) - (F.size : Int) < 0
    · exact ev_pos c2 (ev_eq (Ev.now _) (by unfold lftOf; rw [if_neg (by omega)]))
    refine ev_neg c2 ?_
    have w3 : wrap64 (left - (bulkS G : Int) - (P.size : Int) - (F.size : Int) - (S.size : Int)) = left - (bulkS G : Int) - (P.size : Int) - (F.size : Int) - (S.size : Int) := w64 (by omega) (by omega)
    rw [w3]
    by_cases c3 : left - (bulkS G : Int) - (P.size : Int) - (F.size : Int) - (S.size : Int) < 0
    · exact ev_pos c3 (ev_eq (Ev.now _) (by unfold lftOf; rw [if_neg (by omega)]))
    · exact ev_neg c3 (ev_eq (Ev.now _) (by unfold lftOf; rw [if_pos (by omega)]; omega))
  · have e : lftOf left (bulkS G) = -1 := by unfold lftOf; rw [if_neg c]
    rw [e]
    exact ev_pos (by omega) (ev_eq (Ev.now _) (by unfold lftOf; rw [if_neg (by omega)]))
theorem toN_ev (G : List ByteArray) (P F S : ByteArray) (hl : G.length ≤ 17592186044416) : Ev (fun k => laws_toName.f k G P F S) (G, P, F, S) := by
  unfold laws_toName.f
  exact Ev.bind (toS_ev G hl) (Ev.now _)
theorem eqS_same_loop (l : List ByteArray) (hl : l.length ≤ 4611686018427387904) (d : Nat) : ∀ i : Nat, i ≤ l.length → l.length - i = d → Ev (fun k => laws_eqStringS.l0 k l l (i : Int)) true := by
  induction d with
  | zero =>
    intro i h1 hd
    refine Ev.step (f := fun _ => some true) (fun k => ?_) (Ev.now _)
    simp only [laws_eqStringS.l0]; rw [if_neg (by omega)]
  | succ d ih =>
    intro i h1 hd
    have hw : wrap64 ((i : Int) + 1) = ((i + 1 : Nat) : Int) := by rw [w64 (by omega) (by omega)]; rfl
    refine Ev.step (f := fun k => laws_eqStringS.l0 k l l ((i + 1 : Nat) : Int)) (fun k => ?_) (ih (i + 1) (by omega) (by omega))
    simp only [laws_eqStringS.l0]
    rw [if_pos (by omega), if_pos (by omega), if_pos (by omega), if_pos trivial, hw]
theorem eqS_same (l : List ByteArray) (hl : l.length ≤ 4611686018427387904) : Ev (fun k => laws_eqStringS.f k l l) true := by
  unfold laws_eqStringS.f
  exact ev_pos rfl (eqS_same_loop l hl _ 0 (by omega) rfl)
theorem eqN_same (G : List ByteArray) (P F S : ByteArray) (hl : G.length ≤ 4611686018427387904) : Ev (fun k => laws_eqName.f k G P F S G P F S) true := by
  unfold laws_eqName.f
  exact Ev.bind (eqS_same G hl) (ev_pos rfl (ev_pos rfl (ev_pos rfl (ev_pos rfl (Ev.now _)))))


end Go.Proofs.YtcckamdpncbkoaaDoor.G

namespace Go.Proofs.YtcckamdpncbkoaaDoor.G
open Go.RowKit Go.Proofs.YtcckamdpncbkoaaDoorW.PrintWords Go.Proofs.YtcckamdpncbkoaaDoorW.PrintLast Go.Proofs.YtcckamdpncbkoaaDoor.B
set_option linter.unusedVariables false
set_option linter.unusedSimpArgs false
def headD (x y : ByteArray) : Bool := decide (bt x 0 = bt y 0)
def fitD (x y : ByteArray) : Bool := decide (x.toList = y.toList) || ((decide (x.size = 1) && headD x y) || (decide (y.size = 1) && headD x y))
theorem spec_fit (x y : ByteArray) (hx : 1 ≤ x.size) (hy : 1 ≤ y.size) : spec_l2Fits.f x y = some (fitD x y) := by
  have a1 : (0 : Int) < (x.size : Int) := by omega
  have a2 : (0 : Int) < (y.size : Int) := by omega
  unfold spec_l2Fits.f fitD headD
  by_cases e : x.toList = y.toList
  · simp [e]
  · rw [if_neg e]
    by_cases c1 : x.size = 1
    · rw [if_pos (show (x.size : Int) = 1 by omega), if_pos a1, if_pos a2]
      by_cases c3 : bt x 0 = bt y 0
      · rw [if_pos c3]; simp [c1, c3]
      · rw [if_neg c3]
        by_cases c2 : y.size = 1
        · rw [if_pos (show (y.size : Int) = 1 by omega)]; simp [e, c1, c2, c3]
        · rw [if_neg (show ¬ (y.size : Int) = 1 by omega)]; simp [e, c1, c2, c3]
    · rw [if_neg (show ¬ (x.size : Int) = 1 by omega)]
      by_cases c2 : y.size = 1
      · rw [if_pos (show (y.size : Int) = 1 by omega), if_pos a1, if_pos a2]
        by_cases c3 : bt x 0 = bt y 0 <;> simp [e, c1, c2, c3]
      · rw [if_neg (show ¬ (y.size : Int) = 1 by omega)]; simp [e, c1, c2]
theorem pre_one (s p : ByteArray) (hp : p.size = 1) (hs : 1 ≤ s.size) : strings_HasPrefix.f s p = some (headD p s) := by
  have a1 : (s.size : Int) ≥ (p.size : Int) := by omega
  have a2 : (0 : Int) ≤ (p.size : Int) := by omega
  have a3 : (p.size : Int) ≤ (s.size : Int) := by omega
  unfold strings_HasPrefix.f stringslite_HasPrefix.f headD
  rw [if_pos a1, if_pos a2, if_pos a3]
  show some _ = some _
  congr 1
  have b1 := bt_getD p 0 (by omega)
  have b2 := bt_getD s 0 (by omega)
  rw [show ((0 : Nat) : Int) = 0 from rfl] at b1 b2
  rw [b1, b2, toList_L, toList_L, L_extract, hp]
  have l1 : (L p).length = 1 := by rw [L_len, hp]
  have l2 : 1 ≤ (L s).length := by rw [L_len]; exact hs
  revert l1 l2
  generalize L p = u
  generalize L s = v
  intro l1 l2
  match u, v, l1, l2 with
  | [a], b :: v, _, _ =>
    by_cases e : a = b
    · subst e; simp
    · have e' : ¬ b = a := fun h => e h.symm
      have e2 : ¬ a.toNat = b.toNat := fun h => e (UInt8.toNat_inj.1 h)
      simp
      rw [beq_false_of_ne e', eq_comm, decide_eq_false_iff_not]; omega
theorem head_comm (x y : ByteArray) : headD x y = headD y x := by unfold headD; rw [decide_eq_decide]; exact eq_comm
def fitL (a b : List ByteArray) : Nat → Nat → Bool
  | 0, _ => true
  | d + 1, i => fitD (rdOf ByteArray.empty a (i : Int)) (rdOf ByteArray.empty b (i : Int)) && fitL a b d (i + 1)
def tailD (P F S P' F' S' : ByteArray) : Bool := decide (P.toList = P'.toList) && (decide (F.toList = F'.toList) && (S.toList == S'.toList))
def mayD (G : List ByteArray) (P F S : ByteArray) (G' : List ByteArray) (P' F' S' : ByteArray) : Bool := fitL G G' (min G.length G'.length) 0 && tailD P F S P' F' S'
theorem rd_pos (l : List ByteArray) (i : Nat) (h : i < l.length) (hp : ∀ x ∈ l, 1 ≤ x.size) : 1 ≤ (rdOf ByteArray.empty l (i : Int)).size := by
  rw [rd_get l i h]; exact hp _ (List.getElem_mem h)
theorem spec_may_loop (G : List ByteArray) (P F S : ByteArray) (G' : List ByteArray) (P' F' S' : ByteArray) (hG : G.length ≤ 3) (hG' : G'.length ≤ 3) (hp : ∀ x ∈ G, 1 ≤ x.size) (hp' : ∀ x ∈ G', 1 ≤ x.size) (d : Nat) : ∀ i : Nat, i ≤ G.length → i ≤ G'.length → min G.length G'.length - i = d →
    Ev (fun k => spec_l2May.l0 k (i : Int) G P F S G' P' F' S') (fitL G G' d i && tailD P F S P' F' S') := by
  have hstop : ∀ i : Nat, Ev (fun k => spec_l2May.j1 k (i : Int) false G P F S G' P' F' S') (tailD P F S P' F' S') := by
    intro i
    refine Ev.step (f := fun _ => some (tailD P F S P' F' S')) (fun k => ?_) (Ev.now _)
    simp only [spec_l2May.j1]
    rw [if_neg (by simp)]
    unfold tailD
    by_cases c1 : P.toList = P'.toList <;> by_cases c2 : F.toList = F'.toList <;> simp [c1, c2]
  induction d with
  | zero =>
    intro i h1 h2 hd
    show Ev _ (true && _)
    rw [Bool.true_and]
    by_cases c : i < G.length
    · refine Ev.step (f := fun k => spec_l2May.j1 k (i : Int) false G P F S G' P' F' S') (fun k => ?_) (hstop i)
      simp only [spec_l2May.l0]
      have e : decide ((i : Int) < (G'.length : Int)) = false := decide_eq_false (by omega)
      rw [if_pos (by omega), e]
    · refine Ev.step (f := fun k => spec_l2May.j1 k (i : Int) false G P F S G' P' F' S') (fun k => ?_) (hstop i)
      simp only [spec_l2May.l0]
      rw [if_neg (by omega)]
  | succ d ih =>
    intro i h1 h2 hd
    have c1 : i < G.length := by omega
    have c2 : i < G'.length := by omega
    have hw : wrap64 ((i : Int) + 1) = ((i + 1 : Nat) : Int) := by rw [w64 (by omega) (by omega)]; rfl
    have hf := spec_fit _ _ (rd_pos G i c1 hp) (rd_pos G' i c2 hp')
    refine Ev.step (f := fun k => spec_l2May.j1 k (i : Int) true G P F S G' P' F' S') (fun k => ?_) ?_
    · simp only [spec_l2May.l0]
      have e : decide ((i : Int) < (G'.length : Int)) = true := decide_eq_true (by omega)
      rw [if_pos (by omega), e]
    · refine Ev.step (f := fun k => if fitD (rdOf ByteArray.empty G (i : Int)) (rdOf ByteArray.empty G' (i : Int)) = true then spec_l2May.l0 k ((i + 1 : Nat) : Int) G P F S G' P' F' S' else some false) (fun k => ?_) ?_
      · simp only [spec_l2May.j1]
        rw [if_pos trivial, if_pos (by omega), if_pos (by omega), if_pos (by omega), hf, hw]; rfl
      · show Ev _ ((fitD _ _ && fitL G G' d (i + 1)) && _)
        cases h : fitD (rdOf ByteArray.empty G (i : Int)) (rdOf ByteArray.empty G' (i : Int)) with
        | true => exact ev_pos rfl (ev_eq (ih (i + 1) (by omega) (by omega) (by omega)) (by simp))
        | false => exact ev_neg (by simp) (ev_eq (Ev.now _) (by simp))
theorem spec_may (G : List ByteArray) (P F S : ByteArray) (G' : List ByteArray) (P' F' S' : ByteArray) (hG : G.length ≤ 3) (hG' : G'.length ≤ 3) (hp : ∀ x ∈ G, 1 ≤ x.size) (hp' : ∀ x ∈ G', 1 ≤ x.size) :
    Ev (fun k => spec_l2May.f k G P F S G' P' F' S') (mayD G P F S G' P' F' S') :=
  spec_may_loop G P F S G' P' F' S' hG hG' hp hp' _ 0 (by omega) (by omega) rfl
theorem impl_step (G : List ByteArray) (P F S : ByteArray) (G' : List ByteArray) (P' F' S' : ByteArray) (i k : Nat) (c1 : i < G.length) (c2 : i < G'.length) (hG : G.length ≤ 3) (hp : ∀ x ∈ G, 1 ≤ x.size) (hp' : ∀ x ∈ G', 1 ≤ x.size) :
    impl_mayBeSame.l0 (k + 1) (i : Int) G P F S G' P' F' S' = if fitD (rdOf ByteArray.empty G (i : Int)) (rdOf ByteArray.empty G' (i : Int)) = true then impl_mayBeSame.l0 k ((i + 1 : Nat) : Int) G P F S G' P' F' S' else some false := by
  have hw : wrap64 ((i : Int) + 1) = ((i + 1 : Nat) : Int) := by rw [w64 (by omega) (by omega)]; rfl
  have hm : (i : Int) < mn (G.length : Int) (G'.length : Int) := by unfold mn; split <;> omega
  have hx := rd_pos G i c1 hp
  have hy := rd_pos G' i c2 hp'
  simp only [impl_mayBeSame.l0]
  rw [if_pos hm, if_pos (by omega), if_pos (by omega), if_pos (by omega), hw]
  revert hx hy
  generalize rdOf ByteArray.empty G (i : Int) = x
  generalize rdOf ByteArray.empty G' (i : Int) = y
  intro hx hy
  generalize impl_mayBeSame.l0 k ((i + 1 : Nat) : Int) G P F S G' P' F' S' = R
  unfold fitD
  by_cases e : x.toList = y.toList
  · simp [e]
  · rw [if_neg e]
    by_cases a : x.size = 1
    · rw [if_pos (by omega), pre_one y x a hy]
      by_cases b : y.size = 1
      · rw [if_pos (by omega), pre_one x y b hx, head_comm y x]
        cases headD x y <;> simp [e, a, b]
      · rw [if_neg (by omega)]
        cases headD x y <;> simp [e, a, b]
    · rw [if_neg (by omega)]
      by_cases b : y.size = 1
      · rw [if_pos (by omega), pre_one x y b hx, head_comm y x]
        cases headD x y <;> simp [e, a, b]
      · rw [if_neg (by omega)]
        simp [e, a, b]
theorem impl_may_loop (G : List ByteArray) (P F S : ByteArray) (G' : List ByteArray) (P' F' S' : ByteArray) (hG : G.length ≤ 3) (hG' : G'.length ≤ 3) (hp : ∀ x ∈ G, 1 ≤ x.size) (hp' : ∀ x ∈ G', 1 ≤ x.size) (d : Nat) : ∀ i : Nat, i ≤ G.length → i ≤ G'.length → min G.length G'.length - i = d →
    Ev (fun k => impl_mayBeSame.l0 k (i : Int) G P F S G' P' F' S') (fitL G G' d i) := by
  induction d with
  | zero =>
    intro i h1 h2 hd
    refine Ev.step (f := fun _ => some true) (fun k => ?_) (Ev.now _)
    have hm : ¬ (i : Int) < mn (G.length : Int) (G'.length : Int) := by unfold mn; split <;> omega
    simp only [impl_mayBeSame.l0]
    rw [if_neg hm]
  | succ d ih =>
    intro i h1 h2 hd
    refine Ev.step (f := fun k => if fitD (rdOf ByteArray.empty G (i : Int)) (rdOf ByteArray.empty G' (i : Int)) = true then impl_mayBeSame.l0 k ((i + 1 : Nat) : Int) G P F S G' P' F' S' else some false) (fun k => impl_step G P F S G' P' F' S' i k (by omega) (by omega) hG hp hp') ?_
    show Ev _ (fitD _ _ && fitL G G' d (i + 1))
    cases h : fitD (rdOf ByteArray.empty G (i : Int)) (rdOf ByteArray.empty G' (i : Int)) with
    | true => exact ev_pos rfl (ev_eq (ih (i + 1) (by omega) (by omega) (by omega)) (by simp))
    | false => exact ev_neg (by simp) (ev_eq (Ev.now _) (by simp))
theorem impl_may (G : List ByteArray) (P F S : ByteArray) (G' : List ByteArray) (P' F' S' : ByteArray) (hG : G.length ≤ 3) (hG' : G'.length ≤ 3) (hp : ∀ x ∈ G, 1 ≤ x.size) (hp' : ∀ x ∈ G', 1 ≤ x.size) :
    Ev (fun k => impl_mayBeSame.f k G P F S G' P' F' S') (mayD G P F S G' P' F' S') := by
  have hj1 : Ev (fun k => impl_mayBeSame.j0 k true G P F S G' P' F' S') false := Ev.step (f := fun _ => some false) (fun k => by simp [impl_mayBeSame.j0]) (Ev.now _)
  have hj0 : Ev (fun k => impl_mayBeSame.j0 k false G P F S G' P' F' S') (fitL G G' (min G.length G'.length) 0) :=
    Ev.step (f := fun k => impl_mayBeSame.l0 k ((0 : Nat) : Int) G P F S G' P' F' S') (fun k => by simp [impl_mayBeSame.j0]) (impl_may_loop G P F S G' P' F' S' hG hG' hp hp' _ 0 (by omega) (by omega) rfl)
  unfold impl_mayBeSame.f mayD tailD
  by_cases c1 : P.toList = P'.toList
  · refine ev_pos c1 ?_
    by_cases c2 : F.toList = F'.toList
    · refine ev_pos c2 ?_
      by_cases c3 : S.toList = S'.toList
      · have e : (S.toList != S'.toList) = false := by simp [c3]
        rw [e]; exact ev_eq hj0 (by simp [c1, c2, c3])
      · have e : (S.toList != S'.toList) = true := by simp [c3]
        rw [e]; exact ev_eq hj1 (by simp [c3])
    · exact ev_neg c2 (ev_eq hj1 (by simp [c2]))
  · exact ev_neg c1 (ev_eq hj1 (by simp [c1]))
theorem good_pos {G : List ByteArray} {P F S : ByteArray} (h : goodN G P F S = true) : G.length ≤ 3 ∧ ∀ x ∈ G, 1 ≤ x.size := by
  unfold goodN at h
  simp only [Bool.and_eq_true, decide_eq_true_eq] at h
  refine ⟨h.2.1, fun x hx => ?_⟩
  have := List.all_eq_true.1 h.1 x hx
  unfold greatD at this
  rw [Bool.and_eq_true] at this
  exact (word_in this.1).1
end Go.Proofs.YtcckamdpncbkoaaDoor.G

namespace Go.Proofs.YtcckamdpncbkoaaDoor.Pure
open Go.RowKit Go.Proofs.YtcckamdpncbkoaaDoor.G Go.Proofs.YtcckamdpncbkoaaDoorW.PrintWords Go.Proofs.YtcckamdpncbkoaaDoorW.PrintLast Go.Proofs.YtcckamdpncbkoaaDoor.B Go.Proofs.YtcckamdpncbkoaaDoor.Opn
set_option linter.unusedVariables false
set_option linter.unusedSimpArgs false
def conv (x : S24) : S27 := ⟨x.f0, x.f1, x.f2, x.f3⟩
def bulkL (l : List S24) : Nat := (l.map fun x => bulkN x.f0 x.f1 x.f2 x.f3).sum
theorem rd24 (l : List S24) (i : Nat) (h : i < l.length) : rd_T24 l (i : Int) = l[i] := by simp [rd_T24, h]
theorem rd27 (l : List S27) (i : Nat) (h : i < l.length) : rd_T27 l (i : Int) = l[i] := by simp [rd_T27, h]
theorem bulkL_cons (a : S24) (l : List S24) : bulkL (a :: l) = bulkN a.f0 a.f1 a.f2 a.f3 + bulkL l := by simp [bulkL]
theorem bulkL_mem {l : List S24} {x : S24} (h : x ∈ l) : bulkN x.f0 x.f1 x.f2 x.f3 ≤ bulkL l := by
  induction l with
  | nil => simp at h
  | cons a l ih =>
    rw [bulkL_cons]
    rcases List.mem_cons.1 h with rfl | h
    · omega
    · have := ih h; omega
theorem szL_loop (l : List S24) (hb : ∀ x ∈ l, ok24 x) (hl : l.length ≤ 9223372036854775807) (d : Nat) : ∀ (left : Int) (i : Nat), 0 ≤ left → left ≤ 1048576 → l.length - i = d → i ≤ l.length →
    Ev (fun k => laws_szNameS.l0 k l left (i : Int)) (lftOf left (bulkL (l.drop i))) := by
  induction d with
  | zero =>
    intro left i h0 h1 hd hi
    refine Ev.step (f := fun _ => some left) (fun k => ?_) (ev_eq (Ev.now _) ?_)
    · simp only [laws_szNameS.l0]; rw [if_neg (by omega)]
    · rw [List.drop_of_length_le (by omega)]; unfold lftOf bulkL; simp; omega
  | succ d ih =>
    intro left i h0 h1 hd hi
    have hlt : i < l.length := by omega
    obtain ⟨b0, b1, b2, b3⟩ := hb l[i] (List.getElem_mem hlt)
    have hsz := szN_ev (l[i]).f0 (l[i]).f1 (l[i]).f2 (l[i]).f3 b0.2 b0.1 b1 b2 b3 left h0 (by omega)
    have hw : wrap64 ((i : Int) + 1) = ((i + 1 : Nat) : Int) := by rw [w64 (by omega) (by omega)]; rfl
    rw [List.drop_eq_getElem_cons hlt, bulkL_cons]
    refine Ev.step (f := fun k => (laws_szName.f k (l[i]).f0 (l[i]).f1 (l[i]).f2 (l[i]).f3 left).bind fun t276 => (if t276 < 0 then (some (-1)) else (laws_szNameS.l0 k l t276 ((i + 1 : Nat) : Int)))) (fun k => ?_) (Ev.bind hsz ?_)
    · simp only [laws_szNameS.l0, rd24 l i hlt, hw]
      rw [if_pos (by omega), if_pos (by omega)]
    · by_cases c : (bulkN (l[i]).f0 (l[i]).f1 (l[i]).f2 (l[i]).f3 : Int) ≤ left
      · have e : lftOf left (bulkN (l[i]).f0 (l[i]).f1 (l[i]).f2 (l[i]).f3) = left - bulkN (l[i]).f0 (l[i]).f1 (l[i]).f2 (l[i]).f3 := by unfold lftOf; rw [if_pos c]
        rw [e]
        refine ev_neg (by omega) (ev_eq (ih _ (i + 1) (by omega) (by omega) (by omega) (by omega)) ?_)
        unfold lftOf; split <;> split <;> omega
      · have e : lftOf left (bulkN (l[i]).f0 (l[i]).f1 (l[i]).f2 (l[i]).f3) = -1 := by unfold lftOf; rw [if_neg c]
        rw [e]
        exact ev_pos (by omega) (ev_eq (Ev.now _) (by unfold lftOf; rw [if_neg (by omega)]))
theorem szL_ev (l : List S24) (hb : ∀ x ∈ l, ok24 x) (hl : l.length ≤ 9223372036854775807) (left : Int) (h0 : 0 ≤ left) (h1 : left ≤ 1048576) :
    Ev (fun k => laws_szNameS.f k l left) (lftOf left (l.length + bulkL l)) := by
  unfold laws_szNameS.f
  have hw : wrap64 (left - (l.length : Int)) = left - (l.length : Int) := w64 (by omega) (by omega)
  rw [hw]
  by_cases hn : left - (l.length : Int) < 0
  · exact ev_pos hn (ev_eq (Ev.now _) (by unfold lftOf; rw [if_neg (by omega)]))
  · refine ev_neg hn (ev_eq (szL_loop l hb hl l.length (left - l.length) 0 (by omega) (by omega) rfl (by omega)) ?_)
    rw [List.drop_zero]
    unfold lftOf; split <;> split <;> omega
theorem toL_loop (l : List S24) (hl : l.length ≤ 1048576) (hs : ∀ x ∈ l, x.f0.length ≤ 1048576) (d : Nat) : ∀ (i : Nat), l.length - i = d → i ≤ l.length →
    Ev (fun k => laws_toNameS.l0 k l ((l.take i).map conv ++ List.replicate (l.length - i) z27) (i : Int)) (l.map conv) := by
  induction d with
  | zero =>
    intro i hd hi
    refine Ev.step (f := fun _ => some (l.map conv)) (fun k => ?_) (Ev.now _)
    simp only [laws_toNameS.l0]; rw [if_neg (by omega), hd, List.take_of_length_le (by omega)]; simp
  | succ d ih =>
    intro i hd hi
    have hlt : i < l.length := by omega
    have hw : wrap64 ((i : Int) + 1) = ((i + 1 : Nat) : Int) := by rw [w64 (by omega) (by omega)]; rfl
    have hlen : ((l.take i).map conv).length = i := by simp; omega
    have hall : ((l.take i).map conv ++ List.replicate (l.length - i) z27).length = l.length := by simp; omega
    have e : ((l.take i).map conv ++ List.replicate (l.length - i) z27).set i (conv l[i]) = (l.take (i + 1)).map conv ++ List.replicate (l.length - (i + 1)) z27 := by
      rw [List.set_append_right _ _ (by omega), hlen, Nat.sub_self, show l.length - i = (l.length - (i + 1)) + 1 by omega, List.replicate_succ, List.set_cons_zero, List.take_succ_eq_append_getElem hlt, List.map_append, List.append_assoc]
      rfl
    have ht := toN_ev (l[i]).f0 (l[i]).f1 (l[i]).f2 (l[i]).f3 (by have := hs _ (List.getElem_mem hlt); omega)
    refine Ev.step (f := fun k => (laws_toName.f k (l[i]).f0 (l[i]).f1 (l[i]).f2 (l[i]).f3).bind fun bt289 => laws_toNameS.l0 k l (((l.take i).map conv ++ List.replicate (l.length - i) z27).set i (⟨bt289.1, bt289.2.1, bt289.2.2.1, bt289.2.2.2⟩ : S27)) ((i + 1 : Nat) : Int)) (fun k => ?_) (Ev.bind ht ?_)
    · have a3 : (i : Int) < ((((l.take i).map conv ++ List.replicate (l.length - i) z27).length : Nat) : Int) := by rw [hall]; omega
      simp only [laws_toNameS.l0, rd24 l i hlt, hw, if_pos a3, Int.toNat_natCast]
      rw [if_pos (by omega), if_pos (by omega)]
    · have hq := ih (i + 1) (by omega) (by omega)
      rw [← e] at hq
      exact hq
theorem toL_ev (l : List S24) (hl : l.length ≤ 1048576) (hs : ∀ x ∈ l, x.f0.length ≤ 1048576) : Ev (fun k => laws_toNameS.f k l) (l.map conv) := by
  unfold laws_toNameS.f
  refine ev_pos (by omega) (ev_pos (by omega) ?_)
  have := toL_loop l hl hs l.length 0 rfl (by omega)
  simpa using this
def goodS (x : S27) : Bool := goodN x.f0 x.f1 x.f2 x.f3
/-- The names that the conditions bound. -/
def okS (x : S27) : Prop := x.f0.length ≤ 4611686018427387904 ∧ x.f1.size ≤ 4294967280
def listD (l : List S27) : Bool := l.all goodS && decide (l.length ≤ 4)
theorem spec_list_loop (l : List S27) (ho : ∀ x ∈ l, okS x) (hl : l.length ≤ 1048576) (d : Nat) : ∀ i : Nat, i ≤ l.length → min l.length 5 - i = d → i ≤ 5 →
    Ev (fun k => spec_l2List.l0 k l (i : Int)) (((l.take 5).drop i).all goodS && decide (l.length ≤ 4)) := by
  have stop : ∀ i : Nat, Ev (fun k => spec_l2List.j1 k l (i : Int) false) (decide (l.length ≤ 4)) := fun i => by
    refine Ev.step (f := fun _ => some (decide ((l.length : Int) ≤ 4))) (fun k => by simp [spec_l2List.j1]) (ev_eq (Ev.now _) ?_)
    rw [decide_eq_decide]; omega
  induction d with
  | zero =>
    intro i h1 hd h5
    rw [List.drop_of_length_le (by rw [List.length_take]; omega)]
    refine Ev.step (f := fun k => spec_l2List.j1 k l (i : Int) false) (fun k => ?_) (ev_eq (stop i) (by simp))
    simp only [spec_l2List.l0]
    by_cases c : i < l.length
    · rw [if_pos (by omega), decide_eq_false (by omega)]
    · rw [if_neg (by omega)]
  | succ d ih =>
    intro i h1 hd h5
    have hi : i < l.length := by omega
    have hw : wrap64 ((i : Int) + 1) = ((i + 1 : Nat) : Int) := by rw [w64 (by omega) (by omega)]; rfl
    have hi' : i < (l.take 5).length := by rw [List.length_take]; omega
    have hx := ho _ (List.getElem_mem hi)
    rw [List.drop_eq_getElem_cons hi', List.all_cons, List.getElem_take, Bool.and_assoc]
    refine Ev.step (f := fun k => spec_l2List.j1 k l (i : Int) true) (fun k => ?_) (Ev.step (f := fun k => (spec_l2Good.f k (l[i]).f0 (l[i]).f1 (l[i]).f2 (l[i]).f3).bind fun t278 => (if t278 = true then (spec_l2List.l0 k l ((i + 1 : Nat) : Int)) else (some false))) (fun k => ?_) (Ev.bind (spec_name _ _ _ _ hx.1 hx.2) ?_))
    · simp only [spec_l2List.l0]
      rw [if_pos (by omega), decide_eq_true (by omega)]
    · simp only [spec_l2List.j1, rd27 l i hi, hw]
      rw [if_pos trivial, if_pos (by omega), if_pos (by omega)]
    · show Ev _ (goodN (l[i]).f0 (l[i]).f1 (l[i]).f2 (l[i]).f3 && _)
      cases goodN (l[i]).f0 (l[i]).f1 (l[i]).f2 (l[i]).f3 with
      | true => exact ev_pos rfl (ev_eq (ih (i + 1) (by omega) (by omega) (by omega)) (by simp))
      | false => exact ev_neg (by simp) (ev_eq (Ev.now _) (by simp))
theorem spec_list (l : List S27) (ho : ∀ x ∈ l, okS x) (hl : l.length ≤ 1048576) : Ev (fun k => spec_l2List.f k l) (listD l) := by
  have h := spec_list_loop l ho hl _ 0 (by omega) rfl (by omega)
  unfold spec_l2List.f listD
  refine ev_eq h ?_
  rw [List.drop_zero]
  by_cases c : l.length ≤ 4
  · rw [List.take_of_length_le (by omega)]
  · rw [decide_eq_false c]; simp
theorem idxN_loop (l : List S27) (ho : ∀ x ∈ l, okS x) (hl : l.length ≤ 1048576) (d : Nat) : ∀ i : Nat, i ≤ l.length → l.length - i = d →
    ∃ v, Ev (fun k => impl_Name_99_at_79.l0 k l (l.length : Int) (i : Int)) v ∧ decide (v ≥ 0) = !((l.drop i).all goodS) := by
  induction d with
  | zero =>
    intro i h1 hd
    refine ⟨-1, Ev.step (f := fun _ => some (-1)) (fun k => ?_) (Ev.now _), ?_⟩
    · simp only [impl_Name_99_at_79.l0]; rw [if_neg (by omega)]
    · rw [List.drop_of_length_le (by omega)]; simp
  | succ d ih =>
    intro i h1 hd
    have hi : i < l.length := by omega
    have hw : wrap64 ((i : Int) + 1) = ((i + 1 : Nat) : Int) := by rw [w64 (by omega) (by omega)]; rfl
    have hx := ho _ (List.getElem_mem hi)
    rw [List.drop_eq_getElem_cons hi, List.all_cons]
    have hst : ∀ v, Ev (fun k => (impl_areNames_1.f k (l[i]).f0 (l[i]).f1 (l[i]).f2 (l[i]).f3).bind fun t => if t = true then some (i : Int) else impl_Name_99_at_79.l0 k l (l.length : Int) ((i + 1 : Nat) : Int)) v → Ev (fun k => impl_Name_99_at_79.l0 k l (l.length : Int) (i : Int)) v := by
      intro v hv
      refine Ev.step (fun k => ?_) hv
      simp only [impl_Name_99_at_79.l0, rd27 l i hi, hw]
      rw [if_pos (by omega), if_pos (by omega), if_pos (by omega)]
    have hf : Ev (fun k => impl_areNames_1.f k (l[i]).f0 (l[i]).f1 (l[i]).f2 (l[i]).f3) (!goodS l[i]) := by
      unfold impl_areNames_1.f
      exact Ev.bind (impl_valid _ _ _ _ hx.1 hx.2) (Ev.now _)
    cases h : goodS l[i] with
    | true =>
      obtain ⟨v, hv, e⟩ := ih (i + 1) (by omega) (by omega)
      refine ⟨v, hst v (Ev.bind hf (ev_neg (by simp [h]) hv)), ?_⟩
      rw [e]; simp
    | false =>
      refine ⟨(i : Int), hst _ (Ev.bind hf (ev_pos (by simp [h]) (Ev.now _))), ?_⟩
      simp
theorem impl_list (l : List S27) (ho : ∀ x ∈ l, okS x) (hl : l.length ≤ 1048576) : Ev (fun k => impl_areNames.f k l) (listD l) := by
  unfold impl_areNames.f listD
  by_cases c : l.length ≤ 4
  · obtain ⟨v, hv, e⟩ := idxN_loop l ho hl _ 0 (by omega) rfl
    rw [List.drop_zero] at e
    refine ev_pos (by omega) (Ev.bind (g := fun k => impl_Name_78_at_79.f k l) (a := decide (v ≥ 0)) ?_ (ev_eq (Ev.now _) ?_))
    · unfold impl_Name_78_at_79.f impl_Name_99_at_79.f
      exact Ev.bind hv (Ev.now _)
    · rw [e]; simp [c]
  · exact ev_neg (by omega) (ev_eq (Ev.now _) (by simp [c]))
def mayS (x y : S27) : Bool := mayD x.f0 x.f1 x.f2 x.f3 y.f0 y.f1 y.f2 y.f3
def mayF (a b : List S27) : Nat → Nat → Bool
  | 0, _ => true
  | d + 1, i => mayS (rd_T27 a (i : Int)) (rd_T27 b (i : Int)) && mayF a b d (i + 1)
def peopleD (a b : List S27) : Bool := if a.length = b.length then mayF a b a.length 0 else false
theorem list_good {l : List S27} (h : listD l = true) : l.length ≤ 4 ∧ ∀ x ∈ l, goodS x = true := by
  unfold listD at h
  simp only [Bool.and_eq_true, decide_eq_true_eq] at h
  exact ⟨h.2, fun x hx => List.all_eq_true.1 h.1 x hx⟩
theorem may_s (x y : S27) (hx : goodS x = true) (hy : goodS y = true) : Ev (fun k => spec_l2May.f k x.f0 x.f1 x.f2 x.f3 y.f0 y.f1 y.f2 y.f3) (mayS x y) := by
  obtain ⟨a, b⟩ := good_pos hx
  obtain ⟨a', b'⟩ := good_pos hy
  exact spec_may _ _ _ _ _ _ _ _ a a' b b'
theorem may_i (x y : S27) (hx : goodS x = true) (hy : goodS y = true) : Ev (fun k => impl_mayBeSame.f k x.f0 x.f1 x.f2 x.f3 y.f0 y.f1 y.f2 y.f3) (mayS x y) := by
  obtain ⟨a, b⟩ := good_pos hx
  obtain ⟨a', b'⟩ := good_pos hy
  exact impl_may _ _ _ _ _ _ _ _ a a' b b'
theorem spec_people_loop (a b : List S27) (ha : a.length ≤ 4 ∧ ∀ x ∈ a, goodS x = true) (hb : b.length ≤ 4 ∧ ∀ x ∈ b, goodS x = true) (d : Nat) : ∀ i : Nat, i ≤ a.length → i ≤ b.length → min a.length b.length - i = d →
    Ev (fun k => spec_l2People.l0 k a b (i : Int)) (mayF a b d i && decide (a.length = b.length)) := by
  have stop : ∀ i : Nat, Ev (fun k => spec_l2People.j1 k a b (i : Int) false) (decide (a.length = b.length)) := fun i => by
    refine Ev.step (f := fun _ => some ((a.length : Int) == (b.length : Int))) (fun k => by simp [spec_l2People.j1]) (ev_eq (Ev.now _) ?_)
    by_cases c : a.length = b.length
    · simp [c]
    · have : ¬ (a.length : Int) = (b.length : Int) := by omega
      rw [decide_eq_false c]; exact beq_false_of_ne this
  induction d with
  | zero =>
    intro i h1 h2 hd
    refine Ev.step (f := fun k => spec_l2People.j1 k a b (i : Int) false) (fun k => ?_) (ev_eq (stop i) (by simp [mayF]))
    simp only [spec_l2People.l0]
    by_cases c : i < a.length
    · rw [if_pos (by omega), decide_eq_false (by omega)]
    · rw [if_neg (by omega)]
  | succ d ih =>
    intro i h1 h2 hd
    have c1 : i < a.length := by omega
    have c2 : i < b.length := by omega
    have hw : wrap64 ((i : Int) + 1) = ((i + 1 : Nat) : Int) := by rw [w64 (by omega) (by omega)]; rfl
    refine Ev.step (f := fun k => spec_l2People.j1 k a b (i : Int) true) (fun k => ?_) (Ev.step (f := fun k => (spec_l2May.f k (a[i]).f0 (a[i]).f1 (a[i]).f2 (a[i]).f3 (b[i]).f0 (b[i]).f1 (b[i]).f2 (b[i]).f3).bind fun t281 => (if t281 = true then (spec_l2People.l0 k a b ((i + 1 : Nat) : Int)) else (some false))) (fun k => ?_) (Ev.bind (may_s a[i] b[i] (ha.2 _ (List.getElem_mem c1)) (hb.2 _ (List.getElem_mem c2))) ?_))
    · simp only [spec_l2People.l0]
      rw [if_pos (by omega), decide_eq_true (by omega)]
    · simp only [spec_l2People.j1, rd27 a i c1, rd27 b i c2, hw]
      rw [if_pos trivial, if_pos (by omega), if_pos (by omega), if_pos (by omega)]
    · show Ev _ ((mayS (rd_T27 a (i : Int)) (rd_T27 b (i : Int)) && mayF a b d (i + 1)) && _)
      rw [rd27 a i c1, rd27 b i c2]
      cases mayS a[i] b[i] with
      | true => exact ev_pos rfl (ev_eq (ih (i + 1) (by omega) (by omega) (by omega)) (by simp))
      | false => exact ev_neg (by simp) (ev_eq (Ev.now _) (by simp))
theorem spec_people (a b : List S27) (ha : listD a = true) (hb : listD b = true) : Ev (fun k => spec_l2People.f k a b) (peopleD a b) := by
  have h := spec_people_loop a b (list_good ha) (list_good hb) _ 0 (by omega) (by omega) rfl
  unfold spec_l2People.f peopleD
  refine ev_eq h ?_
  by_cases c : a.length = b.length
  · rw [if_pos c, decide_eq_true c, show min a.length b.length - 0 = a.length by omega]; simp
  · rw [if_neg c, decide_eq_false c]; simp
theorem impl_people_loop (a b : List S27) (hab : a.length = b.length) (ha : a.length ≤ 4 ∧ ∀ x ∈ a, goodS x = true) (hb : b.length ≤ 4 ∧ ∀ x ∈ b, goodS x = true) (d : Nat) : ∀ i : Nat, i ≤ a.length → a.length - i = d →
    Ev (fun k => impl_samePeople.l0 k a b (a.length : Int) (i : Int)) (mayF a b d i) := by
  induction d with
  | zero =>
    intro i h1 hd
    refine Ev.step (f := fun _ => some ((a.length : Int) == (b.length : Int))) (fun k => ?_) (ev_eq (Ev.now _) (by rw [hab]; simp [mayF]))
    simp only [impl_samePeople.l0]; rw [if_neg (by omega)]
  | succ d ih =>
    intro i h1 hd
    have c1 : i < a.length := by omega
    have c2 : i < b.length := by omega
    have hw : wrap64 ((i : Int) + 1) = ((i + 1 : Nat) : Int) := by rw [w64 (by omega) (by omega)]; rfl
    refine Ev.step (f := fun k => (impl_mayBeSame.f k (a[i]).f0 (a[i]).f1 (a[i]).f2 (a[i]).f3 (b[i]).f0 (b[i]).f1 (b[i]).f2 (b[i]).f3).bind fun t302 => (if t302 = true then (impl_samePeople.l0 k a b (a.length : Int) ((i + 1 : Nat) : Int)) else (some false))) (fun k => ?_) (Ev.bind (may_i a[i] b[i] (ha.2 _ (List.getElem_mem c1)) (hb.2 _ (List.getElem_mem c2))) ?_)
    · simp only [impl_samePeople.l0, rd27 a i c1, rd27 b i c2, hw]
      rw [if_pos (by omega), if_pos (by omega), if_pos (by omega), if_pos (by omega), if_pos (by omega)]
    · show Ev _ (mayS (rd_T27 a (i : Int)) (rd_T27 b (i : Int)) && mayF a b d (i + 1))
      rw [rd27 a i c1, rd27 b i c2]
      cases mayS a[i] b[i] with
      | true => exact ev_pos rfl (ev_eq (ih (i + 1) (by omega) (by omega)) (by simp))
      | false => exact ev_neg (by simp) (ev_eq (Ev.now _) (by simp))
theorem impl_people (a b : List S27) (ha : listD a = true) (hb : listD b = true) : Ev (fun k => impl_samePeople.f k a b) (peopleD a b) := by
  unfold impl_samePeople.f peopleD
  by_cases c : a.length = b.length
  · rw [if_pos c]
    exact impl_people_loop a b c (list_good ha) (list_good hb) _ 0 (by omega) rfl
  · rw [if_neg c]
    by_cases z : a.length = 0
    · refine Ev.step (f := fun _ => some ((a.length : Int) == (b.length : Int))) (fun k => ?_) (ev_eq (Ev.now _) (beq_false_of_ne (by omega)))
      simp only [impl_samePeople.l0]; rw [if_neg (by omega)]
    · refine Ev.step (f := fun _ => some false) (fun k => ?_) (Ev.now _)
      simp only [impl_samePeople.l0]; rw [if_pos (by omega), if_neg (by omega)]
def sp2 (a b : List S27) : Bool × Bool := if listD a = true then (if listD b = true then (peopleD a b, true) else (false, false)) else (false, false)
theorem spec_sp (a b : List S27) (ha : ∀ x ∈ a, okS x) (hb : ∀ x ∈ b, okS x) (la : a.length ≤ 1048576) (lb : b.length ≤ 1048576) : Ev (fun k => spec_SamePeople.f k a b) (sp2 a b) := by
  unfold spec_SamePeople.f sp2
  refine Ev.bind (spec_list a ha la) ?_
  by_cases h : listD a = true
  · rw [if_pos h]
    refine ev_pos h (Ev.bind (spec_list b hb lb) ?_)
    by_cases h' : listD b = true
    · rw [if_pos h']; exact ev_pos h' (Ev.bind (spec_people a b h h') (Ev.now _))
    · rw [if_neg h']; exact ev_neg h' (Ev.now _)
  · rw [if_neg h]; exact ev_neg h (Ev.now _)
theorem impl_sp (a b : List S27) (ha : ∀ x ∈ a, okS x) (hb : ∀ x ∈ b, okS x) (la : a.length ≤ 1048576) (lb : b.length ≤ 1048576) : Ev (fun k => impl_SamePeople.f k a b) (sp2 a b) := by
  unfold impl_SamePeople.f sp2
  refine Ev.bind (impl_list a ha la) ?_
  by_cases h : listD a = true
  · rw [if_pos h]
    refine ev_pos h (Ev.bind (impl_list b hb lb) ?_)
    by_cases h' : listD b = true
    · rw [if_pos h']; exact ev_pos h' (Ev.bind (impl_people a b h h') (Ev.now _))
    · rw [if_neg h']; exact ev_neg h' (Ev.now _)
  · rw [if_neg h]; exact ev_neg h (Ev.now _)
theorem eqL_loop (l : List S27) (ho : ∀ x ∈ l, okS x) (hl : l.length ≤ 1048576) (d : Nat) : ∀ i : Nat, i ≤ l.length → l.length - i = d → Ev (fun k => laws_eqNameS.l0 k l l (i : Int)) true := by
  induction d with
  | zero =>
    intro i h1 hd
    refine Ev.step (f := fun _ => some true) (fun k => ?_) (Ev.now _)
    simp only [laws_eqNameS.l0]; rw [if_neg (by omega)]
  | succ d ih =>
    intro i h1 hd
    have hi : i < l.length := by omega
    have hw : wrap64 ((i : Int) + 1) = ((i + 1 : Nat) : Int) := by rw [w64 (by omega) (by omega)]; rfl
    refine Ev.step (f := fun k => (laws_eqName.f k (l[i]).f0 (l[i]).f1 (l[i]).f2 (l[i]).f3 (l[i]).f0 (l[i]).f1 (l[i]).f2 (l[i]).f3).bind fun t308 => (if t308 = true then (laws_eqNameS.l0 k l l ((i + 1 : Nat) : Int)) else (some false))) (fun k => ?_) (Ev.bind (eqN_same _ _ _ _ (ho _ (List.getElem_mem hi)).1) (ev_pos rfl (ih (i + 1) (by omega) (by omega))))
    simp only [laws_eqNameS.l0, rd27 l i hi, hw]
    rw [if_pos (by omega), if_pos (by omega), if_pos (by omega)]
theorem eqL_same (l : List S27) (ho : ∀ x ∈ l, okS x) (hl : l.length ≤ 1048576) : Ev (fun k => laws_eqNameS.f k l l) true := by
  unfold laws_eqNameS.f
  exact ev_pos rfl (eqL_loop l ho hl _ 0 (by omega) rfl)
theorem conv_ok {l : List S24} (h : bulkL l ≤ 1048576) : ∀ x ∈ l.map conv, okS x := by
  intro x hx
  obtain ⟨y, hy, rfl⟩ := List.mem_map.1 hx
  have := bulkL_mem hy
  unfold bulkN bulkS at this
  exact ⟨by show y.f0.length ≤ _; omega, by show y.f1.size ≤ _; omega⟩
theorem FnExactSamePeople : laws_FnExactSamePeople.Pur := by
  intro a b ha hb
  apply Ev.rounds
  unfold laws_FnExactSamePeople.f
  refine Ev.bind (szL_ev a ha.2 ha.1 1048576 (by omega) (by omega)) ?_
  by_cases c : ((a.length + bulkL a : Nat) : Int) ≤ 1048576
  · have hl : lftOf 1048576 (a.length + bulkL a) = 1048576 - (a.length + bulkL a : Nat) := by unfold lftOf; rw [if_pos c]
    rw [hl]
    refine ev_neg (by omega) (Ev.bind (szL_ev b hb.2 hb.1 _ (by omega) (by omega)) ?_)
    by_cases c' : ((b.length + bulkL b : Nat) : Int) ≤ 1048576 - (a.length + bulkL a : Nat)
    · have hl' : lftOf (1048576 - (a.length + bulkL a : Nat)) (b.length + bulkL b) = (1048576 - (a.length + bulkL a : Nat)) - (b.length + bulkL b : Nat) := by unfold lftOf; rw [if_pos c']
      rw [hl']
      have oa := conv_ok (l := a) (by omega)
      have ob := conv_ok (l := b) (by omega)
      have la : (a.map conv).length ≤ 1048576 := by rw [List.length_map]; omega
      have lb : (b.map conv).length ≤ 1048576 := by rw [List.length_map]; omega
      have sa : ∀ x ∈ a, x.f0.length ≤ 1048576 := fun x hx => by have := bulkL_mem hx; unfold bulkN bulkS at this; omega
      have sb : ∀ x ∈ b, x.f0.length ≤ 1048576 := fun x hx => by have := bulkL_mem hx; unfold bulkN bulkS at this; omega
      have ta := toL_ev a (by omega) sa
      have tb := toL_ev b (by omega) sb
      have ea := eqL_same (a.map conv) oa la
      have eb := eqL_same (b.map conv) ob lb
      refine ev_neg (by omega) (Ev.bind ta (Ev.bind tb (Ev.bind (spec_sp _ _ oa ob la lb) (Ev.bind ta (Ev.bind tb (Ev.bind (impl_sp _ _ oa ob la lb) (ev_neg (by simp) ?_)))))))
      have e : ((sp2 (a.map conv) (b.map conv)).2 != (sp2 (a.map conv) (b.map conv)).2) = false := by simp
      rw [e]
      refine Ev.step (f := fun k => (laws_toNameS.f k a).bind fun t327 => ((laws_eqNameS.f k (a.map conv) t327).bind fun t330 => (if t330 = true then ((laws_toNameS.f k b).bind fun t331 => ((laws_eqNameS.f k (b.map conv) t331).bind fun t334 => (if t334 = true then (some true) else (some false)))) else (some false)))) (fun k => by simp [laws_FnExactSamePeople.j0]) ?_
      exact Ev.bind ta (Ev.bind ea (ev_pos rfl (Ev.bind tb (Ev.bind eb (ev_pos rfl (Ev.now _))))))
    · have hl' : lftOf (1048576 - (a.length + bulkL a : Nat)) (b.length + bulkL b) = -1 := by unfold lftOf; rw [if_neg c']
      rw [hl']
      exact ev_pos (by omega) (Ev.now _)
  · have hl : lftOf 1048576 (a.length + bulkL a) = -1 := by unfold lftOf; rw [if_neg c]
    rw [hl]
    exact ev_pos (by omega) (Ev.now _)
end Go.Proofs.YtcckamdpncbkoaaDoor.Pure
