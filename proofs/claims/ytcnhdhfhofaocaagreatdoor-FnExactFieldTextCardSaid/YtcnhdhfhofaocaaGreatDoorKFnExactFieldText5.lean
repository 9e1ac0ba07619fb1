/- Texts of this session for the law FnExactFieldText, put together by a program (merge.py): each ends with its namespace; conditions stand with each theorem. -/
import Derived.Test.YtcnhdhfhofaocaaGreatDoorKFnExactFieldText2
import Derived.Test.YtcnhdhfhofaocaaGreatDoorKFnExactFieldText3
import Derived.Test.YtcnhdhfhofaocaaGreatDoorKFnExactFieldText4
import Derived.Test.YtcnhdhfhofaocaaGreatDoorKFnExactFieldText1
import Derived.Deep.Slices
import Derived.Lib.Strings
import Derived.Lib.SplitLaws
import Derived.Lib.IndexBytes
import Derived.Lib.IndexLaws
import Derived.Lib.IndexMore
import Derived.Lib.ItoaLen
import Derived.Lib.ItoaNum
namespace Go.Proofs.YtcnhdhfhofaocaaGreatDoor.G
open Go.RowKit Go.Proofs.YtcnhdhfhofaocaaGreatDoorW.PrintWords Go.Proofs.YtcnhdhfhofaocaaGreatDoorW.PrintLast Go.Proofs.YtcnhdhfhofaocaaGreatDoorW.PrintMore
open Go.Proofs.YtcnhdhfhofaocaaGreatDoor.Gl Go.Proofs.YtcnhdhfhofaocaaGreatDoor.Ext
attribute [local go_sem] max2_int min2_int max_two min_two max_three min_three max_four min_four   -- for this text's walks alone
set_option linter.unusedVariables false
set_option linter.unusedSimpArgs false

/-! ### laws_toStringS: function 83 -/
def laws_toStringS.l0 : Nat → List ByteArray → List ByteArray → Int → Option (List ByteArray)
 | 0, _, _, _ => none
 | k + 1, x0, x3, x4 => if x4 < (x0.length : Int) then (if 0 ≤ x4 then (if x4 < (x3.length : Int) then (laws_toStringS.l0 k x0 (x3.set (x4 : Int).toNat (rdOf ByteArray.empty x0 x4)) (wrap64 (x4 + 1))) else (none)) else (none)) else (some x3)
def laws_toStringS.f (k : Nat) (l0 : List ByteArray) : Option (List ByteArray) := if 0 ≤ (l0.length : Int) then (if ((l0.length : Int) : Int).toNat ≤ 17592186044416 then (laws_toStringS.l0 k l0 (List.replicate ((l0.length : Int) : Int).toNat (⟨#[]⟩ : ByteArray)) 0) else (none)) else (none)
theorem laws_toStringS.mono_l : ∀ k, (∀ y0 y1 y2, LeO (laws_toStringS.l0 k y0 y1 y2) (laws_toStringS.l0 (k + 1) y0 y1 y2))
 | 0 => fun _ _ _ r h => by simp [laws_toStringS.l0] at h
 | k + 1 => by
  have ih0 := laws_toStringS.mono_l k
  ·
   intro y0 y1 y2
   unfold laws_toStringS.l0
   repeat' first
   | (with_reducible exact ih0 _ _ _)
   | (with_reducible exact LeO.refl _)
   | (with_reducible exact LeO.none _)
   | (with_reducible refine LeO.ite ?_ ?_)
   | (with_reducible refine LeO.bind ?_ (fun _ => ?_))
   | exact ih0 _ _ _
   | exact LeO.none _
   | refine LeO.ite ?_ ?_
   | refine LeO.bind ?_ (fun _ => ?_)
theorem laws_toStringS.mono : ∀ a0 k, LeO (laws_toStringS.f k a0) (laws_toStringS.f (k + 1) a0) := by
 intro a0 k
 have ih0 := laws_toStringS.mono_l k
 unfold laws_toStringS.f
 repeat' first
   | (with_reducible exact ih0 _ _ _)
   | (with_reducible exact LeO.refl _)
   | (with_reducible exact LeO.none _)
   | (with_reducible refine LeO.ite ?_ ?_)
   | (with_reducible refine LeO.bind ?_ (fun _ => ?_))
   | exact ih0 _ _ _
   | exact LeO.none _
   | refine LeO.ite ?_ ?_
   | refine LeO.bind ?_ (fun _ => ?_)
set_option maxHeartbeats 8000000 in
set_option maxRecDepth 100000 in
theorem laws_toStringS.calls (k : Nat) (A0 : Option Addr) (c0 : Nat) (l0 : List ByteArray) (r : List ByteArray) (w : World) (hr0 : Kd.C Kd.string w A0 l0.length l0) (hc0 : l0.length ≤ c0) (h : laws_toStringS.f k l0 = some r) :
  Calls Tryz.prog 83 #[.slice A0 l0.length c0] w fun e w' => ∃ v0_ : Value, e = .returned (v0_) ∧ Kd.R Kd.string 9 w' w.heap.size (fun _ => True) v0_ r ∧ Below w.heap.size w w' := by
 have HR0 := Aside0.mk hr0
 have HC0 := Aside0.mk hc0
 clear hr0 hc0
 have HB := Aside0.mk (Below.refl w.heap.size w)
 have H : (if 0 ≤ (l0.length : Int) then (if ((l0.length : Int) : Int).toNat ≤ 17592186044416 then (laws_toStringS.l0 k l0 (List.replicate ((l0.length : Int) : Int).toNat (⟨#[]⟩ : ByteArray)) 0) else (none)) else (none)) = some r := h
 clear h
 by_cases c2 : 0 ≤ (l0.length : Int)
 ·
  rw [if_pos c2] at H
  have c2b0 := eq_true c2
  have c2b1 : decide (0 ≤ (l0.length : Int)) = true := decide_eq_true c2
  clear c2
  by_cases c3 : ((l0.length : Int) : Int).toNat ≤ 17592186044416
  ·
   rw [if_pos c3] at H
   have c3b0 := eq_true c3
   have c3b1 : decide (((l0.length : Int) : Int).toNat ≤ 17592186044416) = true := decide_eq_true c3
   clear c3
   obtain ⟨y197, hy197⟩ : ∃ y_ : List ByteArray, y_ = (List.replicate ((l0.length : Int) : Int).toNat (⟨#[]⟩ : ByteArray)) := ⟨_, rfl⟩
   replace H : (laws_toStringS.l0 k l0 y197 0) = some r := by first | (rw [hy197]; with_reducible exact H) | (have H2_ := (Option.bind_some _ _).symm.trans H; rw [hy197]; with_reducible exact H2_) | (have H2_ := (Option.bind_some _ _).symm.trans H; with_reducible exact H2_) | with_reducible exact H | (rw [hy197]; exact H) | exact H
   have Ny197 := Aside0.mk hy197
   clear hy197
   have H' := Aside0.mk H
   clear H
   go_enter Tryz.func83, Tryz.ntmps83
   go_wp2_with (first | ((with_reducible refine gate_dst (N := 7) rfl ?_); refine Kd.R_make Kd.string _ 9 rfl (N := 7) rfl 37 _ _ rfl (l0.length : Int) rfl rfl Tryz.underlying37 (.string ⟨#[]⟩) 16 info9 rfl (by decide) (by omega) (⟨#[]⟩ : ByteArray) (ok := fun _ => True) (okp := fun _ => True) rfl (fun _ hk => hk) trivial (of_decide_eq_true au66) (Nat.le_trans (Nat.mul_le_mul_right _ (of_decide_eq_true au66 : (l0.length : Int).toNat ≤ 17592186044416)) (by omega)) (Below.refl _ _) (Nat.le_refl _) ?_; intro v198 w4 ho5 hb hg_ hnew_; clear hg_ hnew_; (first | rw [← Ny197.out] at ho5 | (simp only [Int.reduceToNat] at ho5; rw [← Ny197.out] at ho5)); have HO199 := Aside0.mk (Kd.R_lower ho5 (below_size au33)); replace HB := Aside0.mk (below_step au33 hb); clear hb ho5))
   go_loopg [4] k (fun kq v4 w' => ∃ (x3_1 : List ByteArray) (x4_1 : Int), v4 = .int .i64 x4_1 ∧ Aside0 (laws_toStringS.l0 kq l0 x3_1 x4_1 = some r) ∧ Aside0 (kq ≤ k) ∧ Aside0 (Kd.R Kd.string 9 w' w.heap.size (fun _ => True) v198 x3_1) ∧ Aside0 (Below w.heap.size w w'))
   case atStart => exact ⟨(y197), (0), au67, H', ⟨Nat.le_refl _⟩, ⟨by (with_reducible repeat (first | apply Kd.R_alloc | apply Kd.R_drewN | apply Kd.R_drew)); exact HO199.out⟩, ⟨by repeat (first | (with_reducible first | exact HB.out | apply below_alloc | apply pw_below_drewN | apply below_drew1) | exact HB.out)⟩⟩
   case round =>
    clear H'
    try clear c2
    try clear c2b0
    try clear c2b1
    try clear p2
    try clear c3
    try clear c3b0
    try clear c3b1
    obtain ⟨x3_1, x4_1, rfl, HA, HK1, HO_3, HB⟩ := hrel
    cases gk with
    | zero => exact absurd HA.out (by simp [laws_toStringS.l0])
    | succ k1 =>
     have H := HA.out
     clear HA
     simp only [laws_toStringS.l0] at H
     by_cases c6 : x4_1 < (l0.length : Int)
     ·
      rw [if_pos c6] at H
      have c6b0 : decide (x4_1 < (l0.length : Int)) = true := decide_eq_true c6
      clear c6
      by_cases c7 : 0 ≤ x4_1
      ·
       rw [if_pos c7] at H
       have c7b0 : decide (0 ≤ x4_1) = true := decide_eq_true c7
       clear c7
       by_cases c8 : x4_1 < (x3_1.length : Int)
       ·
        rw [if_pos c8] at H
        have c8b0 : decide (x4_1 < (x3_1.length : Int)) = true := decide_eq_true c8
        clear c8
        obtain ⟨y201, hy201⟩ : ∃ y_ : List ByteArray, y_ = (x3_1.set (x4_1 : Int).toNat (rdOf ByteArray.empty l0 x4_1)) := ⟨_, rfl⟩
        replace H : (laws_toStringS.l0 k1 l0 y201 (wrap64 (x4_1 + 1))) = some r := by first | (rw [hy201]; with_reducible exact H) | (have H2_ := (Option.bind_some _ _).symm.trans H; rw [hy201]; with_reducible exact H2_) | (have H2_ := (Option.bind_some _ _).symm.trans H; with_reducible exact H2_) | with_reducible exact H | (rw [hy201]; exact H) | exact H
        have Ny201 := Aside0.mk hy201
        clear hy201
        have H' := Aside0.mk H
        clear H
        have p200 : 0 ≤ (x4_1 : Int) := of_decide_eq_true au66
        have q200 : x4_1 < (l0.length : Int) := of_decide_eq_true au66
        obtain ⟨ad200, e200, hx200_0⟩ := Kd.at_string HR0.out x4_1 p200 q200
        cases e200
        replace hx200_0 := bcl HB.out hx200_0
        replace p200 := eq_true p200
        replace q200 := eq_true q200
        have p9 : 0 ≤ (x4_1 : Int) := of_decide_eq_true au66
        have q9 : (x4_1 : Int) < ((x3_1.length : Int) : Int) := of_decide_eq_true au66
        obtain ⟨go9, co9, eo9, gb9, gl9, cl9, HG9⟩ := Kd.R_form HO_3.out (by omega)
        (first | cases eo9 | (injection eo9 with ea_ en_ ec_; (first | subst ea_ | (injection ea_ with ea_; subst ea_)); subst ec_; clear en_))
        have GB9 := Aside0.mk gb9
        have GG9 := Aside0.mk HG9
        clear gb9 gl9 HG9
        obtain ⟨hx9_0, hf9_0⟩ := Kd.R_celln (⟨#[]⟩ : ByteArray) HO_3.out (x4_1 : Int) p9 q9
        replace p9 := eq_true p9
        replace q9 := eq_true q9
        have HP10 := Kd.R_putg HO_3.out (x4_1 : Int) (rdOf ByteArray.empty l0 x4_1)
        go_wp2_with (first | ((with_reducible refine gate_store (t := 9) (p := 20) rfl ?_); refine store_event (t := 9) (p := 20) (v := ?vo_w11) (w1 := (wr.setCell ⟨go9, (x4_1 : Int).toNat, none⟩ (.string (rdOf ByteArray.empty l0 x4_1)))) ?hg ?ho ?hn ?hr ?_; (case ho => rfl); (case hg => rfl); (case hn => rfl); (case hr => first | (go_simp; done) | (go_simp; rfl)); intro w11 hw; have hg : wr.grownBy w11 (some go9) := (by rw [hw]; exact HP10.2); have hp_ : Kd.R Kd.string 9 w11 w.heap.size (fun _ => True) (.slice (some ⟨go9, 0, none⟩) x3_1.length co9) y201 := (by rw [hw, Ny201.out]; exact HP10.1); clear HP10; replace HO_3 := Aside0.mk (hp_); replace HB := Aside0.mk ((by rw [hw]; exact below_set (HB.out) GB9.out : Below w.heap.size w w11)); clear hg hw hp_))
        go_roundg k1
        case measure => have := HK1.out; omega
        case rel => exact ⟨(y201), (wrap64 (x4_1 + 1)), au67, H', ⟨by have := HK1.out; omega⟩, ⟨by (with_reducible repeat (first | apply Kd.R_alloc | apply Kd.R_drewN | apply Kd.R_drew)); exact HO_3.out⟩, ⟨by repeat (first | (with_reducible first | exact HB.out | apply below_alloc | apply pw_below_drewN | apply below_drew1) | exact HB.out)⟩⟩
       ·
        rw [if_neg c8] at H
        exact absurd H (by simp)
      ·
       rw [if_neg c7] at H
       exact absurd H (by simp)
     ·
      rw [if_neg c6] at H
      have c6b0 : decide (x4_1 < (l0.length : Int)) = false := decide_eq_false c6
      clear c6
      obtain rfl := Option.some.inj H
      go_wp2
      go_ret
      exact ⟨_, by first | rfl | (simp [errW_none, errW_some] <;> rfl) | (simp [*, errW_none, errW_some] <;> rfl), by (with_reducible repeat (first | apply Kd.R_alloc | apply Kd.R_drewN | apply Kd.R_drew)); exact HO_3.out, by repeat (first | (with_reducible first | exact HB.out | apply below_alloc | apply pw_below_drewN | apply below_drew1) | exact HB.out)⟩
  ·
   rw [if_neg c3] at H
   exact absurd H (by simp)
 ·
  rw [if_neg c2] at H
  exact absurd H (by simp)


/-! ### laws_toName: function 55 -/
def laws_toName.f (k : Nat) (l0_0 : List ByteArray) (a0_1 : ByteArray) (a0_2 : ByteArray) (a0_3 : ByteArray) : Option (List ByteArray × ByteArray × ByteArray × ByteArray) := (laws_toStringS.f k l0_0).bind fun t205 => (some (t205, a0_1, a0_2, a0_3))
theorem laws_toName.mono : ∀ a0 a1 a2 a3 k, LeO (laws_toName.f k a0 a1 a2 a3) (laws_toName.f (k + 1) a0 a1 a2 a3) := by
 intro a0 a1 a2 a3 k
 unfold laws_toName.f
 repeat' first
   | (with_reducible exact laws_toStringS.mono _ _)
   | (with_reducible exact LeO.refl _)
   | (with_reducible exact LeO.none _)
   | (with_reducible refine LeO.ite ?_ ?_)
   | (with_reducible refine LeO.bind ?_ (fun _ => ?_))
   | exact laws_toStringS.mono _ _
   | exact LeO.none _
   | refine LeO.ite ?_ ?_
   | refine LeO.bind ?_ (fun _ => ?_)
set_option maxHeartbeats 8000000 in
set_option maxRecDepth 100000 in
theorem laws_toName.calls (k : Nat) (A0_0 : Option Addr) (c0_0 : Nat) (l0_0 : List ByteArray) (a0_1 : ByteArray) (a0_2 : ByteArray) (a0_3 : ByteArray) (r1 : List ByteArray) (r2 : ByteArray) (r3 : ByteArray) (r4 : ByteArray) (w : World) (hr0_0 : Kd.C Kd.string w A0_0 l0_0.length l0_0) (hc0_0 : l0_0.length ≤ c0_0) (h : laws_toName.f k l0_0 a0_1 a0_2 a0_3 = some (r1, r2, r3, r4)) :
  Calls Tryz.prog 55 #[.agg #[.slice A0_0 l0_0.length c0_0, .string a0_1, .string a0_2, .string a0_3]] w fun e w' => ∃ v0_ : Value, e = .returned (.agg #[v0_, .string r2, .string r3, .string r4]) ∧ Kd.R Kd.string 9 w' w.heap.size (fun _ => True) v0_ r1 ∧ Below w.heap.size w w' := by
 have hu74 := Tryz.underlying74
 have hu80 := Tryz.underlying80
 have HR0_0 := Aside0.mk hr0_0
 have HC0_0 := Aside0.mk hc0_0
 clear hr0_0 hc0_0
 have HB := Aside0.mk (Below.refl w.heap.size w)
 have H : ((laws_toStringS.f k l0_0).bind fun t205 => (some (t205, a0_1, a0_2, a0_3))) = some (r1, r2, r3, r4) := h
 clear h
 replace H := Option.bind_eq_some_iff.mp H
 obtain ⟨t205, A20, H⟩ := H
 try dsimp only at H
 have A2 := Aside0.mk A20
 clear A20
 simp only [Option.some.injEq, Prod.mk.injEq] at H
 obtain ⟨rfl, rfl, rfl, rfl⟩ := H
 go_enter Tryz.func55, Tryz.ntmps55
 go_wp2_with (first | ((with_reducible refine gate_dst (N := 1) rfl ?_); refine box_event ?hg (N := 1) ?hd (cs := #[.slice A0_0 l0_0.length c0_0, .string a0_1, .string a0_2, .string a0_3]) (t := 74) ?hr ?_; (case hd => rfl); (case hg => rfl); (case hr => first | (go_simp; done) | (go_simp; rfl)); intro gb202 hg w3 hbox hb; have BK202 := Aside0.mk (hbox); have GW202 := Aside0.mk (bsz hg au33); have GE202 := Aside0.mk (bsz hg au33); replace HB := Aside0.mk (below_step au33 hb); clear hb hbox hg) | ((with_reducible refine gate_dst (N := 2) rfl ?_); refine box_event ?hg (N := 2) ?hd (cs := #[.slice none 0 0, .string (⟨#[]⟩ : ByteArray), .string (⟨#[]⟩ : ByteArray), .string (⟨#[]⟩ : ByteArray)]) (t := 80) ?hr ?_; (case hd => rfl); (case hg => rfl); (case hr => first | (go_simp; done) | (go_simp; rfl)); intro gb203 hg w4 hbox hb; have BK203 := Aside0.mk (hbox); have GW203 := Aside0.mk (bsz hg au28); have GE203 := Aside0.mk (bsz hg au28); replace HB := Aside0.mk (below_step au28 hb); have NB202_203 := Aside0.mk (bne (g := gb202) hg au51); have NB203_202 := Aside0.mk (ben (g := gb202) hg au51); replace BK202 := Aside0.mk (blk_below (g := gb202) au51 hb); clear hb hbox hg) | ((with_reducible refine gate_dst (N := 3) rfl ?_); refine box_event ?hg (N := 3) ?hd (cs := #[.slice none 0 0, .string (⟨#[]⟩ : ByteArray), .string (⟨#[]⟩ : ByteArray), .string (⟨#[]⟩ : ByteArray)]) (t := 80) ?hr ?_; (case hd => rfl); (case hg => rfl); (case hr => first | (go_simp; done) | (go_simp; rfl)); intro gb204 hg w5 hbox hb; have BK204 := Aside0.mk (hbox); have GW204 := Aside0.mk (bsz hg au7); have GE204 := Aside0.mk (bsz hg au7); replace HB := Aside0.mk (below_step au7 hb); have NB202_204 := Aside0.mk (bne (g := gb202) hg au51); have NB204_202 := Aside0.mk (ben (g := gb202) hg au51); replace BK202 := Aside0.mk (blk_below (g := gb202) au51 hb); have NB203_204 := Aside0.mk (bne (g := gb203) hg au52); have NB204_203 := Aside0.mk (ben (g := gb203) hg au52); replace BK203 := Aside0.mk (blk_below (g := gb203) au52 hb); clear hb hbox hg; have hnb6 := NB202_203.out; have hnc6 := NB203_202.out; have hnb7 := NB202_204.out; have hnc7 := NB204_202.out; obtain ⟨hcz8_0, hcz8_1, hcz8_2, hcz8_3, hfz8_0, hfz8_1, hfz8_2, hfz8_3⟩ := blkc4 BK202.out) | ((with_reducible refine gate_callee (f := 83) rfl ?_); refine goesL_ (some 6) rfl rfl Tryz.func83 (by kernel_rfl) rfl #[.slice A0_0 l0_0.length c0_0] rfl au32 ?_; (with_reducible refine (laws_toStringS.calls k _ _ l0_0 t205 _ ?side1 ?side2 A2.out).mono ?_); (case side1 => repeat (first | exact (Kd.C_below HR0_0.out HB.out) | (with_reducible refine Kd.C_alloc ?_ _) | (with_reducible refine Kd.C_drewN ?_ _) | (with_reducible refine Kd.C_drew ?_))); (case side2 => exact HC0_0.out); rintro e w9 ⟨v206, rfl, ho0, hb⟩; refine ⟨_, rfl, ?_⟩; have HO207 := Aside0.mk (Kd.R_lower ho0 (below_size au4)); replace BK202 := Aside0.mk (blk_below (g := gb202) au51 hb); replace BK203 := Aside0.mk (blk_below (g := gb203) au52 hb); replace BK204 := Aside0.mk (blk_below (g := gb204) (by (with_reducible repeat (first | refine blk_drewN ?_ _ | refine blk_drew ?_ | refine blk_alloc ?_ _)); exact BK204.out) hb); replace HB := Aside0.mk (below_step au4 hb); (try clear hb); (try clear ho0); obtain ⟨Ao10, co10, eo10⟩ := Kd.R_slice HO207.out; subst eo10; have hnb11 := NB204_203.out; have hnc11 := NB203_204.out; obtain ⟨hcz12_0, hcz12_1, hcz12_2, hcz12_3, hfz12_0, hfz12_1, hfz12_2, hfz12_3⟩ := blkc4 BK204.out; obtain ⟨hcz13_0, hcz13_1, hcz13_2, hcz13_3, hfz13_0, hfz13_1, hfz13_2, hfz13_3⟩ := blkc4 BK202.out; obtain ⟨hcz14_0, hcz14_1, hcz14_2, hcz14_3, hfz14_0, hfz14_1, hfz14_2, hfz14_3⟩ := blkc4 BK203.out))
 refine bodyPost_ret (results_cell_row rfl _ _ gb203 80 #[.slice Ao10 t205.length co10, .string a0_1, .string a0_2, .string a0_3] (0, 0) _ rfl (by (with_reducible repeat (first | refine blk_drewN ?_ _ | refine blk_drew ?_ | refine blk_alloc ?_ _)); refine blk_put (cs := #[.slice Ao10 t205.length co10, .string a0_1, .string a0_2, .string (⟨#[]⟩ : ByteArray)]) ?_ 3 _ rfl; (with_reducible repeat (first | refine blk_drewN ?_ _ | refine blk_drew ?_ | refine blk_alloc ?_ _)); refine blk_put (cs := #[.slice Ao10 t205.length co10, .string a0_1, .string (⟨#[]⟩ : ByteArray), .string (⟨#[]⟩ : ByteArray)]) ?_ 2 _ rfl; (with_reducible repeat (first | refine blk_drewN ?_ _ | refine blk_drew ?_ | refine blk_alloc ?_ _)); refine blk_put (cs := #[.slice Ao10 t205.length co10, .string (⟨#[]⟩ : ByteArray), .string (⟨#[]⟩ : ByteArray), .string (⟨#[]⟩ : ByteArray)]) ?_ 1 _ rfl; (with_reducible repeat (first | refine blk_drewN ?_ _ | refine blk_drew ?_ | refine blk_alloc ?_ _)); refine blk_put (cs := #[.slice none 0 0, .string (⟨#[]⟩ : ByteArray), .string (⟨#[]⟩ : ByteArray), .string (⟨#[]⟩ : ByteArray)]) ?_ 0 _ rfl; (with_reducible repeat (first | refine blk_drewN ?_ _ | refine blk_drew ?_ | refine blk_alloc ?_ _)); refine blk_far ?_ NB203_204.out _; (with_reducible repeat (first | refine blk_drewN ?_ _ | refine blk_drew ?_ | refine blk_alloc ?_ _)); refine blk_far ?_ NB203_204.out _; (with_reducible repeat (first | refine blk_drewN ?_ _ | refine blk_drew ?_ | refine blk_alloc ?_ _)); refine blk_far ?_ NB203_204.out _; (with_reducible repeat (first | refine blk_drewN ?_ _ | refine blk_drew ?_ | refine blk_alloc ?_ _)); refine blk_far ?_ NB203_204.out _; (with_reducible repeat (first | refine blk_drewN ?_ _ | refine blk_drew ?_ | refine blk_alloc ?_ _)); exact BK203.out) Tryz.underlying80 rfl (by kernel_rfl)) rfl ?_
 exact ⟨_, by first | rfl | (simp [errW_none, errW_some] <;> rfl) | (simp [*, errW_none, errW_some] <;> rfl), by (with_reducible repeat (first | apply Kd.R_alloc | apply Kd.R_drewN | apply Kd.R_drew)); exact Kd.R_mono (Kd.R_far (p := ⟨gb203, 3, none⟩) (Kd.R_far (p := ⟨gb203, 2, none⟩) (Kd.R_far (p := ⟨gb203, 1, none⟩) (Kd.R_far (p := ⟨gb203, 0, none⟩) (Kd.R_far (p := ⟨gb204, 3, none⟩) (Kd.R_far (p := ⟨gb204, 2, none⟩) (Kd.R_far (p := ⟨gb204, 1, none⟩) (Kd.R_far (p := ⟨gb204, 0, none⟩) (Kd.R_types (Kd.R_types HO207.out BK204.out (by decide)) BK203.out (by decide)) (fun _ hk => hk.1.2) (.slice Ao10 t205.length co10)) (fun _ hk => hk.1.2) (.string a0_1)) (fun _ hk => hk.1.2) (.string a0_2)) (fun _ hk => hk.1.2) (.string a0_3)) (fun _ hk => hk.2) (.slice Ao10 t205.length co10)) (fun _ hk => hk.2) (.string a0_1)) (fun _ hk => hk.2) (.string a0_2)) (fun _ hk => hk.2) (.string a0_3)) (fun _ hk => trivial), by repeat (first | (with_reducible first | exact HB.out | apply below_alloc | apply pw_below_drewN | apply below_drew1 | refine below_set ?_ GE202.out | refine below_set ?_ GE203.out | refine below_set ?_ GE204.out) | exact HB.out)⟩


/-! ### laws_toNameS: function 27 -/
def laws_toNameS.l0 : Nat → List (S74) → List (S80) → Int → Option ((List (S80)))
 | 0, _, _, _ => none
 | k + 1, x0, x3, x4 => if x4 < (x0.length : Int) then (if 0 ≤ x4 then ((laws_toName.f k ((rd_T74 x0 x4).f0) ((rd_T74 x0 x4).f1) ((rd_T74 x0 x4).f2) ((rd_T74 x0 x4).f3)).bind fun bt212 => (if x4 < (x3.length : Int) then (laws_toNameS.l0 k x0 (x3.set (x4 : Int).toNat (⟨bt212.1, bt212.2.1, bt212.2.2.1, bt212.2.2.2⟩ : S80)) (wrap64 (x4 + 1))) else (none))) else (none)) else (some x3)
def laws_toNameS.f (k : Nat) (l0 : List (S74)) : Option ((List (S80))) := if 0 ≤ (l0.length : Int) then (if ((l0.length : Int) : Int).toNat ≤ 3909374676536 then (laws_toNameS.l0 k l0 (List.replicate ((l0.length : Int) : Int).toNat z80) 0) else (none)) else (none)
theorem laws_toNameS.mono_l : ∀ k, (∀ y0 y1 y2, LeO (laws_toNameS.l0 k y0 y1 y2) (laws_toNameS.l0 (k + 1) y0 y1 y2))
 | 0 => fun _ _ _ r h => by simp [laws_toNameS.l0] at h
 | k + 1 => by
  have ih0 := laws_toNameS.mono_l k
  ·
   intro y0 y1 y2
   unfold laws_toNameS.l0
   repeat' first
   | (with_reducible exact ih0 _ _ _)
   | (with_reducible exact laws_toName.mono _ _ _ _ _)
   | (with_reducible exact LeO.refl _)
   | (with_reducible exact LeO.none _)
   | (with_reducible refine LeO.ite ?_ ?_)
   | (with_reducible refine LeO.bind ?_ (fun _ => ?_))
   | exact ih0 _ _ _
   | exact laws_toName.mono _ _ _ _ _
   | exact LeO.none _
   | refine LeO.ite ?_ ?_
   | refine LeO.bind ?_ (fun _ => ?_)
theorem laws_toNameS.mono : ∀ a0 k, LeO (laws_toNameS.f k a0) (laws_toNameS.f (k + 1) a0) := by
 intro a0 k
 have ih0 := laws_toNameS.mono_l k
 unfold laws_toNameS.f
 repeat' first
   | (with_reducible exact ih0 _ _ _)
   | (with_reducible exact laws_toName.mono _ _ _ _ _)
   | (with_reducible exact LeO.refl _)
   | (with_reducible exact LeO.none _)
   | (with_reducible refine LeO.ite ?_ ?_)
   | (with_reducible refine LeO.bind ?_ (fun _ => ?_))
   | exact ih0 _ _ _
   | exact laws_toName.mono _ _ _ _ _
   | exact LeO.none _
   | refine LeO.ite ?_ ?_
   | refine LeO.bind ?_ (fun _ => ?_)
set_option maxHeartbeats 8000000 in
set_option maxRecDepth 100000 in
theorem laws_toNameS.calls (k : Nat) (A0 : Option Addr) (c0 : Nat) (l0 : List (S74)) (r : List (S80)) (w : World) (hr0 : Kd.C k74 w A0 l0.length l0) (hc0 : l0.length ≤ c0) (h : laws_toNameS.f k l0 = some r) :
  Calls Tryz.prog 27 #[.slice A0 l0.length c0] w fun e w' => ∃ v0_ : Value, e = .returned (v0_) ∧ Kd.S k80 80 w' w.heap.size (fun _ => True) v0_ r ∧ Below w.heap.size w w' := by
 have hu74 := Tryz.underlying74
 have hu80 := Tryz.underlying80
 have HR0 := Aside0.mk hr0
 have HC0 := Aside0.mk hc0
 clear hr0 hc0
 have HB := Aside0.mk (Below.refl w.heap.size w)
 have H : (if 0 ≤ (l0.length : Int) then (if ((l0.length : Int) : Int).toNat ≤ 3909374676536 then (laws_toNameS.l0 k l0 (List.replicate ((l0.length : Int) : Int).toNat z80) 0) else (none)) else (none)) = some r := h
 clear h
 by_cases c2 : 0 ≤ (l0.length : Int)
 ·
  rw [if_pos c2] at H
  have c2b0 := eq_true c2
  have c2b1 : decide (0 ≤ (l0.length : Int)) = true := decide_eq_true c2
  clear c2
  by_cases c3 : ((l0.length : Int) : Int).toNat ≤ 3909374676536
  ·
   rw [if_pos c3] at H
   have c3b0 := eq_true c3
   have c3b1 : decide (((l0.length : Int) : Int).toNat ≤ 3909374676536) = true := decide_eq_true c3
   clear c3
   obtain ⟨y208, hy208⟩ : ∃ y_ : List (S80), y_ = (List.replicate ((l0.length : Int) : Int).toNat z80) := ⟨_, rfl⟩
   replace H : (laws_toNameS.l0 k l0 y208 0) = some r := by first | (rw [hy208]; with_reducible exact H) | (have H2_ := (Option.bind_some _ _).symm.trans H; rw [hy208]; with_reducible exact H2_) | (have H2_ := (Option.bind_some _ _).symm.trans H; with_reducible exact H2_) | with_reducible exact H | (rw [hy208]; exact H) | exact H
   have Ny208 := Aside0.mk hy208
   clear hy208
   have H' := Aside0.mk H
   clear H
   go_enter Tryz.func27, Tryz.ntmps27
   go_wp2_with (first | ((with_reducible refine gate_dst (N := 7) rfl ?_); refine Kd.S_make k80 _ 80 rfl (N := 7) rfl 30 _ _ rfl (l0.length : Int) rfl rfl Tryz.underlying30 (.agg #[(.slice none 0 0), (.string ⟨#[]⟩), (.string ⟨#[]⟩), (.string ⟨#[]⟩)]) 72 info80 rfl (by decide) (by omega) z80 (ok := fun _ => True) (okp := fun _ => True) (k80_mkM _ _ _ z80 (Kd.R_nil _ _ _ _ _)) (fun _ hk => hk) trivial (of_decide_eq_true au66) (Nat.le_trans (Nat.mul_le_mul_right _ (of_decide_eq_true au66 : (l0.length : Int).toNat ≤ 3909374676536)) (by omega)) (Below.refl _ _) (Nat.le_refl _) ?_; intro v209 w4 ho5 hb hg_ hnew_; clear hg_ hnew_; (first | rw [← Ny208.out] at ho5 | (simp only [Int.reduceToNat] at ho5; rw [← Ny208.out] at ho5)); have HO210 := Aside0.mk (Kd.S_lower ho5 (below_size au33)); replace HB := Aside0.mk (below_step au33 hb); clear hb ho5))
   go_loopg [4] k (fun kq v4 w' => ∃ (x3_1 : List (S80)) (x4_1 : Int), v4 = .int .i64 x4_1 ∧ Aside0 (laws_toNameS.l0 kq l0 x3_1 x4_1 = some r) ∧ Aside0 (kq ≤ k) ∧ Aside0 (Kd.S k80 80 w' w.heap.size (fun _ => True) v209 x3_1) ∧ Aside0 (Below w.heap.size w w'))
   case atStart => exact ⟨(y208), (0), au67, H', ⟨Nat.le_refl _⟩, ⟨by (with_reducible repeat (first | apply Kd.S_alloc | apply Kd.S_drewN | apply Kd.S_drew)); exact HO210.out⟩, ⟨by repeat (first | (with_reducible first | exact HB.out | apply below_alloc | apply pw_below_drewN | apply below_drew1) | exact HB.out)⟩⟩
   case round =>
    clear H'
    try clear c2
    try clear c2b0
    try clear c2b1
    try clear p2
    try clear c3
    try clear c3b0
    try clear c3b1
    obtain ⟨x3_1, x4_1, rfl, HA, HK1, HO_3, HB⟩ := hrel
    cases gk with
    | zero => exact absurd HA.out (by simp [laws_toNameS.l0])
    | succ k1 =>
     have H := HA.out
     clear HA
     simp only [laws_toNameS.l0] at H
     by_cases c6 : x4_1 < (l0.length : Int)
     ·
      rw [if_pos c6] at H
      have c6b0 : decide (x4_1 < (l0.length : Int)) = true := decide_eq_true c6
      clear c6
      by_cases c7 : 0 ≤ x4_1
      ·
       rw [if_pos c7] at H
       have c7b0 : decide (0 ≤ x4_1) = true := decide_eq_true c7
       clear c7
       replace H := Option.bind_eq_some_iff.mp H
       obtain ⟨⟨t212, t215, t216, t217⟩, A80, H⟩ := H
       replace H : (if x4_1 < (x3_1.length : Int) then (laws_toNameS.l0 k1 l0 (x3_1.set (x4_1 : Int).toNat (⟨t212, t215, t216, t217⟩ : S80)) (wrap64 (x4_1 + 1))) else (none)) = some r := H
       have A8 := Aside0.mk A80
       clear A80
       by_cases c9 : x4_1 < (x3_1.length : Int)
       ·
        rw [if_pos c9] at H
        have c9b0 : decide (x4_1 < (x3_1.length : Int)) = true := decide_eq_true c9
        clear c9
        obtain ⟨y218, hy218⟩ : ∃ y_ : List (S80), y_ = (x3_1.set (x4_1 : Int).toNat (⟨t212, t215, t216, t217⟩ : S80)) := ⟨_, rfl⟩
        replace H : (laws_toNameS.l0 k1 l0 y218 (wrap64 (x4_1 + 1))) = some r := by first | (rw [hy218]; with_reducible exact H) | (have H2_ := (Option.bind_some _ _).symm.trans H; rw [hy218]; with_reducible exact H2_) | (have H2_ := (Option.bind_some _ _).symm.trans H; with_reducible exact H2_) | with_reducible exact H | (rw [hy218]; exact H) | exact H
        have Ny218 := Aside0.mk hy218
        clear hy218
        have H' := Aside0.mk H
        clear H
        have p211 : 0 ≤ (x4_1 : Int) := of_decide_eq_true au66
        have q211 : x4_1 < (l0.length : Int) := of_decide_eq_true au66
        obtain ⟨ad211, A211_0, c211_0, e211, hx211_0, hx211_1, hx211_2, hx211_3, hl211_0, hi211_0⟩ := at_T74 HR0.out x4_1 p211 q211
        cases e211
        replace hx211_0 := bcl HB.out hx211_0
        replace hx211_1 := bcl HB.out hx211_1
        replace hx211_2 := bcl HB.out hx211_2
        replace hx211_3 := bcl HB.out hx211_3
        have HR211_0 := Aside0.mk hi211_0
        have HC211_0 := Aside0.mk hl211_0
        clear hi211_0 hl211_0
        replace p211 := eq_true p211
        replace q211 := eq_true q211
        go_wp2_with (first | ((with_reducible refine gate_callee (f := 55) rfl ?_); refine goesL_ (some 20) rfl rfl Tryz.func55 (by kernel_rfl) rfl #[.agg #[.slice A211_0 ((rd_T74 l0 x4_1).f0).length c211_0, .string ((rd_T74 l0 x4_1).f1), .string ((rd_T74 l0 x4_1).f2), .string ((rd_T74 l0 x4_1).f3)]] rfl au32 ?_; (with_reducible refine (laws_toName.calls k1 _ _ ((rd_T74 l0 x4_1).f0) ((rd_T74 l0 x4_1).f1) ((rd_T74 l0 x4_1).f2) ((rd_T74 l0 x4_1).f3) t212 t215 t216 t217 _ ?side1 ?side2 A8.out).mono ?_); (case side1 => repeat (first | exact (Kd.C_below HR211_0.out HB.out) | (with_reducible refine Kd.C_alloc ?_ _) | (with_reducible refine Kd.C_drewN ?_ _) | (with_reducible refine Kd.C_drew ?_))); (case side2 => exact HC211_0.out); rintro e w11 ⟨v213, rfl, ho0, hb⟩; obtain ⟨Aqv213, cqv213, eqv213⟩ := Kd.R_slice ho0; subst eqv213; refine ⟨_, rfl, ?_⟩; replace HO_3 := Aside0.mk (Kd.S_elder' (by (with_reducible repeat (first | apply Kd.S_alloc | apply Kd.S_drewN | apply Kd.S_drew)); exact HO_3.out) (Kd.R_base ho0) hb); have HO214 := Aside0.mk (Kd.R_lower ho0 (below_size au33)); replace HB := Aside0.mk (below_step au33 hb); (try clear hb); (try clear ho0); have p10 : 0 ≤ (x4_1 : Int) := of_decide_eq_true au66; have q10 : (x4_1 : Int) < ((x3_1.length : Int) : Int) := of_decide_eq_true au66; obtain ⟨go10, co10, eo10, gb10, gl10, cl10, HG10⟩ := Kd.S_form HO_3.out (by omega); (first | cases eo10 | (injection eo10 with ea_ en_ ec_; (first | subst ea_ | (injection ea_ with ea_; subst ea_)); subst ec_; clear en_)); have GB10 := Aside0.mk gb10; have GG10 := Aside0.mk HG10; clear gb10 gl10 HG10; obtain ⟨_, ce10, hcl10, hM10, hcc10, hfr10, _, _⟩ := Kd.S_elem HO_3.out z80 (x4_1 : Int) p10 q10; obtain ⟨ve10_0, rfl, ge10_0⟩ := k80_openM hM10; have hx10_0 : w11.cell? ⟨go10, (x4_1 : Int).toNat * 4, none⟩ = some (ve10_0) := hcc10 0 _ rfl; have hx10_1 : w11.cell? ⟨go10, (x4_1 : Int).toNat * 4 + 1, none⟩ = some (.string ((rd_T80 x3_1 x4_1).f1)) := hcc10 1 _ rfl; have hx10_2 : w11.cell? ⟨go10, (x4_1 : Int).toNat * 4 + 2, none⟩ = some (.string ((rd_T80 x3_1 x4_1).f2)) := hcc10 2 _ rfl; have hx10_3 : w11.cell? ⟨go10, (x4_1 : Int).toNat * 4 + 3, none⟩ = some (.string ((rd_T80 x3_1 x4_1).f3)) := hcc10 3 _ rfl; have hf10_0 : w11.frozen? ⟨go10, (x4_1 : Int).toNat * 4, none⟩ = false := hfr10 0; have hf10_1 : w11.frozen? ⟨go10, (x4_1 : Int).toNat * 4 + 1, none⟩ = false := hfr10 1; have hf10_2 : w11.frozen? ⟨go10, (x4_1 : Int).toNat * 4 + 2, none⟩ = false := hfr10 2; have hf10_3 : w11.frozen? ⟨go10, (x4_1 : Int).toNat * 4 + 3, none⟩ = false := hfr10 3; clear hcl10 hcc10 hfr10 hM10; replace p10 := eq_true p10; replace q10 := eq_true q10; have n_ := Aside0.mk (Kd.S_mono (ok' := (fun k_ => some k_ ≠ ((.slice Aqv213 t212.length cqv213 : Value) : Value).ownBlock)) HO_3.out (fun k_ hk => hk.2)); clear HO_3; have HO_3 := n_; clear n_; have HX12 := Aside0.mk (show Kd.S k80 80 w11 w.heap.size (fun k_ => ((fun _ => True)) k_ ∧ ¬ ((fun k_ => some k_ = ((.slice Aqv213 t212.length cqv213 : Value) : Value).ownBlock)) k_) (.slice (some ⟨go10, 0, none⟩) x3_1.length co10) x3_1 from (by (with_reducible repeat (first | apply Kd.S_alloc | apply Kd.S_drewN | apply Kd.S_drew)); exact Kd.S_mono HO_3.out (fun k_ hk => ⟨trivial, fun e_ => hk e_⟩))); obtain ⟨oki12, ce12, hcl12, hM12, hcc12, hfr12, hoki12, hH12⟩ := Kd.S_elem HX12.out z80 (x4_1 : Int) (of_decide_eq_true au66) (by have h_ : (x4_1 : Int) < ((x3_1.length : Int) : Int) := of_decide_eq_true au66; first | exact h_ | (have e_ := (Kd.S_reads' HO_3.out).1; omega) | simpa using h_); obtain ⟨ve12_0, rfl, ge12_0⟩ := k80_openM hM12; have HP12 := Kd.S_seg hH12 (of_decide_eq_true au66) (by have h_ : (x4_1 : Int) < ((x3_1.length : Int) : Int) := of_decide_eq_true au66; first | exact h_ | (have e_ := (Kd.S_reads' HO_3.out).1; omega) | simpa using h_) (seg := [(.slice Aqv213 t212.length cqv213 : Value), .string t215, .string t216, .string t217]) (j := 0) (show 4 ≤ 4 from by decide) (x' := (⟨t212, t215, t216, t217⟩ : S80)) (k80_mkM _ _ _ (⟨t212, t215, t216, t217⟩ : S80) (Kd.R_mono (Kd.R_tight rfl (Kd.R_mono (ok' := fun k_ => ((fun _ => True)) k_ ∧ k_ ≠ go10) (Kd.R_apart' (HO214.out) (Kd.S_typed HO_3.out) (by decide)) (fun k_ hk => ⟨trivial, fun e_ => (hk.2) (by rw [e_]; rfl)⟩))) (fun _ h_ => Or.inr (h_)))) (fun _ hk => hk) (fun k_ hk_ => ((Kd.R_mono (ok' := fun k_ => ((fun _ => True)) k_ ∧ k_ ≠ go10) (Kd.R_apart' (HO214.out) (Kd.S_typed HO_3.out) (by decide)) (fun k_ hk => ⟨trivial, fun e_ => (hk.2) (by rw [e_]; rfl)⟩))).1 k_ hk_.symm); have hx12_0 := hcc12 0 _ rfl; (try simp only [show (k80).sz = 4 from rfl, Nat.mul_one, Nat.add_zero] at hx12_0); have hf12_0 := hfr12 0; (try simp only [show (k80).sz = 4 from rfl, Nat.mul_one, Nat.add_zero] at hf12_0); have hx12_1 := hcc12 1 _ rfl; (try simp only [show (k80).sz = 4 from rfl, Nat.mul_one, Nat.add_zero] at hx12_1); have hf12_1 := hfr12 1; (try simp only [show (k80).sz = 4 from rfl, Nat.mul_one, Nat.add_zero] at hf12_1); have hx12_2 := hcc12 2 _ rfl; (try simp only [show (k80).sz = 4 from rfl, Nat.mul_one, Nat.add_zero] at hx12_2); have hf12_2 := hfr12 2; (try simp only [show (k80).sz = 4 from rfl, Nat.mul_one, Nat.add_zero] at hf12_2); have hx12_3 := hcc12 3 _ rfl; (try simp only [show (k80).sz = 4 from rfl, Nat.mul_one, Nat.add_zero] at hx12_3); have hf12_3 := hfr12 3; (try simp only [show (k80).sz = 4 from rfl, Nat.mul_one, Nat.add_zero] at hf12_3); clear hcl12 hcc12 hfr12 hM12 hoki12 hH12) | ((with_reducible refine gate_store (t := 80) (p := 21) rfl ?_); refine store_event (t := 80) (p := 21) (v := ?vo_w13) (w1 := ((((w11.setCell ⟨go10, (x4_1 : Int).toNat * 4, none⟩ ((.slice Aqv213 t212.length cqv213 : Value))).setCell ⟨go10, (x4_1 : Int).toNat * 4 + 1, none⟩ (.string t215)).setCell ⟨go10, (x4_1 : Int).toNat * 4 + 2, none⟩ (.string t216)).setCell ⟨go10, (x4_1 : Int).toNat * 4 + 3, none⟩ (.string t217))) ?hg ?ho ?hn ?hr ?_; (case ho => rfl); (case hg => rfl); (case hn => rfl); (case hr => first | (go_simp; done) | (go_simp; rfl)); intro w13 hw; have hg : w11.grownBy w13 (some go10) := (by rw [hw]; exact HP12.2); have hp_ : Kd.S k80 80 w13 w.heap.size (fun _ => True) (.slice (some ⟨go10, 0, none⟩) x3_1.length co10) y218 := (by rw [hw, Ny218.out]; exact HP12.1); clear HP12; have n0_ := Aside0.mk (hp_); have n1_ := Aside0.mk ((by rw [hw]; exact below_set (below_set (below_set (below_set (HB.out) GB10.out) GB10.out) GB10.out) GB10.out : Below w.heap.size w w13)); clear HO_3; clear HB; clear HO214; have HO_3 := n0_; have HB := n1_; clear n0_ n1_; clear hg hw hp_))
        go_roundg k1
        case measure => have := HK1.out; omega
        case rel => exact ⟨(y218), (wrap64 (x4_1 + 1)), au67, H', ⟨by have := HK1.out; omega⟩, ⟨by (with_reducible repeat (first | apply Kd.S_alloc | apply Kd.S_drewN | apply Kd.S_drew)); exact HO_3.out⟩, ⟨by repeat (first | (with_reducible first | exact HB.out | apply below_alloc | apply pw_below_drewN | apply below_drew1) | exact HB.out)⟩⟩
       ·
        rw [if_neg c9] at H
        exact absurd H (by simp)
      ·
       rw [if_neg c7] at H
       exact absurd H (by simp)
     ·
      rw [if_neg c6] at H
      have c6b0 : decide (x4_1 < (l0.length : Int)) = false := decide_eq_false c6
      clear c6
      obtain rfl := Option.some.inj H
      go_wp2
      go_ret
      exact ⟨_, by first | rfl | (simp [errW_none, errW_some] <;> rfl) | (simp [*, errW_none, errW_some] <;> rfl), by (with_reducible repeat (first | apply Kd.S_alloc | apply Kd.S_drewN | apply Kd.S_drew)); exact HO_3.out, by repeat (first | (with_reducible first | exact HB.out | apply below_alloc | apply pw_below_drewN | apply below_drew1) | exact HB.out)⟩
  ·
   rw [if_neg c3] at H
   exact absurd H (by simp)
 ·
  rw [if_neg c2] at H
  exact absurd H (by simp)


/-! ### laws_toDate: function 28 -/
def laws_toDate.f (a0_0 : Int) (a0_1 : Int) (a0_2 : Int) (a0_3 : Bool) : Option (Int × Int × Int × Bool) := some (a0_0, a0_1, a0_2, a0_3)
set_option maxHeartbeats 8000000 in
set_option maxRecDepth 100000 in
theorem laws_toDate.calls (a0_0 : Int) (a0_1 : Int) (a0_2 : Int) (a0_3 : Bool) (r1 : Int) (r2 : Int) (r3 : Int) (r4 : Bool) (w : World) (h : laws_toDate.f a0_0 a0_1 a0_2 a0_3 = some (r1, r2, r3, r4)) :
  Calls Tryz.prog 28 #[.agg #[.int .i64 a0_0, .int .i64 a0_1, .int .i64 a0_2, .bool a0_3]] w fun e w' => e = .returned (.agg #[.int .i64 r1, .int .i64 r2, .int .i64 r3, .bool r4]) ∧ Below w.heap.size w w' := by
 have hu24 := Tryz.underlying24
 have hu31 := Tryz.underlying31
 have HB := Aside0.mk (Below.refl w.heap.size w)
 have H : (some (a0_0, a0_1, a0_2, a0_3)) = some (r1, r2, r3, r4) := h
 clear h
 simp only [Option.some.injEq, Prod.mk.injEq] at H
 obtain ⟨rfl, rfl, rfl, rfl⟩ := H
 go_enter Tryz.func28, Tryz.ntmps28
 go_wp2_with (first | ((with_reducible refine gate_dst (N := 1) rfl ?_); refine box_event ?hg (N := 1) ?hd (cs := #[.int .i64 a0_0, .int .i64 a0_1, .int .i64 a0_2, .bool a0_3]) (t := 24) ?hr ?_; (case hd => rfl); (case hg => rfl); (case hr => first | (go_simp; done) | (go_simp; rfl)); intro gb219 hg w2 hbox hb; have BK219 := Aside0.mk (hbox); have GW219 := Aside0.mk (bsz hg au33); have GE219 := Aside0.mk (bsz hg au33); replace HB := Aside0.mk (below_step au33 hb); clear hb hbox hg) | ((with_reducible refine gate_dst (N := 2) rfl ?_); refine box_event ?hg (N := 2) ?hd (cs := #[.int .i64 0, .int .i64 0, .int .i64 0, .bool false]) (t := 31) ?hr ?_; (case hd => rfl); (case hg => rfl); (case hr => first | (go_simp; done) | (go_simp; rfl)); intro gb220 hg w3 hbox hb; have BK220 := Aside0.mk (hbox); have GW220 := Aside0.mk (bsz hg au29); have GE220 := Aside0.mk (bsz hg au29); replace HB := Aside0.mk (below_step au29 hb); have NB219_220 := Aside0.mk (bne (g := gb219) hg au53); have NB220_219 := Aside0.mk (ben (g := gb219) hg au53); replace BK219 := Aside0.mk (blk_below (g := gb219) au53 hb); clear hb hbox hg) | ((with_reducible refine gate_dst (N := 3) rfl ?_); refine box_event ?hg (N := 3) ?hd (cs := #[.int .i64 0, .int .i64 0, .int .i64 0, .bool false]) (t := 31) ?hr ?_; (case hd => rfl); (case hg => rfl); (case hr => first | (go_simp; done) | (go_simp; rfl)); intro gb221 hg w4 hbox hb; have BK221 := Aside0.mk (hbox); have GW221 := Aside0.mk (bsz hg au8); have GE221 := Aside0.mk (bsz hg au8); replace HB := Aside0.mk (below_step au8 hb); have NB219_221 := Aside0.mk (bne (g := gb219) hg au53); have NB221_219 := Aside0.mk (ben (g := gb219) hg au53); replace BK219 := Aside0.mk (blk_below (g := gb219) au53 hb); have NB220_221 := Aside0.mk (bne (g := gb220) hg au54); have NB221_220 := Aside0.mk (ben (g := gb220) hg au54); replace BK220 := Aside0.mk (blk_below (g := gb220) au54 hb); clear hb hbox hg; have hnb5 := NB219_220.out; have hnc5 := NB220_219.out; have hnb6 := NB219_221.out; have hnc6 := NB221_219.out; obtain ⟨hcz7_0, hcz7_1, hcz7_2, hcz7_3, hfz7_0, hfz7_1, hfz7_2, hfz7_3⟩ := blkc4 BK219.out; have hnb8 := NB221_220.out; have hnc8 := NB220_221.out; obtain ⟨hcz9_0, hcz9_1, hcz9_2, hcz9_3, hfz9_0, hfz9_1, hfz9_2, hfz9_3⟩ := blkc4 BK221.out; obtain ⟨hcz10_0, hcz10_1, hcz10_2, hcz10_3, hfz10_0, hfz10_1, hfz10_2, hfz10_3⟩ := blkc4 BK220.out))
 refine bodyPost_ret (results_cell_row rfl _ _ gb220 31 #[.int .i64 a0_0, .int .i64 a0_1, .int .i64 a0_2, .bool a0_3] (0, 0) _ rfl (by (with_reducible repeat (first | refine blk_drewN ?_ _ | refine blk_drew ?_ | refine blk_alloc ?_ _)); refine blk_put (cs := #[.int .i64 a0_0, .int .i64 a0_1, .int .i64 a0_2, .bool false]) ?_ 3 _ rfl; (with_reducible repeat (first | refine blk_drewN ?_ _ | refine blk_drew ?_ | refine blk_alloc ?_ _)); refine blk_put (cs := #[.int .i64 a0_0, .int .i64 a0_1, .int .i64 0, .bool false]) ?_ 2 _ rfl; (with_reducible repeat (first | refine blk_drewN ?_ _ | refine blk_drew ?_ | refine blk_alloc ?_ _)); refine blk_put (cs := #[.int .i64 a0_0, .int .i64 0, .int .i64 0, .bool false]) ?_ 1 _ rfl; (with_reducible repeat (first | refine blk_drewN ?_ _ | refine blk_drew ?_ | refine blk_alloc ?_ _)); refine blk_put (cs := #[.int .i64 0, .int .i64 0, .int .i64 0, .bool false]) ?_ 0 _ rfl; (with_reducible repeat (first | refine blk_drewN ?_ _ | refine blk_drew ?_ | refine blk_alloc ?_ _)); refine blk_far ?_ NB220_221.out _; (with_reducible repeat (first | refine blk_drewN ?_ _ | refine blk_drew ?_ | refine blk_alloc ?_ _)); refine blk_far ?_ NB220_221.out _; (with_reducible repeat (first | refine blk_drewN ?_ _ | refine blk_drew ?_ | refine blk_alloc ?_ _)); refine blk_far ?_ NB220_221.out _; (with_reducible repeat (first | refine blk_drewN ?_ _ | refine blk_drew ?_ | refine blk_alloc ?_ _)); refine blk_far ?_ NB220_221.out _; (with_reducible repeat (first | refine blk_drewN ?_ _ | refine blk_drew ?_ | refine blk_alloc ?_ _)); exact BK220.out) Tryz.underlying31 rfl (by kernel_rfl)) rfl ?_
 exact ⟨by first | rfl | (simp [errW_none, errW_some] <;> rfl) | (simp [*, errW_none, errW_some] <;> rfl), by repeat (first | (with_reducible first | exact HB.out | apply below_alloc | apply pw_below_drewN | apply below_drew1 | refine below_set ?_ GE219.out | refine below_set ?_ GE220.out | refine below_set ?_ GE221.out) | exact HB.out)⟩


/-! ### laws_toEntry: function 9 -/
def laws_toEntry.f (k : Nat) (a0_0 : ByteArray) (a0_1 : Int) (l0_2 : List (S74)) (l0_3 : List (S74)) (a0_4 : ByteArray) (a0_5 : ByteArray) (a0_6 : ByteArray) (a0_7 : Int) (a0_8 : Int) (a0_9 : Int) (a0_10 : Bool) (a0_11 : Int) (a0_12 : ByteArray) (a0_13 : ByteArray) : Option (ByteArray × Int × (List (S80)) × (List (S80)) × ByteArray × ByteArray × ByteArray × Int × Int × Int × Bool × Int × ByteArray × ByteArray) := (laws_toNameS.f k l0_2).bind fun t225 => ((laws_toNameS.f k l0_3).bind fun t228 => ((laws_toDate.f a0_7 a0_8 a0_9 a0_10).bind fun bt231 => (some (a0_0, a0_1, t225, t228, a0_4, a0_5, a0_6, bt231.1, bt231.2.1, bt231.2.2.1, bt231.2.2.2, a0_11, a0_12, a0_13))))
theorem laws_toEntry.mono : ∀ a0 a1 a2 a3 a4 a5 a6 a7 a8 a9 a10 a11 a12 a13 k, LeO (laws_toEntry.f k a0 a1 a2 a3 a4 a5 a6 a7 a8 a9 a10 a11 a12 a13) (laws_toEntry.f (k + 1) a0 a1 a2 a3 a4 a5 a6 a7 a8 a9 a10 a11 a12 a13) := by
 intro a0 a1 a2 a3 a4 a5 a6 a7 a8 a9 a10 a11 a12 a13 k
 unfold laws_toEntry.f
 repeat' first
   | (with_reducible exact laws_toNameS.mono _ _)
   | (with_reducible exact LeO.refl _)
   | (with_reducible exact LeO.none _)
   | (with_reducible refine LeO.ite ?_ ?_)
   | (with_reducible refine LeO.bind ?_ (fun _ => ?_))
   | exact laws_toNameS.mono _ _
   | exact LeO.none _
   | refine LeO.ite ?_ ?_
   | refine LeO.bind ?_ (fun _ => ?_)
set_option maxHeartbeats 8000000 in
set_option maxRecDepth 100000 in
theorem laws_toEntry.calls (k : Nat) (a0_0 : ByteArray) (a0_1 : Int) (A0_2 : Option Addr) (c0_2 : Nat) (l0_2 : List (S74)) (A0_3 : Option Addr) (c0_3 : Nat) (l0_3 : List (S74)) (a0_4 : ByteArray) (a0_5 : ByteArray) (a0_6 : ByteArray) (a0_7 : Int) (a0_8 : Int) (a0_9 : Int) (a0_10 : Bool) (a0_11 : Int) (a0_12 : ByteArray) (a0_13 : ByteArray) (r1 : ByteArray) (r2 : Int) (r3 : List (S80)) (r4 : List (S80)) (r5 : ByteArray) (r6 : ByteArray) (r7 : ByteArray) (r8 : Int) (r9 : Int) (r10 : Int) (r11 : Bool) (r12 : Int) (r13 : ByteArray) (r14 : ByteArray) (w : World) (hr0_2 : Kd.C k74 w A0_2 l0_2.length l0_2) (hc0_2 : l0_2.length ≤ c0_2) (hr0_3 : Kd.C k74 w A0_3 l0_3.length l0_3) (hc0_3 : l0_3.length ≤ c0_3) (h : laws_toEntry.f k a0_0 a0_1 l0_2 l0_3 a0_4 a0_5 a0_6 a0_7 a0_8 a0_9 a0_10 a0_11 a0_12 a0_13 = some (r1, r2, r3, r4, r5, r6, r7, r8, r9, r10, r11, r12, r13, r14)) :
  Calls Tryz.prog 9 #[.agg #[.string a0_0, .int .i64 a0_1, .slice A0_2 l0_2.length c0_2, .slice A0_3 l0_3.length c0_3, .string a0_4, .string a0_5, .string a0_6, .int .i64 a0_7, .int .i64 a0_8, .int .i64 a0_9, .bool a0_10, .int .i64 a0_11, .string a0_12, .string a0_13]] w fun e w' => ∃ v2_ v3_ : Value, e = .returned (.agg #[.string r1, .int .i64 r2, v2_, v3_, .string r5, .string r6, .string r7, .int .i64 r8, .int .i64 r9, .int .i64 r10, .bool r11, .int .i64 r12, .string r13, .string r14]) ∧ Kd.S k80 80 w' w.heap.size (fun k_ => some k_ ≠ (v3_ : Value).ownBlock) v2_ r3 ∧ Kd.S k80 80 w' w.heap.size (fun k_ => some k_ ≠ (v2_ : Value).ownBlock) v3_ r4 ∧ Below w.heap.size w w' := by
 have hu26 := Tryz.underlying26
 have hu33 := Tryz.underlying33
 have hu24 := Tryz.underlying24
 have hu31 := Tryz.underlying31
 have HR0_2 := Aside0.mk hr0_2
 have HC0_2 := Aside0.mk hc0_2
 clear hr0_2 hc0_2
 have HR0_3 := Aside0.mk hr0_3
 have HC0_3 := Aside0.mk hc0_3
 clear hr0_3 hc0_3
 have HB := Aside0.mk (Below.refl w.heap.size w)
 have H : ((laws_toNameS.f k l0_2).bind fun t225 => ((laws_toNameS.f k l0_3).bind fun t228 => ((laws_toDate.f a0_7 a0_8 a0_9 a0_10).bind fun bt231 => (some (a0_0, a0_1, t225, t228, a0_4, a0_5, a0_6, bt231.1, bt231.2.1, bt231.2.2.1, bt231.2.2.2, a0_11, a0_12, a0_13))))) = some (r1, r2, r3, r4, r5, r6, r7, r8, r9, r10, r11, r12, r13, r14) := h
 clear h
 replace H := Option.bind_eq_some_iff.mp H
 obtain ⟨t225, A20, H⟩ := H
 try dsimp only at H
 have A2 := Aside0.mk A20
 clear A20
 replace H := Option.bind_eq_some_iff.mp H
 obtain ⟨t228, A30, H⟩ := H
 try dsimp only at H
 have A3 := Aside0.mk A30
 clear A30
 replace H := Option.bind_eq_some_iff.mp H
 obtain ⟨⟨t231, t232, t233, t234⟩, A40, H⟩ := H
 replace H : (some (a0_0, a0_1, t225, t228, a0_4, a0_5, a0_6, t231, t232, t233, t234, a0_11, a0_12, a0_13)) = some (r1, r2, r3, r4, r5, r6, r7, r8, r9, r10, r11, r12, r13, r14) := H
 have A4 := Aside0.mk A40
 clear A40
 simp only [Option.some.injEq, Prod.mk.injEq] at H
 obtain ⟨rfl, rfl, rfl, rfl, rfl, rfl, rfl, rfl, rfl, rfl, rfl, rfl, rfl, rfl⟩ := H
 go_enter Tryz.func9, Tryz.ntmps9
 go_wp2_with (first | ((with_reducible refine gate_dst (N := 1) rfl ?_); refine box_event ?hg (N := 1) ?hd (cs := #[.string a0_0, .int .i64 a0_1, .slice A0_2 l0_2.length c0_2, .slice A0_3 l0_3.length c0_3, .string a0_4, .string a0_5, .string a0_6, .int .i64 a0_7, .int .i64 a0_8, .int .i64 a0_9, .bool a0_10, .int .i64 a0_11, .string a0_12, .string a0_13]) (t := 26) ?hr ?_; (case hd => rfl); (case hg => rfl); (case hr => first | (go_simp; done) | (go_simp; rfl)); intro gb222 hg w5 hbox hb; have BK222 := Aside0.mk (hbox); have GW222 := Aside0.mk (bsz hg au33); have GE222 := Aside0.mk (bsz hg au33); replace HB := Aside0.mk (below_step au33 hb); clear hb hbox hg) | ((with_reducible refine gate_dst (N := 2) rfl ?_); refine box_event ?hg (N := 2) ?hd (cs := #[.string (⟨#[]⟩ : ByteArray), .int .i64 0, .slice none 0 0, .slice none 0 0, .string (⟨#[]⟩ : ByteArray), .string (⟨#[]⟩ : ByteArray), .string (⟨#[]⟩ : ByteArray), .int .i64 0, .int .i64 0, .int .i64 0, .bool false, .int .i64 0, .string (⟨#[]⟩ : ByteArray), .string (⟨#[]⟩ : ByteArray)]) (t := 33) ?hr ?_; (case hd => rfl); (case hg => rfl); (case hr => first | (go_simp; done) | (go_simp; rfl)); intro gb223 hg w6 hbox hb; have BK223 := Aside0.mk (hbox); have GW223 := Aside0.mk (bsz hg au30); have GE223 := Aside0.mk (bsz hg au30); replace HB := Aside0.mk (below_step au30 hb); have NB222_223 := Aside0.mk (bne (g := gb222) hg au55); have NB223_222 := Aside0.mk (ben (g := gb222) hg au55); replace BK222 := Aside0.mk (blk_below (g := gb222) au55 hb); clear hb hbox hg) | ((with_reducible refine gate_dst (N := 3) rfl ?_); refine box_event ?hg (N := 3) ?hd (cs := #[.string (⟨#[]⟩ : ByteArray), .int .i64 0, .slice none 0 0, .slice none 0 0, .string (⟨#[]⟩ : ByteArray), .string (⟨#[]⟩ : ByteArray), .string (⟨#[]⟩ : ByteArray), .int .i64 0, .int .i64 0, .int .i64 0, .bool false, .int .i64 0, .string (⟨#[]⟩ : ByteArray), .string (⟨#[]⟩ : ByteArray)]) (t := 33) ?hr ?_; (case hd => rfl); (case hg => rfl); (case hr => first | (go_simp; done) | (go_simp; rfl)); intro gb224 hg w7 hbox hb; have BK224 := Aside0.mk (hbox); have GW224 := Aside0.mk (bsz hg au9); have GE224 := Aside0.mk (bsz hg au9); replace HB := Aside0.mk (below_step au9 hb); have NB222_224 := Aside0.mk (bne (g := gb222) hg au55); have NB224_222 := Aside0.mk (ben (g := gb222) hg au55); replace BK222 := Aside0.mk (blk_below (g := gb222) au55 hb); have NB223_224 := Aside0.mk (bne (g := gb223) hg au56); have NB224_223 := Aside0.mk (ben (g := gb223) hg au56); replace BK223 := Aside0.mk (blk_below (g := gb223) au56 hb); clear hb hbox hg; have hnb8 := NB222_223.out; have hnc8 := NB223_222.out; have hnb9 := NB222_224.out; have hnc9 := NB224_222.out; obtain ⟨hcz10_0, hcz10_1, hcz10_2, hcz10_3, hcz10_4, hcz10_5, hcz10_6, hcz10_7, hcz10_8, hcz10_9, hcz10_10, hcz10_11, hcz10_12, hcz10_13, hfz10_0, hfz10_1, hfz10_2, hfz10_3, hfz10_4, hfz10_5, hfz10_6, hfz10_7, hfz10_8, hfz10_9, hfz10_10, hfz10_11, hfz10_12, hfz10_13⟩ := blkc14 BK222.out; have hnb11 := NB224_223.out; have hnc11 := NB223_224.out; obtain ⟨hcz12_0, hcz12_1, hcz12_2, hcz12_3, hcz12_4, hcz12_5, hcz12_6, hcz12_7, hcz12_8, hcz12_9, hcz12_10, hcz12_11, hcz12_12, hcz12_13, hfz12_0, hfz12_1, hfz12_2, hfz12_3, hfz12_4, hfz12_5, hfz12_6, hfz12_7, hfz12_8, hfz12_9, hfz12_10, hfz12_11, hfz12_12, hfz12_13⟩ := blkc14 BK224.out) | ((with_reducible refine gate_callee (f := 27) rfl ?_); refine goesL_ (some 12) rfl rfl Tryz.func27 (by kernel_rfl) rfl #[.slice A0_2 l0_2.length c0_2] rfl au32 ?_; (with_reducible refine (laws_toNameS.calls k _ _ l0_2 t225 _ ?side1 ?side2 A2.out).mono ?_); (case side1 => exact Kd.C_below HR0_2.out au5); (case side2 => exact HC0_2.out); rintro e w13 ⟨v226, rfl, ho0, hb⟩; refine ⟨_, rfl, ?_⟩; have HO227 := Aside0.mk (Kd.S_lower ho0 (below_size au5)); replace BK222 := Aside0.mk (blk_below (g := gb222) (o := .cells #[.string a0_0, .int .i64 a0_1, .slice A0_2 l0_2.length c0_2, .slice A0_3 l0_3.length c0_3, .string a0_4, .string a0_5, .string a0_6, .int .i64 a0_7, .int .i64 a0_8, .int .i64 a0_9, .bool a0_10, .int .i64 a0_11, .string a0_12, .string a0_13] 26 (0, 0)) (by (with_reducible repeat (first | refine blk_drewN ?_ _ | refine blk_drew ?_ | refine blk_alloc ?_ _)); refine blk_far ?_ NB222_224.out _; (with_reducible repeat (first | refine blk_drewN ?_ _ | refine blk_drew ?_ | refine blk_alloc ?_ _)); refine blk_far ?_ NB222_224.out _; (with_reducible repeat (first | refine blk_drewN ?_ _ | refine blk_drew ?_ | refine blk_alloc ?_ _)); exact BK222.out) hb); replace BK223 := Aside0.mk (blk_below (g := gb223) (o := .cells #[.string (⟨#[]⟩ : ByteArray), .int .i64 0, .slice none 0 0, .slice none 0 0, .string (⟨#[]⟩ : ByteArray), .string (⟨#[]⟩ : ByteArray), .string (⟨#[]⟩ : ByteArray), .int .i64 0, .int .i64 0, .int .i64 0, .bool false, .int .i64 0, .string (⟨#[]⟩ : ByteArray), .string (⟨#[]⟩ : ByteArray)] 33 (0, 0)) (by (with_reducible repeat (first | refine blk_drewN ?_ _ | refine blk_drew ?_ | refine blk_alloc ?_ _)); refine blk_far ?_ NB223_224.out _; (with_reducible repeat (first | refine blk_drewN ?_ _ | refine blk_drew ?_ | refine blk_alloc ?_ _)); refine blk_far ?_ NB223_224.out _; (with_reducible repeat (first | refine blk_drewN ?_ _ | refine blk_drew ?_ | refine blk_alloc ?_ _)); exact BK223.out) hb); replace BK224 := Aside0.mk (blk_below (g := gb224) (o := .cells #[.string a0_0, .int .i64 a0_1, .slice none 0 0, .slice none 0 0, .string (⟨#[]⟩ : ByteArray), .string (⟨#[]⟩ : ByteArray), .string (⟨#[]⟩ : ByteArray), .int .i64 0, .int .i64 0, .int .i64 0, .bool false, .int .i64 0, .string (⟨#[]⟩ : ByteArray), .string (⟨#[]⟩ : ByteArray)] 33 (0, 0)) (by (with_reducible repeat (first | refine blk_drewN ?_ _ | refine blk_drew ?_ | refine blk_alloc ?_ _)); refine blk_put (cs := #[.string a0_0, .int .i64 0, .slice none 0 0, .slice none 0 0, .string (⟨#[]⟩ : ByteArray), .string (⟨#[]⟩ : ByteArray), .string (⟨#[]⟩ : ByteArray), .int .i64 0, .int .i64 0, .int .i64 0, .bool false, .int .i64 0, .string (⟨#[]⟩ : ByteArray), .string (⟨#[]⟩ : ByteArray)]) ?_ 1 _ rfl; (with_reducible repeat (first | refine blk_drewN ?_ _ | refine blk_drew ?_ | refine blk_alloc ?_ _)); refine blk_put (cs := #[.string (⟨#[]⟩ : ByteArray), .int .i64 0, .slice none 0 0, .slice none 0 0, .string (⟨#[]⟩ : ByteArray), .string (⟨#[]⟩ : ByteArray), .string (⟨#[]⟩ : ByteArray), .int .i64 0, .int .i64 0, .int .i64 0, .bool false, .int .i64 0, .string (⟨#[]⟩ : ByteArray), .string (⟨#[]⟩ : ByteArray)]) ?_ 0 _ rfl; (with_reducible repeat (first | refine blk_drewN ?_ _ | refine blk_drew ?_ | refine blk_alloc ?_ _)); exact BK224.out) hb); replace HB := Aside0.mk (below_step au5 hb); (try clear hb); (try clear ho0); obtain ⟨Ao14, co14, eo14⟩ := Kd.S_slice HO227.out; subst eo14; obtain ⟨hcz15_0, hcz15_1, hcz15_2, hcz15_3, hcz15_4, hcz15_5, hcz15_6, hcz15_7, hcz15_8, hcz15_9, hcz15_10, hcz15_11, hcz15_12, hcz15_13, hfz15_0, hfz15_1, hfz15_2, hfz15_3, hfz15_4, hfz15_5, hfz15_6, hfz15_7, hfz15_8, hfz15_9, hfz15_10, hfz15_11, hfz15_12, hfz15_13⟩ := blkc14 BK224.out; obtain ⟨hcz16_0, hcz16_1, hcz16_2, hcz16_3, hcz16_4, hcz16_5, hcz16_6, hcz16_7, hcz16_8, hcz16_9, hcz16_10, hcz16_11, hcz16_12, hcz16_13, hfz16_0, hfz16_1, hfz16_2, hfz16_3, hfz16_4, hfz16_5, hfz16_6, hfz16_7, hfz16_8, hfz16_9, hfz16_10, hfz16_11, hfz16_12, hfz16_13⟩ := blkc14 BK222.out) | ((with_reducible refine gate_callee (f := 27) rfl ?_); refine goesL_ (some 16) rfl rfl Tryz.func27 (by kernel_rfl) rfl #[.slice A0_3 l0_3.length c0_3] rfl au32 ?_; (with_reducible refine (laws_toNameS.calls k _ _ l0_3 t228 _ ?side1 ?side2 A3.out).mono ?_); (case side1 => exact Kd.C_below HR0_3.out au5); (case side2 => exact HC0_3.out); rintro e w17 ⟨v229, rfl, ho0, hb⟩; refine ⟨_, rfl, ?_⟩; have HO230 := Aside0.mk (Kd.S_lower (Kd.S_new' ho0 (Kd.S_lt au3)) (below_size au5)); replace HO227 := Aside0.mk (Kd.S_elder' au3 (Kd.S_base ho0) hb); replace BK222 := Aside0.mk (blk_below (g := gb222) (o := .cells #[.string a0_0, .int .i64 a0_1, .slice A0_2 l0_2.length c0_2, .slice A0_3 l0_3.length c0_3, .string a0_4, .string a0_5, .string a0_6, .int .i64 a0_7, .int .i64 a0_8, .int .i64 a0_9, .bool a0_10, .int .i64 a0_11, .string a0_12, .string a0_13] 26 (0, 0)) (by (with_reducible repeat (first | refine blk_drewN ?_ _ | refine blk_drew ?_ | refine blk_alloc ?_ _)); refine blk_far ?_ NB222_224.out _; (with_reducible repeat (first | refine blk_drewN ?_ _ | refine blk_drew ?_ | refine blk_alloc ?_ _)); exact BK222.out) hb); replace BK223 := Aside0.mk (blk_below (g := gb223) (o := .cells #[.string (⟨#[]⟩ : ByteArray), .int .i64 0, .slice none 0 0, .slice none 0 0, .string (⟨#[]⟩ : ByteArray), .string (⟨#[]⟩ : ByteArray), .string (⟨#[]⟩ : ByteArray), .int .i64 0, .int .i64 0, .int .i64 0, .bool false, .int .i64 0, .string (⟨#[]⟩ : ByteArray), .string (⟨#[]⟩ : ByteArray)] 33 (0, 0)) (by (with_reducible repeat (first | refine blk_drewN ?_ _ | refine blk_drew ?_ | refine blk_alloc ?_ _)); refine blk_far ?_ NB223_224.out _; (with_reducible repeat (first | refine blk_drewN ?_ _ | refine blk_drew ?_ | refine blk_alloc ?_ _)); exact BK223.out) hb); replace BK224 := Aside0.mk (blk_below (g := gb224) (o := .cells #[.string a0_0, .int .i64 a0_1, .slice Ao14 t225.length co14, .slice none 0 0, .string (⟨#[]⟩ : ByteArray), .string (⟨#[]⟩ : ByteArray), .string (⟨#[]⟩ : ByteArray), .int .i64 0, .int .i64 0, .int .i64 0, .bool false, .int .i64 0, .string (⟨#[]⟩ : ByteArray), .string (⟨#[]⟩ : ByteArray)] 33 (0, 0)) (by (with_reducible repeat (first | refine blk_drewN ?_ _ | refine blk_drew ?_ | refine blk_alloc ?_ _)); refine blk_put (cs := #[.string a0_0, .int .i64 a0_1, .slice none 0 0, .slice none 0 0, .string (⟨#[]⟩ : ByteArray), .string (⟨#[]⟩ : ByteArray), .string (⟨#[]⟩ : ByteArray), .int .i64 0, .int .i64 0, .int .i64 0, .bool false, .int .i64 0, .string (⟨#[]⟩ : ByteArray), .string (⟨#[]⟩ : ByteArray)]) ?_ 2 _ rfl; (with_reducible repeat (first | refine blk_drewN ?_ _ | refine blk_drew ?_ | refine blk_alloc ?_ _)); exact BK224.out) hb); replace HB := Aside0.mk (below_step au5 hb); (try clear hb); (try clear ho0); obtain ⟨Ao18, co18, eo18⟩ := Kd.S_slice HO230.out; subst eo18; obtain ⟨hcz19_0, hcz19_1, hcz19_2, hcz19_3, hcz19_4, hcz19_5, hcz19_6, hcz19_7, hcz19_8, hcz19_9, hcz19_10, hcz19_11, hcz19_12, hcz19_13, hfz19_0, hfz19_1, hfz19_2, hfz19_3, hfz19_4, hfz19_5, hfz19_6, hfz19_7, hfz19_8, hfz19_9, hfz19_10, hfz19_11, hfz19_12, hfz19_13⟩ := blkc14 BK224.out; obtain ⟨hcz20_0, hcz20_1, hcz20_2, hcz20_3, hcz20_4, hcz20_5, hcz20_6, hcz20_7, hcz20_8, hcz20_9, hcz20_10, hcz20_11, hcz20_12, hcz20_13, hfz20_0, hfz20_1, hfz20_2, hfz20_3, hfz20_4, hfz20_5, hfz20_6, hfz20_7, hfz20_8, hfz20_9, hfz20_10, hfz20_11, hfz20_12, hfz20_13⟩ := blkc14 BK222.out) | ((with_reducible refine gate_callee (f := 28) rfl ?_); refine goesL_ (some 29) rfl rfl Tryz.func28 (by kernel_rfl) rfl #[.agg #[.int .i64 a0_7, .int .i64 a0_8, .int .i64 a0_9, .bool a0_10]] rfl au32 ?_; (with_reducible refine (laws_toDate.calls a0_7 a0_8 a0_9 a0_10 t231 t232 t233 t234 _ A4.out).mono ?_); rintro e w21 ⟨rfl, hb⟩; refine ⟨_, rfl, ?_⟩; replace HO227 := Aside0.mk (Kd.S_below (by (with_reducible repeat (first | apply Kd.S_alloc | apply Kd.S_drewN | apply Kd.S_drew)); exact (Kd.S_mono (Kd.S_far (p := ⟨gb224, 6, none⟩) (Kd.S_far (p := ⟨gb224, 5, none⟩) (Kd.S_far (p := ⟨gb224, 4, none⟩) (Kd.S_far (p := ⟨gb224, 3, none⟩) (Kd.S_types HO227.out BK224.out (by decide)) (fun _ hk => hk.2) (.slice Ao18 t228.length co18)) (fun _ hk => hk.2) (.string a0_4)) (fun _ hk => hk.2) (.string a0_5)) (fun _ hk => hk.2) (.string a0_6)) (fun _ h_ => h_.1))) hb); replace HO230 := Aside0.mk (Kd.S_below (by (with_reducible repeat (first | apply Kd.S_alloc | apply Kd.S_drewN | apply Kd.S_drew)); exact (Kd.S_mono (Kd.S_far (p := ⟨gb224, 6, none⟩) (Kd.S_far (p := ⟨gb224, 5, none⟩) (Kd.S_far (p := ⟨gb224, 4, none⟩) (Kd.S_far (p := ⟨gb224, 3, none⟩) (Kd.S_types HO230.out BK224.out (by decide)) (fun _ hk => hk.2) (.slice Ao18 t228.length co18)) (fun _ hk => hk.2) (.string a0_4)) (fun _ hk => hk.2) (.string a0_5)) (fun _ hk => hk.2) (.string a0_6)) (fun _ h_ => h_.1))) hb); replace BK222 := Aside0.mk (blk_below (g := gb222) (o := .cells #[.string a0_0, .int .i64 a0_1, .slice A0_2 l0_2.length c0_2, .slice A0_3 l0_3.length c0_3, .string a0_4, .string a0_5, .string a0_6, .int .i64 a0_7, .int .i64 a0_8, .int .i64 a0_9, .bool a0_10, .int .i64 a0_11, .string a0_12, .string a0_13] 26 (0, 0)) (by (with_reducible repeat (first | refine blk_drewN ?_ _ | refine blk_drew ?_ | refine blk_alloc ?_ _)); refine blk_far ?_ NB222_224.out _; (with_reducible repeat (first | refine blk_drewN ?_ _ | refine blk_drew ?_ | refine blk_alloc ?_ _)); refine blk_far ?_ NB222_224.out _; (with_reducible repeat (first | refine blk_drewN ?_ _ | refine blk_drew ?_ | refine blk_alloc ?_ _)); refine blk_far ?_ NB222_224.out _; (with_reducible repeat (first | refine blk_drewN ?_ _ | refine blk_drew ?_ | refine blk_alloc ?_ _)); refine blk_far ?_ NB222_224.out _; (with_reducible repeat (first | refine blk_drewN ?_ _ | refine blk_drew ?_ | refine blk_alloc ?_ _)); exact BK222.out) hb); replace BK223 := Aside0.mk (blk_below (g := gb223) (o := .cells #[.string (⟨#[]⟩ : ByteArray), .int .i64 0, .slice none 0 0, .slice none 0 0, .string (⟨#[]⟩ : ByteArray), .string (⟨#[]⟩ : ByteArray), .string (⟨#[]⟩ : ByteArray), .int .i64 0, .int .i64 0, .int .i64 0, .bool false, .int .i64 0, .string (⟨#[]⟩ : ByteArray), .string (⟨#[]⟩ : ByteArray)] 33 (0, 0)) (by (with_reducible repeat (first | refine blk_drewN ?_ _ | refine blk_drew ?_ | refine blk_alloc ?_ _)); refine blk_far ?_ NB223_224.out _; (with_reducible repeat (first | refine blk_drewN ?_ _ | refine blk_drew ?_ | refine blk_alloc ?_ _)); refine blk_far ?_ NB223_224.out _; (with_reducible repeat (first | refine blk_drewN ?_ _ | refine blk_drew ?_ | refine blk_alloc ?_ _)); refine blk_far ?_ NB223_224.out _; (with_reducible repeat (first | refine blk_drewN ?_ _ | refine blk_drew ?_ | refine blk_alloc ?_ _)); refine blk_far ?_ NB223_224.out _; (with_reducible repeat (first | refine blk_drewN ?_ _ | refine blk_drew ?_ | refine blk_alloc ?_ _)); exact BK223.out) hb); replace BK224 := Aside0.mk (blk_below (g := gb224) (o := .cells #[.string a0_0, .int .i64 a0_1, .slice Ao14 t225.length co14, .slice Ao18 t228.length co18, .string a0_4, .string a0_5, .string a0_6, .int .i64 0, .int .i64 0, .int .i64 0, .bool false, .int .i64 0, .string (⟨#[]⟩ : ByteArray), .string (⟨#[]⟩ : ByteArray)] 33 (0, 0)) (by (with_reducible repeat (first | refine blk_drewN ?_ _ | refine blk_drew ?_ | refine blk_alloc ?_ _)); refine blk_put (cs := #[.string a0_0, .int .i64 a0_1, .slice Ao14 t225.length co14, .slice Ao18 t228.length co18, .string a0_4, .string a0_5, .string (⟨#[]⟩ : ByteArray), .int .i64 0, .int .i64 0, .int .i64 0, .bool false, .int .i64 0, .string (⟨#[]⟩ : ByteArray), .string (⟨#[]⟩ : ByteArray)]) ?_ 6 _ rfl; (with_reducible repeat (first | refine blk_drewN ?_ _ | refine blk_drew ?_ | refine blk_alloc ?_ _)); refine blk_put (cs := #[.string a0_0, .int .i64 a0_1, .slice Ao14 t225.length co14, .slice Ao18 t228.length co18, .string a0_4, .string (⟨#[]⟩ : ByteArray), .string (⟨#[]⟩ : ByteArray), .int .i64 0, .int .i64 0, .int .i64 0, .bool false, .int .i64 0, .string (⟨#[]⟩ : ByteArray), .string (⟨#[]⟩ : ByteArray)]) ?_ 5 _ rfl; (with_reducible repeat (first | refine blk_drewN ?_ _ | refine blk_drew ?_ | refine blk_alloc ?_ _)); refine blk_put (cs := #[.string a0_0, .int .i64 a0_1, .slice Ao14 t225.length co14, .slice Ao18 t228.length co18, .string (⟨#[]⟩ : ByteArray), .string (⟨#[]⟩ : ByteArray), .string (⟨#[]⟩ : ByteArray), .int .i64 0, .int .i64 0, .int .i64 0, .bool false, .int .i64 0, .string (⟨#[]⟩ : ByteArray), .string (⟨#[]⟩ : ByteArray)]) ?_ 4 _ rfl; (with_reducible repeat (first | refine blk_drewN ?_ _ | refine blk_drew ?_ | refine blk_alloc ?_ _)); refine blk_put (cs := #[.string a0_0, .int .i64 a0_1, .slice Ao14 t225.length co14, .slice none 0 0, .string (⟨#[]⟩ : ByteArray), .string (⟨#[]⟩ : ByteArray), .string (⟨#[]⟩ : ByteArray), .int .i64 0, .int .i64 0, .int .i64 0, .bool false, .int .i64 0, .string (⟨#[]⟩ : ByteArray), .string (⟨#[]⟩ : ByteArray)]) ?_ 3 _ rfl; (with_reducible repeat (first | refine blk_drewN ?_ _ | refine blk_drew ?_ | refine blk_alloc ?_ _)); exact BK224.out) hb); replace HB := Aside0.mk (below_step au5 hb); (try clear hb); obtain ⟨hcz22_0, hcz22_1, hcz22_2, hcz22_3, hcz22_4, hcz22_5, hcz22_6, hcz22_7, hcz22_8, hcz22_9, hcz22_10, hcz22_11, hcz22_12, hcz22_13, hfz22_0, hfz22_1, hfz22_2, hfz22_3, hfz22_4, hfz22_5, hfz22_6, hfz22_7, hfz22_8, hfz22_9, hfz22_10, hfz22_11, hfz22_12, hfz22_13⟩ := blkc14 BK224.out; obtain ⟨hcz23_0, hcz23_1, hcz23_2, hcz23_3, hcz23_4, hcz23_5, hcz23_6, hcz23_7, hcz23_8, hcz23_9, hcz23_10, hcz23_11, hcz23_12, hcz23_13, hfz23_0, hfz23_1, hfz23_2, hfz23_3, hfz23_4, hfz23_5, hfz23_6, hfz23_7, hfz23_8, hfz23_9, hfz23_10, hfz23_11, hfz23_12, hfz23_13⟩ := blkc14 BK222.out; obtain ⟨hcz24_0, hcz24_1, hcz24_2, hcz24_3, hcz24_4, hcz24_5, hcz24_6, hcz24_7, hcz24_8, hcz24_9, hcz24_10, hcz24_11, hcz24_12, hcz24_13, hfz24_0, hfz24_1, hfz24_2, hfz24_3, hfz24_4, hfz24_5, hfz24_6, hfz24_7, hfz24_8, hfz24_9, hfz24_10, hfz24_11, hfz24_12, hfz24_13⟩ := blkc14 BK223.out))
 refine bodyPost_ret (results_cell_row rfl _ _ gb223 33 #[.string a0_0, .int .i64 a0_1, .slice Ao14 t225.length co14, .slice Ao18 t228.length co18, .string a0_4, .string a0_5, .string a0_6, .int .i64 t231, .int .i64 t232, .int .i64 t233, .bool t234, .int .i64 a0_11, .string a0_12, .string a0_13] (0, 0) _ rfl (by (with_reducible repeat (first | refine blk_drewN ?_ _ | refine blk_drew ?_ | refine blk_alloc ?_ _)); refine blk_put (cs := #[.string a0_0, .int .i64 a0_1, .slice Ao14 t225.length co14, .slice Ao18 t228.length co18, .string a0_4, .string a0_5, .string a0_6, .int .i64 t231, .int .i64 t232, .int .i64 t233, .bool t234, .int .i64 a0_11, .string a0_12, .string (⟨#[]⟩ : ByteArray)]) ?_ 13 _ rfl; (with_reducible repeat (first | refine blk_drewN ?_ _ | refine blk_drew ?_ | refine blk_alloc ?_ _)); refine blk_put (cs := #[.string a0_0, .int .i64 a0_1, .slice Ao14 t225.length co14, .slice Ao18 t228.length co18, .string a0_4, .string a0_5, .string a0_6, .int .i64 t231, .int .i64 t232, .int .i64 t233, .bool t234, .int .i64 a0_11, .string (⟨#[]⟩ : ByteArray), .string (⟨#[]⟩ : ByteArray)]) ?_ 12 _ rfl; (with_reducible repeat (first | refine blk_drewN ?_ _ | refine blk_drew ?_ | refine blk_alloc ?_ _)); refine blk_put (cs := #[.string a0_0, .int .i64 a0_1, .slice Ao14 t225.length co14, .slice Ao18 t228.length co18, .string a0_4, .string a0_5, .string a0_6, .int .i64 t231, .int .i64 t232, .int .i64 t233, .bool t234, .int .i64 0, .string (⟨#[]⟩ : ByteArray), .string (⟨#[]⟩ : ByteArray)]) ?_ 11 _ rfl; (with_reducible repeat (first | refine blk_drewN ?_ _ | refine blk_drew ?_ | refine blk_alloc ?_ _)); refine blk_put (cs := #[.string a0_0, .int .i64 a0_1, .slice Ao14 t225.length co14, .slice Ao18 t228.length co18, .string a0_4, .string a0_5, .string a0_6, .int .i64 t231, .int .i64 t232, .int .i64 t233, .bool false, .int .i64 0, .string (⟨#[]⟩ : ByteArray), .string (⟨#[]⟩ : ByteArray)]) ?_ 10 _ rfl; (with_reducible repeat (first | refine blk_drewN ?_ _ | refine blk_drew ?_ | refine blk_alloc ?_ _)); refine blk_put (cs := #[.string a0_0, .int .i64 a0_1, .slice Ao14 t225.length co14, .slice Ao18 t228.length co18, .string a0_4, .string a0_5, .string a0_6, .int .i64 t231, .int .i64 t232, .int .i64 0, .bool false, .int .i64 0, .string (⟨#[]⟩ : ByteArray), .string (⟨#[]⟩ : ByteArray)]) ?_ 9 _ rfl; (with_reducible repeat (first | refine blk_drewN ?_ _ | refine blk_drew ?_ | refine blk_alloc ?_ _)); refine blk_put (cs := #[.string a0_0, .int .i64 a0_1, .slice Ao14 t225.length co14, .slice Ao18 t228.length co18, .string a0_4, .string a0_5, .string a0_6, .int .i64 t231, .int .i64 0, .int .i64 0, .bool false, .int .i64 0, .string (⟨#[]⟩ : ByteArray), .string (⟨#[]⟩ : ByteArray)]) ?_ 8 _ rfl; (with_reducible repeat (first | refine blk_drewN ?_ _ | refine blk_drew ?_ | refine blk_alloc ?_ _)); refine blk_put (cs := #[.string a0_0, .int .i64 a0_1, .slice Ao14 t225.length co14, .slice Ao18 t228.length co18, .string a0_4, .string a0_5, .string a0_6, .int .i64 0, .int .i64 0, .int .i64 0, .bool false, .int .i64 0, .string (⟨#[]⟩ : ByteArray), .string (⟨#[]⟩ : ByteArray)]) ?_ 7 _ rfl; (with_reducible repeat (first | refine blk_drewN ?_ _ | refine blk_drew ?_ | refine blk_alloc ?_ _)); refine blk_put (cs := #[.string a0_0, .int .i64 a0_1, .slice Ao14 t225.length co14, .slice Ao18 t228.length co18, .string a0_4, .string a0_5, .string (⟨#[]⟩ : ByteArray), .int .i64 0, .int .i64 0, .int .i64 0, .bool false, .int .i64 0, .string (⟨#[]⟩ : ByteArray), .string (⟨#[]⟩ : ByteArray)]) ?_ 6 _ rfl; (with_reducible repeat (first | refine blk_drewN ?_ _ | refine blk_drew ?_ | refine blk_alloc ?_ _)); refine blk_put (cs := #[.string a0_0, .int .i64 a0_1, .slice Ao14 t225.length co14, .slice Ao18 t228.length co18, .string a0_4, .string (⟨#[]⟩ : ByteArray), .string (⟨#[]⟩ : ByteArray), .int .i64 0, .int .i64 0, .int .i64 0, .bool false, .int .i64 0, .string (⟨#[]⟩ : ByteArray), .string (⟨#[]⟩ : ByteArray)]) ?_ 5 _ rfl; (with_reducible repeat (first | refine blk_drewN ?_ _ | refine blk_drew ?_ | refine blk_alloc ?_ _)); refine blk_put (cs := #[.string a0_0, .int .i64 a0_1, .slice Ao14 t225.length co14, .slice Ao18 t228.length co18, .string (⟨#[]⟩ : ByteArray), .string (⟨#[]⟩ : ByteArray), .string (⟨#[]⟩ : ByteArray), .int .i64 0, .int .i64 0, .int .i64 0, .bool false, .int .i64 0, .string (⟨#[]⟩ : ByteArray), .string (⟨#[]⟩ : ByteArray)]) ?_ 4 _ rfl; (with_reducible repeat (first | refine blk_drewN ?_ _ | refine blk_drew ?_ | refine blk_alloc ?_ _)); refine blk_put (cs := #[.string a0_0, .int .i64 a0_1, .slice Ao14 t225.length co14, .slice none 0 0, .string (⟨#[]⟩ : ByteArray), .string (⟨#[]⟩ : ByteArray), .string (⟨#[]⟩ : ByteArray), .int .i64 0, .int .i64 0, .int .i64 0, .bool false, .int .i64 0, .string (⟨#[]⟩ : ByteArray), .string (⟨#[]⟩ : ByteArray)]) ?_ 3 _ rfl; (with_reducible repeat (first | refine blk_drewN ?_ _ | refine blk_drew ?_ | refine blk_alloc ?_ _)); refine blk_put (cs := #[.string a0_0, .int .i64 a0_1, .slice none 0 0, .slice none 0 0, .string (⟨#[]⟩ : ByteArray), .string (⟨#[]⟩ : ByteArray), .string (⟨#[]⟩ : ByteArray), .int .i64 0, .int .i64 0, .int .i64 0, .bool false, .int .i64 0, .string (⟨#[]⟩ : ByteArray), .string (⟨#[]⟩ : ByteArray)]) ?_ 2 _ rfl; (with_reducible repeat (first | refine blk_drewN ?_ _ | refine blk_drew ?_ | refine blk_alloc ?_ _)); refine blk_put (cs := #[.string a0_0, .int .i64 0, .slice none 0 0, .slice none 0 0, .string (⟨#[]⟩ : ByteArray), .string (⟨#[]⟩ : ByteArray), .string (⟨#[]⟩ : ByteArray), .int .i64 0, .int .i64 0, .int .i64 0, .bool false, .int .i64 0, .string (⟨#[]⟩ : ByteArray), .string (⟨#[]⟩ : ByteArray)]) ?_ 1 _ rfl; (with_reducible repeat (first | refine blk_drewN ?_ _ | refine blk_drew ?_ | refine blk_alloc ?_ _)); refine blk_put (cs := #[.string (⟨#[]⟩ : ByteArray), .int .i64 0, .slice none 0 0, .slice none 0 0, .string (⟨#[]⟩ : ByteArray), .string (⟨#[]⟩ : ByteArray), .string (⟨#[]⟩ : ByteArray), .int .i64 0, .int .i64 0, .int .i64 0, .bool false, .int .i64 0, .string (⟨#[]⟩ : ByteArray), .string (⟨#[]⟩ : ByteArray)]) ?_ 0 _ rfl; (with_reducible repeat (first | refine blk_drewN ?_ _ | refine blk_drew ?_ | refine blk_alloc ?_ _)); refine blk_far ?_ NB223_224.out _; (with_reducible repeat (first | refine blk_drewN ?_ _ | refine blk_drew ?_ | refine blk_alloc ?_ _)); refine blk_far ?_ NB223_224.out _; (with_reducible repeat (first | refine blk_drewN ?_ _ | refine blk_drew ?_ | refine blk_alloc ?_ _)); refine blk_far ?_ NB223_224.out _; (with_reducible repeat (first | refine blk_drewN ?_ _ | refine blk_drew ?_ | refine blk_alloc ?_ _)); refine blk_far ?_ NB223_224.out _; (with_reducible repeat (first | refine blk_drewN ?_ _ | refine blk_drew ?_ | refine blk_alloc ?_ _)); refine blk_far ?_ NB223_224.out _; (with_reducible repeat (first | refine blk_drewN ?_ _ | refine blk_drew ?_ | refine blk_alloc ?_ _)); refine blk_far ?_ NB223_224.out _; (with_reducible repeat (first | refine blk_drewN ?_ _ | refine blk_drew ?_ | refine blk_alloc ?_ _)); refine blk_far ?_ NB223_224.out _; (with_reducible repeat (first | refine blk_drewN ?_ _ | refine blk_drew ?_ | refine blk_alloc ?_ _)); exact BK223.out) Tryz.underlying33 rfl (by kernel_rfl)) rfl ?_
 exact ⟨_, _, by first | rfl | (simp [errW_none, errW_some] <;> rfl) | (simp [*, errW_none, errW_some] <;> rfl), by (with_reducible repeat (first | apply Kd.S_alloc | apply Kd.S_drewN | apply Kd.S_drew)); exact Kd.S_mono (Kd.S_far (p := ⟨gb223, 13, none⟩) (Kd.S_far (p := ⟨gb223, 12, none⟩) (Kd.S_far (p := ⟨gb223, 11, none⟩) (Kd.S_far (p := ⟨gb223, 10, none⟩) (Kd.S_far (p := ⟨gb223, 9, none⟩) (Kd.S_far (p := ⟨gb223, 8, none⟩) (Kd.S_far (p := ⟨gb223, 7, none⟩) (Kd.S_far (p := ⟨gb223, 6, none⟩) (Kd.S_far (p := ⟨gb223, 5, none⟩) (Kd.S_far (p := ⟨gb223, 4, none⟩) (Kd.S_far (p := ⟨gb223, 3, none⟩) (Kd.S_far (p := ⟨gb223, 2, none⟩) (Kd.S_far (p := ⟨gb223, 1, none⟩) (Kd.S_far (p := ⟨gb223, 0, none⟩) (Kd.S_far (p := ⟨gb224, 13, none⟩) (Kd.S_far (p := ⟨gb224, 12, none⟩) (Kd.S_far (p := ⟨gb224, 11, none⟩) (Kd.S_far (p := ⟨gb224, 10, none⟩) (Kd.S_far (p := ⟨gb224, 9, none⟩) (Kd.S_far (p := ⟨gb224, 8, none⟩) (Kd.S_far (p := ⟨gb224, 7, none⟩) (Kd.S_types (Kd.S_types HO227.out BK224.out (by decide)) BK223.out (by decide)) (fun _ hk => hk.1.2) (.int .i64 t231)) (fun _ hk => hk.1.2) (.int .i64 t232)) (fun _ hk => hk.1.2) (.int .i64 t233)) (fun _ hk => hk.1.2) (.bool t234)) (fun _ hk => hk.1.2) (.int .i64 a0_11)) (fun _ hk => hk.1.2) (.string a0_12)) (fun _ hk => hk.1.2) (.string a0_13)) (fun _ hk => hk.2) (.string a0_0)) (fun _ hk => hk.2) (.int .i64 a0_1)) (fun _ hk => hk.2) (.slice Ao14 t225.length co14)) (fun _ hk => hk.2) (.slice Ao18 t228.length co18)) (fun _ hk => hk.2) (.string a0_4)) (fun _ hk => hk.2) (.string a0_5)) (fun _ hk => hk.2) (.string a0_6)) (fun _ hk => hk.2) (.int .i64 t231)) (fun _ hk => hk.2) (.int .i64 t232)) (fun _ hk => hk.2) (.int .i64 t233)) (fun _ hk => hk.2) (.bool t234)) (fun _ hk => hk.2) (.int .i64 a0_11)) (fun _ hk => hk.2) (.string a0_12)) (fun _ hk => hk.2) (.string a0_13)) (fun _ hk => hk.1.1.2), by (with_reducible repeat (first | apply Kd.S_alloc | apply Kd.S_drewN | apply Kd.S_drew)); exact Kd.S_mono (Kd.S_far (p := ⟨gb223, 13, none⟩) (Kd.S_far (p := ⟨gb223, 12, none⟩) (Kd.S_far (p := ⟨gb223, 11, none⟩) (Kd.S_far (p := ⟨gb223, 10, none⟩) (Kd.S_far (p := ⟨gb223, 9, none⟩) (Kd.S_far (p := ⟨gb223, 8, none⟩) (Kd.S_far (p := ⟨gb223, 7, none⟩) (Kd.S_far (p := ⟨gb223, 6, none⟩) (Kd.S_far (p := ⟨gb223, 5, none⟩) (Kd.S_far (p := ⟨gb223, 4, none⟩) (Kd.S_far (p := ⟨gb223, 3, none⟩) (Kd.S_far (p := ⟨gb223, 2, none⟩) (Kd.S_far (p := ⟨gb223, 1, none⟩) (Kd.S_far (p := ⟨gb223, 0, none⟩) (Kd.S_far (p := ⟨gb224, 13, none⟩) (Kd.S_far (p := ⟨gb224, 12, none⟩) (Kd.S_far (p := ⟨gb224, 11, none⟩) (Kd.S_far (p := ⟨gb224, 10, none⟩) (Kd.S_far (p := ⟨gb224, 9, none⟩) (Kd.S_far (p := ⟨gb224, 8, none⟩) (Kd.S_far (p := ⟨gb224, 7, none⟩) (Kd.S_types (Kd.S_types HO230.out BK224.out (by decide)) BK223.out (by decide)) (fun _ hk => hk.1.2) (.int .i64 t231)) (fun _ hk => hk.1.2) (.int .i64 t232)) (fun _ hk => hk.1.2) (.int .i64 t233)) (fun _ hk => hk.1.2) (.bool t234)) (fun _ hk => hk.1.2) (.int .i64 a0_11)) (fun _ hk => hk.1.2) (.string a0_12)) (fun _ hk => hk.1.2) (.string a0_13)) (fun _ hk => hk.2) (.string a0_0)) (fun _ hk => hk.2) (.int .i64 a0_1)) (fun _ hk => hk.2) (.slice Ao14 t225.length co14)) (fun _ hk => hk.2) (.slice Ao18 t228.length co18)) (fun _ hk => hk.2) (.string a0_4)) (fun _ hk => hk.2) (.string a0_5)) (fun _ hk => hk.2) (.string a0_6)) (fun _ hk => hk.2) (.int .i64 t231)) (fun _ hk => hk.2) (.int .i64 t232)) (fun _ hk => hk.2) (.int .i64 t233)) (fun _ hk => hk.2) (.bool t234)) (fun _ hk => hk.2) (.int .i64 a0_11)) (fun _ hk => hk.2) (.string a0_12)) (fun _ hk => hk.2) (.string a0_13)) (fun _ hk => hk.1.1.2), by repeat (first | (with_reducible first | exact HB.out | apply below_alloc | apply pw_below_drewN | apply below_drew1 | refine below_set ?_ GE222.out | refine below_set ?_ GE223.out | refine below_set ?_ GE224.out) | exact HB.out)⟩


/-! ### laws_FnExactFieldText: function 3 -/
def laws_FnExactFieldText.j0 : Nat → Bool → ByteArray → Int → List (S74) → List (S74) → ByteArray → ByteArray → ByteArray → Int → Int → Int → Bool → Int → ByteArray → ByteArray → ByteArray → Int → List (S80) → List (S80) → ByteArray → ByteArray → ByteArray → Int → Int → Int → Bool → Int → ByteArray → ByteArray → Option (Bool)
 | 0, _, _, _, _, _, _, _, _, _, _, _, _, _, _, _, _, _, _, _, _, _, _, _, _, _, _, _, _, _ => none
 | k + 1, x41, x317000, x317001, x317002, x317003, x317004, x317005, x317006, x317007, x317008, x317009, x317010, x317011, x317012, x317013, x357000, x357001, x357002, x357003, x357004, x357005, x357006, x357007, x357008, x357009, x357010, x357011, x357012, x357013 => if x41 = true then (some false) else ((laws_toEntry.f k x317000 x317001 x317002 x317003 x317004 x317005 x317006 x317007 x317008 x317009 x317010 x317011 x317012 x317013).bind fun bt359 => ((laws_eqEntry.f k x357000 x357001 x357002 x357003 x357004 x357005 x357006 x357007 x357008 x357009 x357010 x357011 x357012 x357013 bt359.1 bt359.2.1 bt359.2.2.1 bt359.2.2.2.1 bt359.2.2.2.2.1 bt359.2.2.2.2.2.1 bt359.2.2.2.2.2.2.1 bt359.2.2.2.2.2.2.2.1 bt359.2.2.2.2.2.2.2.2.1 bt359.2.2.2.2.2.2.2.2.2.1 bt359.2.2.2.2.2.2.2.2.2.2.1 bt359.2.2.2.2.2.2.2.2.2.2.2.1 bt359.2.2.2.2.2.2.2.2.2.2.2.2.1 bt359.2.2.2.2.2.2.2.2.2.2.2.2.2).bind fun t377 => (if t377 = true then (some true) else (some false))))
def laws_FnExactFieldText.f (k : Nat) (a0_0 : ByteArray) (a0_1 : Int) (l0_2 : List (S74)) (l0_3 : List (S74)) (a0_4 : ByteArray) (a0_5 : ByteArray) (a0_6 : ByteArray) (a0_7 : Int) (a0_8 : Int) (a0_9 : Int) (a0_10 : Bool) (a0_11 : Int) (a0_12 : ByteArray) (a0_13 : ByteArray) (a1 : ByteArray) : Option (Bool) := if (a1.size : Int) > 1048576 then (some true) else ((laws_szEntry.f k a0_0 a0_1 l0_2 l0_3 a0_4 a0_5 a0_6 a0_7 a0_8 a0_9 a0_10 a0_11 a0_12 a0_13 1048576).bind fun t317 => (if t317 < 0 then (some true) else ((laws_toEntry.f k a0_0 a0_1 l0_2 l0_3 a0_4 a0_5 a0_6 a0_7 a0_8 a0_9 a0_10 a0_11 a0_12 a0_13).bind fun bt318 => ((spec_FieldText.f k bt318.1 bt318.2.1 bt318.2.2.1 bt318.2.2.2.1 bt318.2.2.2.2.1 bt318.2.2.2.2.2.1 bt318.2.2.2.2.2.2.1 bt318.2.2.2.2.2.2.2.1 bt318.2.2.2.2.2.2.2.2.1 bt318.2.2.2.2.2.2.2.2.2.1 bt318.2.2.2.2.2.2.2.2.2.2.1 bt318.2.2.2.2.2.2.2.2.2.2.2.1 bt318.2.2.2.2.2.2.2.2.2.2.2.2.1 bt318.2.2.2.2.2.2.2.2.2.2.2.2.2 a1).bind fun bt336 => ((laws_toEntry.f k a0_0 a0_1 l0_2 l0_3 a0_4 a0_5 a0_6 a0_7 a0_8 a0_9 a0_10 a0_11 a0_12 a0_13).bind fun bt338 => ((impl_FieldText.f k bt338.1 bt338.2.1 bt338.2.2.1 bt338.2.2.2.1 bt338.2.2.2.2.1 bt338.2.2.2.2.2.1 bt338.2.2.2.2.2.2.1 bt338.2.2.2.2.2.2.2.1 bt338.2.2.2.2.2.2.2.2.1 bt338.2.2.2.2.2.2.2.2.2.1 bt338.2.2.2.2.2.2.2.2.2.2.1 bt338.2.2.2.2.2.2.2.2.2.2.2.1 bt338.2.2.2.2.2.2.2.2.2.2.2.2.1 bt338.2.2.2.2.2.2.2.2.2.2.2.2.2 a1).bind fun bt357 => (if bt357.1.toList = bt336.1.toList then (laws_FnExactFieldText.j0 k (bt357.2 != bt336.2) a0_0 a0_1 l0_2 l0_3 a0_4 a0_5 a0_6 a0_7 a0_8 a0_9 a0_10 a0_11 a0_12 a0_13 bt338.1 bt338.2.1 bt338.2.2.1 bt338.2.2.2.1 bt338.2.2.2.2.1 bt338.2.2.2.2.2.1 bt338.2.2.2.2.2.2.1 bt338.2.2.2.2.2.2.2.1 bt338.2.2.2.2.2.2.2.2.1 bt338.2.2.2.2.2.2.2.2.2.1 bt338.2.2.2.2.2.2.2.2.2.2.1 bt338.2.2.2.2.2.2.2.2.2.2.2.1 bt338.2.2.2.2.2.2.2.2.2.2.2.2.1 bt338.2.2.2.2.2.2.2.2.2.2.2.2.2) else (laws_FnExactFieldText.j0 k true a0_0 a0_1 l0_2 l0_3 a0_4 a0_5 a0_6 a0_7 a0_8 a0_9 a0_10 a0_11 a0_12 a0_13 bt338.1 bt338.2.1 bt338.2.2.1 bt338.2.2.2.1 bt338.2.2.2.2.1 bt338.2.2.2.2.2.1 bt338.2.2.2.2.2.2.1 bt338.2.2.2.2.2.2.2.1 bt338.2.2.2.2.2.2.2.2.1 bt338.2.2.2.2.2.2.2.2.2.1 bt338.2.2.2.2.2.2.2.2.2.2.1 bt338.2.2.2.2.2.2.2.2.2.2.2.1 bt338.2.2.2.2.2.2.2.2.2.2.2.2.1 bt338.2.2.2.2.2.2.2.2.2.2.2.2.2))))))))
theorem laws_FnExactFieldText.mono_l : ∀ k, (∀ y0 y1 y2 y3 y4 y5 y6 y7 y8 y9 y10 y11 y12 y13 y14 y15 y16 y17 y18 y19 y20 y21 y22 y23 y24 y25 y26 y27 y28, LeO (laws_FnExactFieldText.j0 k y0 y1 y2 y3 y4 y5 y6 y7 y8 y9 y10 y11 y12 y13 y14 y15 y16 y17 y18 y19 y20 y21 y22 y23 y24 y25 y26 y27 y28) (laws_FnExactFieldText.j0 (k + 1) y0 y1 y2 y3 y4 y5 y6 y7 y8 y9 y10 y11 y12 y13 y14 y15 y16 y17 y18 y19 y20 y21 y22 y23 y24 y25 y26 y27 y28))
 | 0 => fun _ _ _ _ _ _ _ _ _ _ _ _ _ _ _ _ _ _ _ _ _ _ _ _ _ _ _ _ _ r h => by simp [laws_FnExactFieldText.j0] at h
 | k + 1 => by
  have ih0 := laws_FnExactFieldText.mono_l k
  ·
   intro y0 y1 y2 y3 y4 y5 y6 y7 y8 y9 y10 y11 y12 y13 y14 y15 y16 y17 y18 y19 y20 y21 y22 y23 y24 y25 y26 y27 y28
   unfold laws_FnExactFieldText.j0
   repeat' first
   | (with_reducible exact ih0 _ _ _ _ _ _ _ _ _ _ _ _ _ _ _ _ _ _ _ _ _ _ _ _ _ _ _ _ _)
   | (with_reducible exact impl_FieldText.mono _ _ _ _ _ _ _ _ _ _ _ _ _ _ _ _)
   | (with_reducible exact laws_eqEntry.mono _ _ _ _ _ _ _ _ _ _ _ _ _ _ _ _ _ _ _ _ _ _ _ _ _ _ _ _ _)
   | (with_reducible exact laws_szEntry.mono _ _ _ _ _ _ _ _ _ _ _ _ _ _ _ _)
   | (with_reducible exact laws_toEntry.mono _ _ _ _ _ _ _ _ _ _ _ _ _ _ _)
   | (with_reducible exact spec_FieldText.mono _ _ _ _ _ _ _ _ _ _ _ _ _ _ _ _)
   | (with_reducible exact LeO.refl _)
   | (with_reducible exact LeO.none _)
   | (with_reducible refine LeO.ite ?_ ?_)
   | (with_reducible refine LeO.bind ?_ (fun _ => ?_))
   | exact ih0 _ _ _ _ _ _ _ _ _ _ _ _ _ _ _ _ _ _ _ _ _ _ _ _ _ _ _ _ _
   | exact impl_FieldText.mono _ _ _ _ _ _ _ _ _ _ _ _ _ _ _ _
   | exact laws_eqEntry.mono _ _ _ _ _ _ _ _ _ _ _ _ _ _ _ _ _ _ _ _ _ _ _ _ _ _ _ _ _
   | exact laws_szEntry.mono _ _ _ _ _ _ _ _ _ _ _ _ _ _ _ _
   | exact laws_toEntry.mono _ _ _ _ _ _ _ _ _ _ _ _ _ _ _
   | exact spec_FieldText.mono _ _ _ _ _ _ _ _ _ _ _ _ _ _ _ _
   | exact LeO.none _
   | refine LeO.ite ?_ ?_
   | refine LeO.bind ?_ (fun _ => ?_)
theorem laws_FnExactFieldText.mono : ∀ a0 a1 a2 a3 a4 a5 a6 a7 a8 a9 a10 a11 a12 a13 a14 k, LeO (laws_FnExactFieldText.f k a0 a1 a2 a3 a4 a5 a6 a7 a8 a9 a10 a11 a12 a13 a14) (laws_FnExactFieldText.f (k + 1) a0 a1 a2 a3 a4 a5 a6 a7 a8 a9 a10 a11 a12 a13 a14) := by
 intro a0 a1 a2 a3 a4 a5 a6 a7 a8 a9 a10 a11 a12 a13 a14 k
 have ih0 := laws_FnExactFieldText.mono_l k
 unfold laws_FnExactFieldText.f
 repeat' first
   | (with_reducible exact ih0 _ _ _ _ _ _ _ _ _ _ _ _ _ _ _ _ _ _ _ _ _ _ _ _ _ _ _ _ _)
   | (with_reducible exact impl_FieldText.mono _ _ _ _ _ _ _ _ _ _ _ _ _ _ _ _)
   | (with_reducible exact laws_eqEntry.mono _ _ _ _ _ _ _ _ _ _ _ _ _ _ _ _ _ _ _ _ _ _ _ _ _ _ _ _ _)
   | (with_reducible exact laws_szEntry.mono _ _ _ _ _ _ _ _ _ _ _ _ _ _ _ _)
   | (with_reducible exact laws_toEntry.mono _ _ _ _ _ _ _ _ _ _ _ _ _ _ _)
   | (with_reducible exact spec_FieldText.mono _ _ _ _ _ _ _ _ _ _ _ _ _ _ _ _)
   | (with_reducible exact LeO.refl _)
   | (with_reducible exact LeO.none _)
   | (with_reducible refine LeO.ite ?_ ?_)
   | (with_reducible refine LeO.bind ?_ (fun _ => ?_))
   | exact ih0 _ _ _ _ _ _ _ _ _ _ _ _ _ _ _ _ _ _ _ _ _ _ _ _ _ _ _ _ _
   | exact impl_FieldText.mono _ _ _ _ _ _ _ _ _ _ _ _ _ _ _ _
   | exact laws_eqEntry.mono _ _ _ _ _ _ _ _ _ _ _ _ _ _ _ _ _ _ _ _ _ _ _ _ _ _ _ _ _
   | exact laws_szEntry.mono _ _ _ _ _ _ _ _ _ _ _ _ _ _ _ _
   | exact laws_toEntry.mono _ _ _ _ _ _ _ _ _ _ _ _ _ _ _
   | exact spec_FieldText.mono _ _ _ _ _ _ _ _ _ _ _ _ _ _ _ _
   | exact LeO.none _
   | refine LeO.ite ?_ ?_
   | refine LeO.bind ?_ (fun _ => ?_)
set_option maxHeartbeats 8000000 in
set_option maxRecDepth 100000 in
theorem laws_FnExactFieldText.calls (k : Nat) (a0_0 : ByteArray) (a0_1 : Int) (A0_2 : Option Addr) (c0_2 : Nat) (l0_2 : List (S74)) (A0_3 : Option Addr) (c0_3 : Nat) (l0_3 : List (S74)) (a0_4 : ByteArray) (a0_5 : ByteArray) (a0_6 : ByteArray) (a0_7 : Int) (a0_8 : Int) (a0_9 : Int) (a0_10 : Bool) (a0_11 : Int) (a0_12 : ByteArray) (a0_13 : ByteArray) (a1 : ByteArray) (w : World) {gF2 : Bool} (hG : GL true gF2 true w) (hr0_2 : Kd.C k74 w A0_2 l0_2.length l0_2) (hc0_2 : l0_2.length ≤ c0_2) (hr0_3 : Kd.C k74 w A0_3 l0_3.length l0_3) (hc0_3 : l0_3.length ≤ c0_3) (h : laws_FnExactFieldText.f k a0_0 a0_1 l0_2 l0_3 a0_4 a0_5 a0_6 a0_7 a0_8 a0_9 a0_10 a0_11 a0_12 a0_13 a1 = some true) :
  Calls Tryz.prog 3 #[.agg #[.string a0_0, .int .i64 a0_1, .slice A0_2 l0_2.length c0_2, .slice A0_3 l0_3.length c0_3, .string a0_4, .string a0_5, .string a0_6, .int .i64 a0_7, .int .i64 a0_8, .int .i64 a0_9, .bool a0_10, .int .i64 a0_11, .string a0_12, .string a0_13], .string a1] w fun e w' => e = .returned (.bool true) ∧ Below w.heap.size w w' := by
 have HG := Aside0.mk hG
 clear hG
 have hu26 := Tryz.underlying26
 have hu33 := Tryz.underlying33
 have HR0_2 := Aside0.mk hr0_2
 have HC0_2 := Aside0.mk hc0_2
 clear hr0_2 hc0_2
 have HR0_3 := Aside0.mk hr0_3
 have HC0_3 := Aside0.mk hc0_3
 clear hr0_3 hc0_3
 have HB := Aside0.mk (Below.refl w.heap.size w)
 have H : (if (a1.size : Int) > 1048576 then (some true) else ((laws_szEntry.f k a0_0 a0_1 l0_2 l0_3 a0_4 a0_5 a0_6 a0_7 a0_8 a0_9 a0_10 a0_11 a0_12 a0_13 1048576).bind fun t317 => (if t317 < 0 then (some true) else ((laws_toEntry.f k a0_0 a0_1 l0_2 l0_3 a0_4 a0_5 a0_6 a0_7 a0_8 a0_9 a0_10 a0_11 a0_12 a0_13).bind fun bt318 => ((spec_FieldText.f k bt318.1 bt318.2.1 bt318.2.2.1 bt318.2.2.2.1 bt318.2.2.2.2.1 bt318.2.2.2.2.2.1 bt318.2.2.2.2.2.2.1 bt318.2.2.2.2.2.2.2.1 bt318.2.2.2.2.2.2.2.2.1 bt318.2.2.2.2.2.2.2.2.2.1 bt318.2.2.2.2.2.2.2.2.2.2.1 bt318.2.2.2.2.2.2.2.2.2.2.2.1 bt318.2.2.2.2.2.2.2.2.2.2.2.2.1 bt318.2.2.2.2.2.2.2.2.2.2.2.2.2 a1).bind fun bt336 => ((laws_toEntry.f k a0_0 a0_1 l0_2 l0_3 a0_4 a0_5 a0_6 a0_7 a0_8 a0_9 a0_10 a0_11 a0_12 a0_13).bind fun bt338 => ((impl_FieldText.f k bt338.1 bt338.2.1 bt338.2.2.1 bt338.2.2.2.1 bt338.2.2.2.2.1 bt338.2.2.2.2.2.1 bt338.2.2.2.2.2.2.1 bt338.2.2.2.2.2.2.2.1 bt338.2.2.2.2.2.2.2.2.1 bt338.2.2.2.2.2.2.2.2.2.1 bt338.2.2.2.2.2.2.2.2.2.2.1 bt338.2.2.2.2.2.2.2.2.2.2.2.1 bt338.2.2.2.2.2.2.2.2.2.2.2.2.1 bt338.2.2.2.2.2.2.2.2.2.2.2.2.2 a1).bind fun bt357 => (if bt357.1.toList = bt336.1.toList then (laws_FnExactFieldText.j0 k (bt357.2 != bt336.2) a0_0 a0_1 l0_2 l0_3 a0_4 a0_5 a0_6 a0_7 a0_8 a0_9 a0_10 a0_11 a0_12 a0_13 bt338.1 bt338.2.1 bt338.2.2.1 bt338.2.2.2.1 bt338.2.2.2.2.1 bt338.2.2.2.2.2.1 bt338.2.2.2.2.2.2.1 bt338.2.2.2.2.2.2.2.1 bt338.2.2.2.2.2.2.2.2.1 bt338.2.2.2.2.2.2.2.2.2.1 bt338.2.2.2.2.2.2.2.2.2.2.1 bt338.2.2.2.2.2.2.2.2.2.2.2.1 bt338.2.2.2.2.2.2.2.2.2.2.2.2.1 bt338.2.2.2.2.2.2.2.2.2.2.2.2.2) else (laws_FnExactFieldText.j0 k true a0_0 a0_1 l0_2 l0_3 a0_4 a0_5 a0_6 a0_7 a0_8 a0_9 a0_10 a0_11 a0_12 a0_13 bt338.1 bt338.2.1 bt338.2.2.1 bt338.2.2.2.1 bt338.2.2.2.2.1 bt338.2.2.2.2.2.1 bt338.2.2.2.2.2.2.1 bt338.2.2.2.2.2.2.2.1 bt338.2.2.2.2.2.2.2.2.1 bt338.2.2.2.2.2.2.2.2.2.1 bt338.2.2.2.2.2.2.2.2.2.2.1 bt338.2.2.2.2.2.2.2.2.2.2.2.1 bt338.2.2.2.2.2.2.2.2.2.2.2.2.1 bt338.2.2.2.2.2.2.2.2.2.2.2.2.2))))))))) = some true := h
 clear h
 by_cases c3 : (a1.size : Int) > 1048576
 ·
  rw [if_pos c3] at H
  have c3b0 : decide (1048576 < (a1.size : Int)) = true := decide_eq_true c3
  have c3b1 : decide (1048576 < a1.size) = true := decide_eq_true (by omega)
  clear c3
  clear H
  go_enter Tryz.func3, Tryz.ntmps3
  go_wp2_with (first | ((with_reducible refine gate_dst (N := 2) rfl ?_); refine box_event ?hg (N := 2) ?hd (cs := #[.string a0_0, .int .i64 a0_1, .slice A0_2 l0_2.length c0_2, .slice A0_3 l0_3.length c0_3, .string a0_4, .string a0_5, .string a0_6, .int .i64 a0_7, .int .i64 a0_8, .int .i64 a0_9, .bool a0_10, .int .i64 a0_11, .string a0_12, .string a0_13]) (t := 26) ?hr ?_; (case hd => rfl); (case hg => rfl); (case hr => first | (go_simp; done) | (go_simp; rfl)); intro gb316 hg w4 hbox hb; have BK316 := Aside0.mk (hbox); have GW316 := Aside0.mk (bsz hg au33); have GE316 := Aside0.mk (bsz hg au33); replace HB := Aside0.mk (below_step au33 hb); clear hb hbox hg))
  go_ret
  exact ax13
 ·
  rw [if_neg c3] at H
  have c3b0 : decide (1048576 < (a1.size : Int)) = false := decide_eq_false c3
  have c3b1 : decide (1048576 < a1.size) = false := decide_eq_false (by omega)
  clear c3
  replace H := Option.bind_eq_some_iff.mp H
  obtain ⟨t317, A50, H⟩ := H
  try dsimp only at H
  have A5 := Aside0.mk A50
  clear A50
  by_cases c6 : t317 < 0
  ·
   rw [if_pos c6] at H
   have c6b0 : decide (t317 < 0) = true := decide_eq_true c6
   clear c6
   clear H
   go_enter Tryz.func3, Tryz.ntmps3
   go_wp2_with (first | ((with_reducible refine gate_dst (N := 2) rfl ?_); refine box_event ?hg (N := 2) ?hd (cs := #[.string a0_0, .int .i64 a0_1, .slice A0_2 l0_2.length c0_2, .slice A0_3 l0_3.length c0_3, .string a0_4, .string a0_5, .string a0_6, .int .i64 a0_7, .int .i64 a0_8, .int .i64 a0_9, .bool a0_10, .int .i64 a0_11, .string a0_12, .string a0_13]) (t := 26) ?hr ?_; (case hd => rfl); (case hg => rfl); (case hr => first | (go_simp; done) | (go_simp; rfl)); intro gb316 hg w7 hbox hb; have BK316 := Aside0.mk (hbox); have GW316 := Aside0.mk (bsz hg au33); have GE316 := Aside0.mk (bsz hg au33); replace HB := Aside0.mk (below_step au33 hb); clear hb hbox hg; obtain ⟨hcz8_0, hcz8_1, hcz8_2, hcz8_3, hcz8_4, hcz8_5, hcz8_6, hcz8_7, hcz8_8, hcz8_9, hcz8_10, hcz8_11, hcz8_12, hcz8_13, hfz8_0, hfz8_1, hfz8_2, hfz8_3, hfz8_4, hfz8_5, hfz8_6, hfz8_7, hfz8_8, hfz8_9, hfz8_10, hfz8_11, hfz8_12, hfz8_13⟩ := blkc14 BK316.out) | ((with_reducible refine gate_callee (f := 7) rfl ?_); refine goesL_ (some 16) rfl rfl Tryz.func7 (by kernel_rfl) rfl #[.agg #[.string a0_0, .int .i64 a0_1, .slice A0_2 l0_2.length c0_2, .slice A0_3 l0_3.length c0_3, .string a0_4, .string a0_5, .string a0_6, .int .i64 a0_7, .int .i64 a0_8, .int .i64 a0_9, .bool a0_10, .int .i64 a0_11, .string a0_12, .string a0_13], .int .i64 1048576] rfl au32 ?_; (with_reducible refine (laws_szEntry.calls k a0_0 a0_1 _ _ l0_2 _ _ l0_3 a0_4 a0_5 a0_6 a0_7 a0_8 a0_9 a0_10 a0_11 a0_12 a0_13 1048576 t317 _ ?side1 ?side2 ?side3 ?side4 A5.out).mono ?_); (case side1 => repeat (first | exact (Kd.C_below HR0_2.out HB.out) | (with_reducible refine Kd.C_alloc ?_ _) | (with_reducible refine Kd.C_drewN ?_ _) | (with_reducible refine Kd.C_drew ?_))); (case side2 => exact HC0_2.out); (case side3 => repeat (first | exact (Kd.C_below HR0_3.out HB.out) | (with_reducible refine Kd.C_alloc ?_ _) | (with_reducible refine Kd.C_drewN ?_ _) | (with_reducible refine Kd.C_drew ?_))); (case side4 => exact HC0_3.out); rintro e w9 ⟨rfl, hb⟩; refine ⟨_, rfl, ?_⟩; replace BK316 := Aside0.mk (blk_below (g := gb316) au57 hb); replace HB := Aside0.mk (below_step au31 hb); (try clear hb)))
   go_ret
   exact ax13
  ·
   rw [if_neg c6] at H
   have c6b0 : decide (t317 < 0) = false := decide_eq_false c6
   clear c6
   replace H := Option.bind_eq_some_iff.mp H
   obtain ⟨⟨t318, t319, t320, t323, t326, t327, t328, t329, t330, t331, t332, t333, t334, t335⟩, A100, H⟩ := H
   replace H : ((spec_FieldText.f k t318 t319 t320 t323 t326 t327 t328 t329 t330 t331 t332 t333 t334 t335 a1).bind fun bt336 => ((laws_toEntry.f k a0_0 a0_1 l0_2 l0_3 a0_4 a0_5 a0_6 a0_7 a0_8 a0_9 a0_10 a0_11 a0_12 a0_13).bind fun bt338 => ((impl_FieldText.f k bt338.1 bt338.2.1 bt338.2.2.1 bt338.2.2.2.1 bt338.2.2.2.2.1 bt338.2.2.2.2.2.1 bt338.2.2.2.2.2.2.1 bt338.2.2.2.2.2.2.2.1 bt338.2.2.2.2.2.2.2.2.1 bt338.2.2.2.2.2.2.2.2.2.1 bt338.2.2.2.2.2.2.2.2.2.2.1 bt338.2.2.2.2.2.2.2.2.2.2.2.1 bt338.2.2.2.2.2.2.2.2.2.2.2.2.1 bt338.2.2.2.2.2.2.2.2.2.2.2.2.2 a1).bind fun bt357 => (if bt357.1.toList = bt336.1.toList then (laws_FnExactFieldText.j0 k (bt357.2 != bt336.2) a0_0 a0_1 l0_2 l0_3 a0_4 a0_5 a0_6 a0_7 a0_8 a0_9 a0_10 a0_11 a0_12 a0_13 bt338.1 bt338.2.1 bt338.2.2.1 bt338.2.2.2.1 bt338.2.2.2.2.1 bt338.2.2.2.2.2.1 bt338.2.2.2.2.2.2.1 bt338.2.2.2.2.2.2.2.1 bt338.2.2.2.2.2.2.2.2.1 bt338.2.2.2.2.2.2.2.2.2.1 bt338.2.2.2.2.2.2.2.2.2.2.1 bt338.2.2.2.2.2.2.2.2.2.2.2.1 bt338.2.2.2.2.2.2.2.2.2.2.2.2.1 bt338.2.2.2.2.2.2.2.2.2.2.2.2.2) else (laws_FnExactFieldText.j0 k true a0_0 a0_1 l0_2 l0_3 a0_4 a0_5 a0_6 a0_7 a0_8 a0_9 a0_10 a0_11 a0_12 a0_13 bt338.1 bt338.2.1 bt338.2.2.1 bt338.2.2.2.1 bt338.2.2.2.2.1 bt338.2.2.2.2.2.1 bt338.2.2.2.2.2.2.1 bt338.2.2.2.2.2.2.2.1 bt338.2.2.2.2.2.2.2.2.1 bt338.2.2.2.2.2.2.2.2.2.1 bt338.2.2.2.2.2.2.2.2.2.2.1 bt338.2.2.2.2.2.2.2.2.2.2.2.1 bt338.2.2.2.2.2.2.2.2.2.2.2.2.1 bt338.2.2.2.2.2.2.2.2.2.2.2.2.2))))) = some true := H
   have A10 := Aside0.mk A100
   clear A100
   replace H := Option.bind_eq_some_iff.mp H
   obtain ⟨⟨t336, t337⟩, A110, H⟩ := H
   replace H : ((laws_toEntry.f k a0_0 a0_1 l0_2 l0_3 a0_4 a0_5 a0_6 a0_7 a0_8 a0_9 a0_10 a0_11 a0_12 a0_13).bind fun bt338 => ((impl_FieldText.f k bt338.1 bt338.2.1 bt338.2.2.1 bt338.2.2.2.1 bt338.2.2.2.2.1 bt338.2.2.2.2.2.1 bt338.2.2.2.2.2.2.1 bt338.2.2.2.2.2.2.2.1 bt338.2.2.2.2.2.2.2.2.1 bt338.2.2.2.2.2.2.2.2.2.1 bt338.2.2.2.2.2.2.2.2.2.2.1 bt338.2.2.2.2.2.2.2.2.2.2.2.1 bt338.2.2.2.2.2.2.2.2.2.2.2.2.1 bt338.2.2.2.2.2.2.2.2.2.2.2.2.2 a1).bind fun bt357 => (if bt357.1.toList = t336.toList then (laws_FnExactFieldText.j0 k (bt357.2 != t337) a0_0 a0_1 l0_2 l0_3 a0_4 a0_5 a0_6 a0_7 a0_8 a0_9 a0_10 a0_11 a0_12 a0_13 bt338.1 bt338.2.1 bt338.2.2.1 bt338.2.2.2.1 bt338.2.2.2.2.1 bt338.2.2.2.2.2.1 bt338.2.2.2.2.2.2.1 bt338.2.2.2.2.2.2.2.1 bt338.2.2.2.2.2.2.2.2.1 bt338.2.2.2.2.2.2.2.2.2.1 bt338.2.2.2.2.2.2.2.2.2.2.1 bt338.2.2.2.2.2.2.2.2.2.2.2.1 bt338.2.2.2.2.2.2.2.2.2.2.2.2.1 bt338.2.2.2.2.2.2.2.2.2.2.2.2.2) else (laws_FnExactFieldText.j0 k true a0_0 a0_1 l0_2 l0_3 a0_4 a0_5 a0_6 a0_7 a0_8 a0_9 a0_10 a0_11 a0_12 a0_13 bt338.1 bt338.2.1 bt338.2.2.1 bt338.2.2.2.1 bt338.2.2.2.2.1 bt338.2.2.2.2.2.1 bt338.2.2.2.2.2.2.1 bt338.2.2.2.2.2.2.2.1 bt338.2.2.2.2.2.2.2.2.1 bt338.2.2.2.2.2.2.2.2.2.1 bt338.2.2.2.2.2.2.2.2.2.2.1 bt338.2.2.2.2.2.2.2.2.2.2.2.1 bt338.2.2.2.2.2.2.2.2.2.2.2.2.1 bt338.2.2.2.2.2.2.2.2.2.2.2.2.2)))) = some true := H
   have A11 := Aside0.mk A110
   clear A110
   replace H := Option.bind_eq_some_iff.mp H
   obtain ⟨⟨t338, t339, t340, t343, t346, t347, t348, t349, t350, t351, t352, t353, t354, t355⟩, A120, H⟩ := H
   replace H : ((impl_FieldText.f k t338 t339 t340 t343 t346 t347 t348 t349 t350 t351 t352 t353 t354 t355 a1).bind fun bt357 => (if bt357.1.toList = t336.toList then (laws_FnExactFieldText.j0 k (bt357.2 != t337) a0_0 a0_1 l0_2 l0_3 a0_4 a0_5 a0_6 a0_7 a0_8 a0_9 a0_10 a0_11 a0_12 a0_13 t338 t339 t340 t343 t346 t347 t348 t349 t350 t351 t352 t353 t354 t355) else (laws_FnExactFieldText.j0 k true a0_0 a0_1 l0_2 l0_3 a0_4 a0_5 a0_6 a0_7 a0_8 a0_9 a0_10 a0_11 a0_12 a0_13 t338 t339 t340 t343 t346 t347 t348 t349 t350 t351 t352 t353 t354 t355))) = some true := H
   have A12 := Aside0.mk A120
   clear A120
   replace H := Option.bind_eq_some_iff.mp H
   obtain ⟨⟨t357, t358⟩, A130, H⟩ := H
   replace H : (if t357.toList = t336.toList then (laws_FnExactFieldText.j0 k (t358 != t337) a0_0 a0_1 l0_2 l0_3 a0_4 a0_5 a0_6 a0_7 a0_8 a0_9 a0_10 a0_11 a0_12 a0_13 t338 t339 t340 t343 t346 t347 t348 t349 t350 t351 t352 t353 t354 t355) else (laws_FnExactFieldText.j0 k true a0_0 a0_1 l0_2 l0_3 a0_4 a0_5 a0_6 a0_7 a0_8 a0_9 a0_10 a0_11 a0_12 a0_13 t338 t339 t340 t343 t346 t347 t348 t349 t350 t351 t352 t353 t354 t355)) = some true := H
   have A13 := Aside0.mk A130
   clear A130
   have HC14 := Aside0.mk H
   clear H
   go_enter Tryz.func3, Tryz.ntmps3
   go_upto_region 10 with (first | ((with_reducible refine gate_dst (N := 2) rfl ?_); refine box_event ?hg (N := 2) ?hd (cs := #[.string a0_0, .int .i64 a0_1, .slice A0_2 l0_2.length c0_2, .slice A0_3 l0_3.length c0_3, .string a0_4, .string a0_5, .string a0_6, .int .i64 a0_7, .int .i64 a0_8, .int .i64 a0_9, .bool a0_10, .int .i64 a0_11, .string a0_12, .string a0_13]) (t := 26) ?hr ?_; (case hd => rfl); (case hg => rfl); (case hr => first | (go_simp; done) | (go_simp; rfl)); intro gb316 hg w15 hbox hb; have BK316 := Aside0.mk (hbox); have GW316 := Aside0.mk (bsz hg au33); have GE316 := Aside0.mk (bsz hg au33); replace HB := Aside0.mk (below_step au33 hb); clear hb hbox hg; obtain ⟨hcz16_0, hcz16_1, hcz16_2, hcz16_3, hcz16_4, hcz16_5, hcz16_6, hcz16_7, hcz16_8, hcz16_9, hcz16_10, hcz16_11, hcz16_12, hcz16_13, hfz16_0, hfz16_1, hfz16_2, hfz16_3, hfz16_4, hfz16_5, hfz16_6, hfz16_7, hfz16_8, hfz16_9, hfz16_10, hfz16_11, hfz16_12, hfz16_13⟩ := blkc14 BK316.out) | ((with_reducible refine gate_callee (f := 7) rfl ?_); refine goesL_ (some 16) rfl rfl Tryz.func7 (by kernel_rfl) rfl #[.agg #[.string a0_0, .int .i64 a0_1, .slice A0_2 l0_2.length c0_2, .slice A0_3 l0_3.length c0_3, .string a0_4, .string a0_5, .string a0_6, .int .i64 a0_7, .int .i64 a0_8, .int .i64 a0_9, .bool a0_10, .int .i64 a0_11, .string a0_12, .string a0_13], .int .i64 1048576] rfl au32 ?_; (with_reducible refine (laws_szEntry.calls k a0_0 a0_1 _ _ l0_2 _ _ l0_3 a0_4 a0_5 a0_6 a0_7 a0_8 a0_9 a0_10 a0_11 a0_12 a0_13 1048576 t317 _ ?side1 ?side2 ?side3 ?side4 A5.out).mono ?_); (case side1 => repeat (first | exact (Kd.C_below HR0_2.out HB.out) | (with_reducible refine Kd.C_alloc ?_ _) | (with_reducible refine Kd.C_drewN ?_ _) | (with_reducible refine Kd.C_drew ?_))); (case side2 => exact HC0_2.out); (case side3 => repeat (first | exact (Kd.C_below HR0_3.out HB.out) | (with_reducible refine Kd.C_alloc ?_ _) | (with_reducible refine Kd.C_drewN ?_ _) | (with_reducible refine Kd.C_drew ?_))); (case side4 => exact HC0_3.out); rintro e w17 ⟨rfl, hb⟩; refine ⟨_, rfl, ?_⟩; replace BK316 := Aside0.mk (blk_below (g := gb316) au57 hb); replace HB := Aside0.mk (below_step au31 hb); (try clear hb); obtain ⟨hcz18_0, hcz18_1, hcz18_2, hcz18_3, hcz18_4, hcz18_5, hcz18_6, hcz18_7, hcz18_8, hcz18_9, hcz18_10, hcz18_11, hcz18_12, hcz18_13, hfz18_0, hfz18_1, hfz18_2, hfz18_3, hfz18_4, hfz18_5, hfz18_6, hfz18_7, hfz18_8, hfz18_9, hfz18_10, hfz18_11, hfz18_12, hfz18_13⟩ := blkc14 BK316.out) | ((with_reducible refine gate_callee (f := 9) rfl ?_); refine goesL_ (some 21) rfl rfl Tryz.func9 (by kernel_rfl) rfl #[.agg #[.string a0_0, .int .i64 a0_1, .slice A0_2 l0_2.length c0_2, .slice A0_3 l0_3.length c0_3, .string a0_4, .string a0_5, .string a0_6, .int .i64 a0_7, .int .i64 a0_8, .int .i64 a0_9, .bool a0_10, .int .i64 a0_11, .string a0_12, .string a0_13]] rfl au32 ?_; (with_reducible refine (laws_toEntry.calls k a0_0 a0_1 _ _ l0_2 _ _ l0_3 a0_4 a0_5 a0_6 a0_7 a0_8 a0_9 a0_10 a0_11 a0_12 a0_13 t318 t319 t320 t323 t326 t327 t328 t329 t330 t331 t332 t333 t334 t335 _ ?side1 ?side2 ?side3 ?side4 A10.out).mono ?_); (case side1 => repeat (first | exact (Kd.C_below HR0_2.out HB.out) | (with_reducible refine Kd.C_alloc ?_ _) | (with_reducible refine Kd.C_drewN ?_ _) | (with_reducible refine Kd.C_drew ?_))); (case side2 => exact HC0_2.out); (case side3 => repeat (first | exact (Kd.C_below HR0_3.out HB.out) | (with_reducible refine Kd.C_alloc ?_ _) | (with_reducible refine Kd.C_drewN ?_ _) | (with_reducible refine Kd.C_drew ?_))); (case side4 => exact HC0_3.out); rintro e w19 ⟨v321, v324, rfl, ho0, ho1, hb⟩; refine ⟨_, rfl, ?_⟩; have HO322 := Aside0.mk (Kd.S_lower ho0 (below_size au31)); have HO325 := Aside0.mk (Kd.S_lower ho1 (below_size au31)); replace BK316 := Aside0.mk (blk_below (g := gb316) au57 hb); replace HB := Aside0.mk (below_step au31 hb); (try clear hb); (try clear ho0); (try clear ho1); obtain ⟨Ao20, co20, eo20⟩ := Kd.S_slice HO322.out; subst eo20; obtain ⟨Ao21, co21, eo21⟩ := Kd.S_slice HO325.out; subst eo21) | ((with_reducible refine gate_callee (f := 8) rfl ?_); refine goesL_ (some 23) rfl rfl Tryz.func8 (by kernel_rfl) rfl #[.agg #[.string t318, .int .i64 t319, .slice Ao20 t320.length co20, .slice Ao21 t323.length co21, .string t326, .string t327, .string t328, .int .i64 t329, .int .i64 t330, .int .i64 t331, .bool t332, .int .i64 t333, .string t334, .string t335], .string a1] rfl au32 ?_; (with_reducible refine (spec_FieldText.calls k t318 t319 _ _ t320 _ _ t323 t326 t327 t328 t329 t330 t331 t332 t333 t334 t335 a1 t336 t337 _ ?side1 ?side2 ?side3 ?side4 A11.out).mono ?_); (case side1 => repeat (first | exact (Kd.S_reads' HO322.out).2.2 | (with_reducible refine Kd.C_alloc ?_ _) | (with_reducible refine Kd.C_drewN ?_ _) | (with_reducible refine Kd.C_drew ?_))); (case side2 => exact (Kd.S_reads' HO322.out).2.1); (case side3 => repeat (first | exact (Kd.S_reads' HO325.out).2.2 | (with_reducible refine Kd.C_alloc ?_ _) | (with_reducible refine Kd.C_drewN ?_ _) | (with_reducible refine Kd.C_drew ?_))); (case side4 => exact (Kd.S_reads' HO325.out).2.1); rintro e w22 ⟨rfl, hb⟩; refine ⟨_, rfl, ?_⟩; replace HO322 := Aside0.mk (Kd.S_below au61 hb); replace HO325 := Aside0.mk (Kd.S_below au62 hb); replace BK316 := Aside0.mk (blk_below (g := gb316) au57 hb); replace HB := Aside0.mk (below_step au31 hb); (try clear hb); obtain ⟨hcz23_0, hcz23_1, hcz23_2, hcz23_3, hcz23_4, hcz23_5, hcz23_6, hcz23_7, hcz23_8, hcz23_9, hcz23_10, hcz23_11, hcz23_12, hcz23_13, hfz23_0, hfz23_1, hfz23_2, hfz23_3, hfz23_4, hfz23_5, hfz23_6, hfz23_7, hfz23_8, hfz23_9, hfz23_10, hfz23_11, hfz23_12, hfz23_13⟩ := blkc14 BK316.out) | ((with_reducible refine gate_callee (f := 9) rfl ?_); refine goesL_ (some 27) rfl rfl Tryz.func9 (by kernel_rfl) rfl #[.agg #[.string a0_0, .int .i64 a0_1, .slice A0_2 l0_2.length c0_2, .slice A0_3 l0_3.length c0_3, .string a0_4, .string a0_5, .string a0_6, .int .i64 a0_7, .int .i64 a0_8, .int .i64 a0_9, .bool a0_10, .int .i64 a0_11, .string a0_12, .string a0_13]] rfl au32 ?_; (with_reducible refine (laws_toEntry.calls k a0_0 a0_1 _ _ l0_2 _ _ l0_3 a0_4 a0_5 a0_6 a0_7 a0_8 a0_9 a0_10 a0_11 a0_12 a0_13 t338 t339 t340 t343 t346 t347 t348 t349 t350 t351 t352 t353 t354 t355 _ ?side1 ?side2 ?side3 ?side4 A12.out).mono ?_); (case side1 => repeat (first | exact (Kd.C_below HR0_2.out HB.out) | (with_reducible refine Kd.C_alloc ?_ _) | (with_reducible refine Kd.C_drewN ?_ _) | (with_reducible refine Kd.C_drew ?_))); (case side2 => exact HC0_2.out); (case side3 => repeat (first | exact (Kd.C_below HR0_3.out HB.out) | (with_reducible refine Kd.C_alloc ?_ _) | (with_reducible refine Kd.C_drewN ?_ _) | (with_reducible refine Kd.C_drew ?_))); (case side4 => exact HC0_3.out); rintro e w24 ⟨v341, v344, rfl, ho0, ho1, hb⟩; refine ⟨_, rfl, ?_⟩; have HO342 := Aside0.mk (Kd.S_lower (Kd.S_new' (Kd.S_new' ho0 (Kd.S_lt au61)) (Kd.S_lt au62)) (below_size au31)); have HO345 := Aside0.mk (Kd.S_lower (Kd.S_new' (Kd.S_new' ho1 (Kd.S_lt au61)) (Kd.S_lt au62)) (below_size au31)); replace HO322 := Aside0.mk (Kd.S_mono (Kd.S_told (Kd.S_told (Kd.S_old au61 hb) (Kd.S_base ho0)) (Kd.S_base ho1)) (fun _ h_ => h_.1)); replace HO325 := Aside0.mk (Kd.S_mono (Kd.S_told (Kd.S_told (Kd.S_old au62 hb) (Kd.S_base ho0)) (Kd.S_base ho1)) (fun _ h_ => h_.1)); replace BK316 := Aside0.mk (blk_below (g := gb316) au57 hb); replace HB := Aside0.mk (below_step au31 hb); (try clear hb); (try clear ho0); (try clear ho1)) | ((with_reducible refine gate_dst (N := 8) rfl ?_); refine box_event ?hg (N := 8) ?hd (cs := #[.string (⟨#[]⟩ : ByteArray), .int .i64 0, .slice none 0 0, .slice none 0 0, .string (⟨#[]⟩ : ByteArray), .string (⟨#[]⟩ : ByteArray), .string (⟨#[]⟩ : ByteArray), .int .i64 0, .int .i64 0, .int .i64 0, .bool false, .int .i64 0, .string (⟨#[]⟩ : ByteArray), .string (⟨#[]⟩ : ByteArray)]) (t := 33) ?hr ?_; (case hd => rfl); (case hg => rfl); (case hr => first | (go_simp; done) | (go_simp; rfl)); intro gb356 hg w25 hbox hb; replace HO322 := Aside0.mk (Kd.S_below au61 hb); replace HO325 := Aside0.mk (Kd.S_below au62 hb); replace HO342 := Aside0.mk (Kd.S_below (by (with_reducible repeat (first | apply Kd.S_alloc | apply Kd.S_drewN | apply Kd.S_drew)); exact HO342.out) hb); replace HO345 := Aside0.mk (Kd.S_below (by (with_reducible repeat (first | apply Kd.S_alloc | apply Kd.S_drewN | apply Kd.S_drew)); exact HO345.out) hb); have BK356 := Aside0.mk (hbox); have GW356 := Aside0.mk (bsz hg au31); have GE356 := Aside0.mk (bsz hg au31); replace HB := Aside0.mk (below_step au31 hb); have NB316_356 := Aside0.mk (bne (g := gb316) hg au57); have NB356_316 := Aside0.mk (ben (g := gb316) hg au57); replace BK316 := Aside0.mk (blk_below (g := gb316) au57 hb); clear hb hbox hg; have hnb26 := NB356_316.out; have hnc26 := NB316_356.out; obtain ⟨hcz27_0, hcz27_1, hcz27_2, hcz27_3, hcz27_4, hcz27_5, hcz27_6, hcz27_7, hcz27_8, hcz27_9, hcz27_10, hcz27_11, hcz27_12, hcz27_13, hfz27_0, hfz27_1, hfz27_2, hfz27_3, hfz27_4, hfz27_5, hfz27_6, hfz27_7, hfz27_8, hfz27_9, hfz27_10, hfz27_11, hfz27_12, hfz27_13⟩ := blkc14 BK356.out; obtain ⟨Ao28, co28, eo28⟩ := Kd.S_slice HO342.out; subst eo28; obtain ⟨Ao29, co29, eo29⟩ := Kd.S_slice HO345.out; subst eo29) | ((with_reducible refine gate_callee (f := 10) rfl ?_); refine goesL_ (some 31) rfl rfl Tryz.func10 (by kernel_rfl) rfl #[.agg #[.string t338, .int .i64 t339, .slice Ao28 t340.length co28, .slice Ao29 t343.length co29, .string t346, .string t347, .string t348, .int .i64 t349, .int .i64 t350, .int .i64 t351, .bool t352, .int .i64 t353, .string t354, .string t355], .string a1] rfl au32 ?_; (with_reducible refine (impl_FieldText.calls (hG := au2) k t338 t339 _ _ t340 _ _ t343 t346 t347 t348 t349 t350 t351 t352 t353 t354 t355 a1 t357 t358 _ ?side1 ?side2 ?side3 ?side4 A13.out).mono ?_); (case side1 => refine (Kd.S_reads' (e := 80) (base := w.heap.size) (ok := fun k_ => ((some k_ ≠ (.slice Ao29 t343.length co29 : Value).ownBlock ∧ some k_ ≠ (.slice Ao20 t320.length co20 : Value).ownBlock) ∧ some k_ ≠ (.slice Ao21 t323.length co21 : Value).ownBlock)) (n := t340.length) (c := co28) ?_).2.2; exact au0); (case side2 => exact (Kd.S_reads' HO342.out).2.1); (case side3 => refine (Kd.S_reads' (e := 80) (base := w.heap.size) (ok := fun k_ => ((some k_ ≠ (.slice Ao28 t340.length co28 : Value).ownBlock ∧ some k_ ≠ (.slice Ao20 t320.length co20 : Value).ownBlock) ∧ some k_ ≠ (.slice Ao21 t323.length co21 : Value).ownBlock)) (n := t343.length) (c := co29) ?_).2.2; exact au1); (case side4 => exact (Kd.S_reads' HO345.out).2.1); rintro e w30 ⟨rfl, hb⟩; refine ⟨_, rfl, ?_⟩; replace HO322 := Aside0.mk (Kd.S_below (by (with_reducible repeat (first | apply Kd.S_alloc | apply Kd.S_drewN | apply Kd.S_drew)); exact (Kd.S_mono (Kd.S_far (p := ⟨gb356, 13, none⟩) (Kd.S_far (p := ⟨gb356, 12, none⟩) (Kd.S_far (p := ⟨gb356, 11, none⟩) (Kd.S_far (p := ⟨gb356, 10, none⟩) (Kd.S_far (p := ⟨gb356, 9, none⟩) (Kd.S_far (p := ⟨gb356, 8, none⟩) (Kd.S_far (p := ⟨gb356, 7, none⟩) (Kd.S_far (p := ⟨gb356, 6, none⟩) (Kd.S_far (p := ⟨gb356, 5, none⟩) (Kd.S_far (p := ⟨gb356, 4, none⟩) (Kd.S_far (p := ⟨gb356, 3, none⟩) (Kd.S_far (p := ⟨gb356, 2, none⟩) (Kd.S_far (p := ⟨gb356, 1, none⟩) (Kd.S_far (p := ⟨gb356, 0, none⟩) (Kd.S_types HO322.out BK356.out (by decide)) (fun _ hk => hk.2) (.string t338)) (fun _ hk => hk.2) (.int .i64 t339)) (fun _ hk => hk.2) (.slice Ao28 t340.length co28)) (fun _ hk => hk.2) (.slice Ao29 t343.length co29)) (fun _ hk => hk.2) (.string t346)) (fun _ hk => hk.2) (.string t347)) (fun _ hk => hk.2) (.string t348)) (fun _ hk => hk.2) (.int .i64 t349)) (fun _ hk => hk.2) (.int .i64 t350)) (fun _ hk => hk.2) (.int .i64 t351)) (fun _ hk => hk.2) (.bool t352)) (fun _ hk => hk.2) (.int .i64 t353)) (fun _ hk => hk.2) (.string t354)) (fun _ hk => hk.2) (.string t355)) (fun _ h_ => h_.1))) hb); replace HO325 := Aside0.mk (Kd.S_below (by (with_reducible repeat (first | apply Kd.S_alloc | apply Kd.S_drewN | apply Kd.S_drew)); exact (Kd.S_mono (Kd.S_far (p := ⟨gb356, 13, none⟩) (Kd.S_far (p := ⟨gb356, 12, none⟩) (Kd.S_far (p := ⟨gb356, 11, none⟩) (Kd.S_far (p := ⟨gb356, 10, none⟩) (Kd.S_far (p := ⟨gb356, 9, none⟩) (Kd.S_far (p := ⟨gb356, 8, none⟩) (Kd.S_far (p := ⟨gb356, 7, none⟩) (Kd.S_far (p := ⟨gb356, 6, none⟩) (Kd.S_far (p := ⟨gb356, 5, none⟩) (Kd.S_far (p := ⟨gb356, 4, none⟩) (Kd.S_far (p := ⟨gb356, 3, none⟩) (Kd.S_far (p := ⟨gb356, 2, none⟩) (Kd.S_far (p := ⟨gb356, 1, none⟩) (Kd.S_far (p := ⟨gb356, 0, none⟩) (Kd.S_types HO325.out BK356.out (by decide)) (fun _ hk => hk.2) (.string t338)) (fun _ hk => hk.2) (.int .i64 t339)) (fun _ hk => hk.2) (.slice Ao28 t340.length co28)) (fun _ hk => hk.2) (.slice Ao29 t343.length co29)) (fun _ hk => hk.2) (.string t346)) (fun _ hk => hk.2) (.string t347)) (fun _ hk => hk.2) (.string t348)) (fun _ hk => hk.2) (.int .i64 t349)) (fun _ hk => hk.2) (.int .i64 t350)) (fun _ hk => hk.2) (.int .i64 t351)) (fun _ hk => hk.2) (.bool t352)) (fun _ hk => hk.2) (.int .i64 t353)) (fun _ hk => hk.2) (.string t354)) (fun _ hk => hk.2) (.string t355)) (fun _ h_ => h_.1))) hb); replace HO342 := Aside0.mk (Kd.S_below au0 hb); replace HO345 := Aside0.mk (Kd.S_below au1 hb); replace BK316 := Aside0.mk (blk_below (g := gb316) (o := .cells #[.string a0_0, .int .i64 a0_1, .slice A0_2 l0_2.length c0_2, .slice A0_3 l0_3.length c0_3, .string a0_4, .string a0_5, .string a0_6, .int .i64 a0_7, .int .i64 a0_8, .int .i64 a0_9, .bool a0_10, .int .i64 a0_11, .string a0_12, .string a0_13] 26 (0, 0)) (by (with_reducible repeat (first | refine blk_drewN ?_ _ | refine blk_drew ?_ | refine blk_alloc ?_ _)); refine blk_far ?_ NB316_356.out _; (with_reducible repeat (first | refine blk_drewN ?_ _ | refine blk_drew ?_ | refine blk_alloc ?_ _)); refine blk_far ?_ NB316_356.out _; (with_reducible repeat (first | refine blk_drewN ?_ _ | refine blk_drew ?_ | refine blk_alloc ?_ _)); refine blk_far ?_ NB316_356.out _; (with_reducible repeat (first | refine blk_drewN ?_ _ | refine blk_drew ?_ | refine blk_alloc ?_ _)); refine blk_far ?_ NB316_356.out _; (with_reducible repeat (first | refine blk_drewN ?_ _ | refine blk_drew ?_ | refine blk_alloc ?_ _)); refine blk_far ?_ NB316_356.out _; (with_reducible repeat (first | refine blk_drewN ?_ _ | refine blk_drew ?_ | refine blk_alloc ?_ _)); refine blk_far ?_ NB316_356.out _; (with_reducible repeat (first | refine blk_drewN ?_ _ | refine blk_drew ?_ | refine blk_alloc ?_ _)); refine blk_far ?_ NB316_356.out _; (with_reducible repeat (first | refine blk_drewN ?_ _ | refine blk_drew ?_ | refine blk_alloc ?_ _)); refine blk_far ?_ NB316_356.out _; (with_reducible repeat (first | refine blk_drewN ?_ _ | refine blk_drew ?_ | refine blk_alloc ?_ _)); refine blk_far ?_ NB316_356.out _; (with_reducible repeat (first | refine blk_drewN ?_ _ | refine blk_drew ?_ | refine blk_alloc ?_ _)); refine blk_far ?_ NB316_356.out _; (with_reducible repeat (first | refine blk_drewN ?_ _ | refine blk_drew ?_ | refine blk_alloc ?_ _)); refine blk_far ?_ NB316_356.out _; (with_reducible repeat (first | refine blk_drewN ?_ _ | refine blk_drew ?_ | refine blk_alloc ?_ _)); refine blk_far ?_ NB316_356.out _; (with_reducible repeat (first | refine blk_drewN ?_ _ | refine blk_drew ?_ | refine blk_alloc ?_ _)); refine blk_far ?_ NB316_356.out _; (with_reducible repeat (first | refine blk_drewN ?_ _ | refine blk_drew ?_ | refine blk_alloc ?_ _)); refine blk_far ?_ NB316_356.out _; (with_reducible repeat (first | refine blk_drewN ?_ _ | refine blk_drew ?_ | refine blk_alloc ?_ _)); exact BK316.out) hb); replace BK356 := Aside0.mk (blk_below (g := gb356) (o := .cells #[.string t338, .int .i64 t339, .slice Ao28 t340.length co28, .slice Ao29 t343.length co29, .string t346, .string t347, .string t348, .int .i64 t349, .int .i64 t350, .int .i64 t351, .bool t352, .int .i64 t353, .string t354, .string t355] 33 (0, 0)) (by (with_reducible repeat (first | refine blk_drewN ?_ _ | refine blk_drew ?_ | refine blk_alloc ?_ _)); refine blk_put (cs := #[.string t338, .int .i64 t339, .slice Ao28 t340.length co28, .slice Ao29 t343.length co29, .string t346, .string t347, .string t348, .int .i64 t349, .int .i64 t350, .int .i64 t351, .bool t352, .int .i64 t353, .string t354, .string (⟨#[]⟩ : ByteArray)]) ?_ 13 _ rfl; (with_reducible repeat (first | refine blk_drewN ?_ _ | refine blk_drew ?_ | refine blk_alloc ?_ _)); refine blk_put (cs := #[.string t338, .int .i64 t339, .slice Ao28 t340.length co28, .slice Ao29 t343.length co29, .string t346, .string t347, .string t348, .int .i64 t349, .int .i64 t350, .int .i64 t351, .bool t352, .int .i64 t353, .string (⟨#[]⟩ : ByteArray), .string (⟨#[]⟩ : ByteArray)]) ?_ 12 _ rfl; (with_reducible repeat (first | refine blk_drewN ?_ _ | refine blk_drew ?_ | refine blk_alloc ?_ _)); refine blk_put (cs := #[.string t338, .int .i64 t339, .slice Ao28 t340.length co28, .slice Ao29 t343.length co29, .string t346, .string t347, .string t348, .int .i64 t349, .int .i64 t350, .int .i64 t351, .bool t352, .int .i64 0, .string (⟨#[]⟩ : ByteArray), .string (⟨#[]⟩ : ByteArray)]) ?_ 11 _ rfl; (with_reducible repeat (first | refine blk_drewN ?_ _ | refine blk_drew ?_ | refine blk_alloc ?_ _)); refine blk_put (cs := #[.string t338, .int .i64 t339, .slice Ao28 t340.length co28, .slice Ao29 t343.length co29, .string t346, .string t347, .string t348, .int .i64 t349, .int .i64 t350, .int .i64 t351, .bool false, .int .i64 0, .string (⟨#[]⟩ : ByteArray), .string (⟨#[]⟩ : ByteArray)]) ?_ 10 _ rfl; (with_reducible repeat (first | refine blk_drewN ?_ _ | refine blk_drew ?_ | refine blk_alloc ?_ _)); refine blk_put (cs := #[.string t338, .int .i64 t339, .slice Ao28 t340.length co28, .slice Ao29 t343.length co29, .string t346, .string t347, .string t348, .int .i64 t349, .int .i64 t350, .int .i64 0, .bool false, .int .i64 0, .string (⟨#[]⟩ : ByteArray), .string (⟨#[]⟩ : ByteArray)]) ?_ 9 _ rfl; (with_reducible repeat (first | refine blk_drewN ?_ _ | refine blk_drew ?_ | refine blk_alloc ?_ _)); refine blk_put (cs := #[.string t338, .int .i64 t339, .slice Ao28 t340.length co28, .slice Ao29 t343.length co29, .string t346, .string t347, .string t348, .int .i64 t349, .int .i64 0, .int .i64 0, .bool false, .int .i64 0, .string (⟨#[]⟩ : ByteArray), .string (⟨#[]⟩ : ByteArray)]) ?_ 8 _ rfl; (with_reducible repeat (first | refine blk_drewN ?_ _ | refine blk_drew ?_ | refine blk_alloc ?_ _)); refine blk_put (cs := #[.string t338, .int .i64 t339, .slice Ao28 t340.length co28, .slice Ao29 t343.length co29, .string t346, .string t347, .string t348, .int .i64 0, .int .i64 0, .int .i64 0, .bool false, .int .i64 0, .string (⟨#[]⟩ : ByteArray), .string (⟨#[]⟩ : ByteArray)]) ?_ 7 _ rfl; (with_reducible repeat (first | refine blk_drewN ?_ _ | refine blk_drew ?_ | refine blk_alloc ?_ _)); refine blk_put (cs := #[.string t338, .int .i64 t339, .slice Ao28 t340.length co28, .slice Ao29 t343.length co29, .string t346, .string t347, .string (⟨#[]⟩ : ByteArray), .int .i64 0, .int .i64 0, .int .i64 0, .bool false, .int .i64 0, .string (⟨#[]⟩ : ByteArray), .string (⟨#[]⟩ : ByteArray)]) ?_ 6 _ rfl; (with_reducible repeat (first | refine blk_drewN ?_ _ | refine blk_drew ?_ | refine blk_alloc ?_ _)); refine blk_put (cs := #[.string t338, .int .i64 t339, .slice Ao28 t340.length co28, .slice Ao29 t343.length co29, .string t346, .string (⟨#[]⟩ : ByteArray), .string (⟨#[]⟩ : ByteArray), .int .i64 0, .int .i64 0, .int .i64 0, .bool false, .int .i64 0, .string (⟨#[]⟩ : ByteArray), .string (⟨#[]⟩ : ByteArray)]) ?_ 5 _ rfl; (with_reducible repeat (first | refine blk_drewN ?_ _ | refine blk_drew ?_ | refine blk_alloc ?_ _)); refine blk_put (cs := #[.string t338, .int .i64 t339, .slice Ao28 t340.length co28, .slice Ao29 t343.length co29, .string (⟨#[]⟩ : ByteArray), .string (⟨#[]⟩ : ByteArray), .string (⟨#[]⟩ : ByteArray), .int .i64 0, .int .i64 0, .int .i64 0, .bool false, .int .i64 0, .string (⟨#[]⟩ : ByteArray), .string (⟨#[]⟩ : ByteArray)]) ?_ 4 _ rfl; (with_reducible repeat (first | refine blk_drewN ?_ _ | refine blk_drew ?_ | refine blk_alloc ?_ _)); refine blk_put (cs := #[.string t338, .int .i64 t339, .slice Ao28 t340.length co28, .slice none 0 0, .string (⟨#[]⟩ : ByteArray), .string (⟨#[]⟩ : ByteArray), .string (⟨#[]⟩ : ByteArray), .int .i64 0, .int .i64 0, .int .i64 0, .bool false, .int .i64 0, .string (⟨#[]⟩ : ByteArray), .string (⟨#[]⟩ : ByteArray)]) ?_ 3 _ rfl; (with_reducible repeat (first | refine blk_drewN ?_ _ | refine blk_drew ?_ | refine blk_alloc ?_ _)); refine blk_put (cs := #[.string t338, .int .i64 t339, .slice none 0 0, .slice none 0 0, .string (⟨#[]⟩ : ByteArray), .string (⟨#[]⟩ : ByteArray), .string (⟨#[]⟩ : ByteArray), .int .i64 0, .int .i64 0, .int .i64 0, .bool false, .int .i64 0, .string (⟨#[]⟩ : ByteArray), .string (⟨#[]⟩ : ByteArray)]) ?_ 2 _ rfl; (with_reducible repeat (first | refine blk_drewN ?_ _ | refine blk_drew ?_ | refine blk_alloc ?_ _)); refine blk_put (cs := #[.string t338, .int .i64 0, .slice none 0 0, .slice none 0 0, .string (⟨#[]⟩ : ByteArray), .string (⟨#[]⟩ : ByteArray), .string (⟨#[]⟩ : ByteArray), .int .i64 0, .int .i64 0, .int .i64 0, .bool false, .int .i64 0, .string (⟨#[]⟩ : ByteArray), .string (⟨#[]⟩ : ByteArray)]) ?_ 1 _ rfl; (with_reducible repeat (first | refine blk_drewN ?_ _ | refine blk_drew ?_ | refine blk_alloc ?_ _)); refine blk_put (cs := #[.string (⟨#[]⟩ : ByteArray), .int .i64 0, .slice none 0 0, .slice none 0 0, .string (⟨#[]⟩ : ByteArray), .string (⟨#[]⟩ : ByteArray), .string (⟨#[]⟩ : ByteArray), .int .i64 0, .int .i64 0, .int .i64 0, .bool false, .int .i64 0, .string (⟨#[]⟩ : ByteArray), .string (⟨#[]⟩ : ByteArray)]) ?_ 0 _ rfl; (with_reducible repeat (first | refine blk_drewN ?_ _ | refine blk_drew ?_ | refine blk_alloc ?_ _)); exact BK356.out) hb); replace HB := Aside0.mk (below_step au10 hb); (try clear hb)))
   (try simp only [Act.put, List.setIfInBounds_toArray, List.set_cons_zero, List.set_cons_succ])
   go_cut [41] (fun v41 wc => ∃ (kq : Nat) (x41_13 : Bool), v41 = .bool x41_13 ∧ Aside0 (laws_FnExactFieldText.j0 kq x41_13 a0_0 a0_1 l0_2 l0_3 a0_4 a0_5 a0_6 a0_7 a0_8 a0_9 a0_10 a0_11 a0_12 a0_13 t338 t339 t340 t343 t346 t347 t348 t349 t350 t351 t352 t353 t354 t355 = some true) ∧ Aside0 (kq ≤ k) ∧ Aside0 (Kd.S k80 80 wc w.heap.size (fun k_ => some k_ ≠ ((.slice Ao29 t343.length co29) : Value).ownBlock) (.slice Ao28 t340.length co28) t340) ∧ Aside0 (Kd.S k80 80 wc w.heap.size (fun k_ => some k_ ≠ ((.slice Ao28 t340.length co28) : Value).ownBlock) (.slice Ao29 t343.length co29) t343) ∧ Aside0 (wc.heap[gb316]? = some (.cells #[.string a0_0, .int .i64 a0_1, (.slice A0_2 l0_2.length c0_2), (.slice A0_3 l0_3.length c0_3), .string a0_4, .string a0_5, .string a0_6, .int .i64 a0_7, .int .i64 a0_8, .int .i64 a0_9, .bool a0_10, .int .i64 a0_11, .string a0_12, .string a0_13] 26 (0, 0))) ∧ Aside0 (wc.heap[gb356]? = some (.cells #[.string t338, .int .i64 t339, (.slice Ao28 t340.length co28), (.slice Ao29 t343.length co29), .string t346, .string t347, .string t348, .int .i64 t349, .int .i64 t350, .int .i64 t351, .bool t352, .int .i64 t353, .string t354, .string t355] 33 (0, 0))) ∧ Aside0 (Below w.heap.size w wc))
   case first =>
    have H := HC14.out
    clear HC14
    by_cases c31 : t357.toList = t336.toList
    ·
     rw [if_pos c31] at H
     have c31b0 : (t357.toList == t336.toList) = true := beq_iff_eq.mpr c31
     have c31b1 : (t357.toList != t336.toList) = false := bne_eq_false_iff_eq.mpr c31
     clear c31
     (first | rw [c31b0] | (simp only [i64_w, i32_w]; rw [c31b0]) | skip)
     have H' := Aside0.mk H
     clear H
     go_wp2
     go_meet
     case rel => exact ⟨_, ((t358 != t337)), au67, H', ⟨by first | omega | exact Nat.le_refl _⟩, ⟨by (with_reducible repeat (first | apply Kd.S_alloc | apply Kd.S_drewN | apply Kd.S_drew)); exact Kd.S_mono HO342.out (fun _ hk => hk.1.1)⟩, ⟨by (with_reducible repeat (first | apply Kd.S_alloc | apply Kd.S_drewN | apply Kd.S_drew)); exact Kd.S_mono HO345.out (fun _ hk => hk.1.1)⟩, ⟨by (with_reducible repeat (first | refine blk_drewN ?_ _ | refine blk_drew ?_ | refine blk_alloc ?_ _)); exact BK316.out⟩, ⟨by (with_reducible repeat (first | refine blk_drewN ?_ _ | refine blk_drew ?_ | refine blk_alloc ?_ _)); exact BK356.out⟩, ⟨by repeat (first | (with_reducible first | exact HB.out | apply below_alloc | apply pw_below_drewN | apply below_drew1 | refine below_set ?_ GE316.out | refine below_set ?_ GE356.out) | exact HB.out)⟩⟩
    ·
     rw [if_neg c31] at H
     have c31b0 : (t357.toList == t336.toList) = false := beq_eq_false_iff_ne.mpr c31
     have c31b1 : (t357.toList != t336.toList) = true := bne_iff_ne.mpr c31
     (first | rw [c31b0] | (simp only [i64_w, i32_w]; rw [c31b0]) | skip)
     have H' := Aside0.mk H
     clear H
     go_wp2
     go_meet
     case rel => exact ⟨_, (true), au67, H', ⟨by first | omega | exact Nat.le_refl _⟩, ⟨by (with_reducible repeat (first | apply Kd.S_alloc | apply Kd.S_drewN | apply Kd.S_drew)); exact Kd.S_mono HO342.out (fun _ hk => hk.1.1)⟩, ⟨by (with_reducible repeat (first | apply Kd.S_alloc | apply Kd.S_drewN | apply Kd.S_drew)); exact Kd.S_mono HO345.out (fun _ hk => hk.1.1)⟩, ⟨by (with_reducible repeat (first | refine blk_drewN ?_ _ | refine blk_drew ?_ | refine blk_alloc ?_ _)); exact BK316.out⟩, ⟨by (with_reducible repeat (first | refine blk_drewN ?_ _ | refine blk_drew ?_ | refine blk_alloc ?_ _)); exact BK356.out⟩, ⟨by repeat (first | (with_reducible first | exact HB.out | apply below_alloc | apply pw_below_drewN | apply below_drew1 | refine below_set ?_ GE316.out | refine below_set ?_ GE356.out) | exact HB.out)⟩⟩
   case rest =>
    clear HC14
    try clear c1
    try clear c2
    try clear p2
    try clear c3
    try clear c3b0
    try clear c3b1
    try clear c6
    try clear c6b0
    try clear c7
    try clear c8
    try clear c9
    try clear c10
    try clear c26
    try clear c31
    try clear c31b0
    try clear c31b1
    try clear hcz16_0
    try clear hcz16_1
    try clear hcz16_10
    try clear hcz16_11
    try clear hcz16_12
    try clear hcz16_13
    try clear hcz16_2
    try clear hcz16_3
    try clear hcz16_4
    try clear hcz16_5
    try clear hcz16_6
    try clear hcz16_7
    try clear hcz16_8
    try clear hcz16_9
    try clear hcz18_0
    try clear hcz18_1
    try clear hcz18_10
    try clear hcz18_11
    try clear hcz18_12
    try clear hcz18_13
    try clear hcz18_2
    try clear hcz18_3
    try clear hcz18_4
    try clear hcz18_5
    try clear hcz18_6
    try clear hcz18_7
    try clear hcz18_8
    try clear hcz18_9
    try clear hcz23_0
    try clear hcz23_1
    try clear hcz23_10
    try clear hcz23_11
    try clear hcz23_12
    try clear hcz23_13
    try clear hcz23_2
    try clear hcz23_3
    try clear hcz23_4
    try clear hcz23_5
    try clear hcz23_6
    try clear hcz23_7
    try clear hcz23_8
    try clear hcz23_9
    try clear hcz27_0
    try clear hcz27_1
    try clear hcz27_10
    try clear hcz27_11
    try clear hcz27_12
    try clear hcz27_13
    try clear hcz27_2
    try clear hcz27_3
    try clear hcz27_4
    try clear hcz27_5
    try clear hcz27_6
    try clear hcz27_7
    try clear hcz27_8
    try clear hcz27_9
    try clear hcz8_0
    try clear hcz8_1
    try clear hcz8_10
    try clear hcz8_11
    try clear hcz8_12
    try clear hcz8_13
    try clear hcz8_2
    try clear hcz8_3
    try clear hcz8_4
    try clear hcz8_5
    try clear hcz8_6
    try clear hcz8_7
    try clear hcz8_8
    try clear hcz8_9
    try clear hfz16_0
    try clear hfz16_1
    try clear hfz16_10
    try clear hfz16_11
    try clear hfz16_12
    try clear hfz16_13
    try clear hfz16_2
    try clear hfz16_3
    try clear hfz16_4
    try clear hfz16_5
    try clear hfz16_6
    try clear hfz16_7
    try clear hfz16_8
    try clear hfz16_9
    try clear hfz18_0
    try clear hfz18_1
    try clear hfz18_10
    try clear hfz18_11
    try clear hfz18_12
    try clear hfz18_13
    try clear hfz18_2
    try clear hfz18_3
    try clear hfz18_4
    try clear hfz18_5
    try clear hfz18_6
    try clear hfz18_7
    try clear hfz18_8
    try clear hfz18_9
    try clear hfz23_0
    try clear hfz23_1
    try clear hfz23_10
    try clear hfz23_11
    try clear hfz23_12
    try clear hfz23_13
    try clear hfz23_2
    try clear hfz23_3
    try clear hfz23_4
    try clear hfz23_5
    try clear hfz23_6
    try clear hfz23_7
    try clear hfz23_8
    try clear hfz23_9
    try clear hfz27_0
    try clear hfz27_1
    try clear hfz27_10
    try clear hfz27_11
    try clear hfz27_12
    try clear hfz27_13
    try clear hfz27_2
    try clear hfz27_3
    try clear hfz27_4
    try clear hfz27_5
    try clear hfz27_6
    try clear hfz27_7
    try clear hfz27_8
    try clear hfz27_9
    try clear hfz8_0
    try clear hfz8_1
    try clear hfz8_10
    try clear hfz8_11
    try clear hfz8_12
    try clear hfz8_13
    try clear hfz8_2
    try clear hfz8_3
    try clear hfz8_4
    try clear hfz8_5
    try clear hfz8_6
    try clear hfz8_7
    try clear hfz8_8
    try clear hfz8_9
    obtain ⟨kq, x41_13, rfl, HA, HJ13, HO_357002, HO_357003, BK316, BK356, HB⟩ := hcut
    cases kq with
    | zero => exact absurd HA.out (by simp [laws_FnExactFieldText.j0])
    | succ kj13 =>
     have H := HA.out
     clear HA
     simp only [laws_FnExactFieldText.j0] at H
     by_cases c32 : x41_13 = true
     ·
      subst c32
      replace H := (if_pos rfl).symm.trans H
      exact absurd H (by simp)
     ·
      replace c32 := Bool.eq_false_iff.mpr c32
      subst c32
      replace H := (if_neg (show ¬ (false = true) by decide)).symm.trans H
      replace H := Option.bind_eq_some_iff.mp H
      obtain ⟨⟨t359, t360, t361, t364, t367, t368, t369, t370, t371, t372, t373, t374, t375, t376⟩, A330, H⟩ := H
      replace H : ((laws_eqEntry.f kj13 t338 t339 t340 t343 t346 t347 t348 t349 t350 t351 t352 t353 t354 t355 t359 t360 t361 t364 t367 t368 t369 t370 t371 t372 t373 t374 t375 t376).bind fun t377 => (if t377 = true then (some true) else (some false))) = some true := H
      have A33 := Aside0.mk A330
      clear A330
      replace H := Option.bind_eq_some_iff.mp H
      obtain ⟨t377, A340, H⟩ := H
      try dsimp only at H
      have A34 := Aside0.mk A340
      clear A340
      by_cases c35 : t377 = true
      ·
       subst c35
       have H1 : (some true) = some true := rfl
       clear H
       have H := H1
       clear H1
       clear H
       try go_wp2
       replace HO_357002 := Aside0.mk (Kd.S_drew HO_357002.out)
       replace HO_357003 := Aside0.mk (Kd.S_drew HO_357003.out)
       replace BK316 := Aside0.mk (blk_drew BK316.out)
       replace BK356 := Aside0.mk (blk_drew BK356.out)
       replace HB := Aside0.mk (below_drew1 HB.out)
       refine start_ (n := 5) (S := fun w' => w'.cell? ⟨gb356, 0, none⟩ = some (.string t338) ∧ w'.cell? ⟨gb356, 1, none⟩ = some (.int .i64 t339) ∧ w'.cell? ⟨gb356, 2, none⟩ = some (.slice Ao28 t340.length co28) ∧ w'.cell? ⟨gb356, 3, none⟩ = some (.slice Ao29 t343.length co29) ∧ w'.cell? ⟨gb356, 4, none⟩ = some (.string t346) ∧ w'.cell? ⟨gb356, 5, none⟩ = some (.string t347) ∧ w'.cell? ⟨gb356, 6, none⟩ = some (.string t348) ∧ w'.cell? ⟨gb356, 7, none⟩ = some (.int .i64 t349) ∧ w'.cell? ⟨gb356, 8, none⟩ = some (.int .i64 t350) ∧ w'.cell? ⟨gb356, 9, none⟩ = some (.int .i64 t351) ∧ w'.cell? ⟨gb356, 10, none⟩ = some (.bool t352) ∧ w'.cell? ⟨gb356, 11, none⟩ = some (.int .i64 t353) ∧ w'.cell? ⟨gb356, 12, none⟩ = some (.string t354) ∧ w'.cell? ⟨gb356, 13, none⟩ = some (.string t355) ∧ w'.cell? ⟨gb316, 0, none⟩ = some (.string a0_0) ∧ w'.cell? ⟨gb316, 1, none⟩ = some (.int .i64 a0_1) ∧ w'.cell? ⟨gb316, 2, none⟩ = some (.slice A0_2 l0_2.length c0_2) ∧ w'.cell? ⟨gb316, 3, none⟩ = some (.slice A0_3 l0_3.length c0_3) ∧ w'.cell? ⟨gb316, 4, none⟩ = some (.string a0_4) ∧ w'.cell? ⟨gb316, 5, none⟩ = some (.string a0_5) ∧ w'.cell? ⟨gb316, 6, none⟩ = some (.string a0_6) ∧ w'.cell? ⟨gb316, 7, none⟩ = some (.int .i64 a0_7) ∧ w'.cell? ⟨gb316, 8, none⟩ = some (.int .i64 a0_8) ∧ w'.cell? ⟨gb316, 9, none⟩ = some (.int .i64 a0_9) ∧ w'.cell? ⟨gb316, 10, none⟩ = some (.bool a0_10) ∧ w'.cell? ⟨gb316, 11, none⟩ = some (.int .i64 a0_11) ∧ w'.cell? ⟨gb316, 12, none⟩ = some (.string a0_12) ∧ w'.cell? ⟨gb316, 13, none⟩ = some (.string a0_13)) (ds := []) #[false, false, false, false, false] (by kernel_rfl) rfl rfl ⟨(blk_cell BK356.out 0).trans rfl, (blk_cell BK356.out 1).trans rfl, (blk_cell BK356.out 2).trans rfl, (blk_cell BK356.out 3).trans rfl, (blk_cell BK356.out 4).trans rfl, (blk_cell BK356.out 5).trans rfl, (blk_cell BK356.out 6).trans rfl, (blk_cell BK356.out 7).trans rfl, (blk_cell BK356.out 8).trans rfl, (blk_cell BK356.out 9).trans rfl, (blk_cell BK356.out 10).trans rfl, (blk_cell BK356.out 11).trans rfl, (blk_cell BK356.out 12).trans rfl, (blk_cell BK356.out 13).trans rfl, (blk_cell BK316.out 0).trans rfl, (blk_cell BK316.out 1).trans rfl, (blk_cell BK316.out 2).trans rfl, (blk_cell BK316.out 3).trans rfl, (blk_cell BK316.out 4).trans rfl, (blk_cell BK316.out 5).trans rfl, (blk_cell BK316.out 6).trans rfl, (blk_cell BK316.out 7).trans rfl, (blk_cell BK316.out 8).trans rfl, (blk_cell BK316.out 9).trans rfl, (blk_cell BK316.out 10).trans rfl, (blk_cell BK316.out 11).trans rfl, (blk_cell BK316.out 12).trans rfl, (blk_cell BK316.out 13).trans rfl⟩ (fun hHeld => ?_)
       generalize wc.drew = w36 at HO_357002 HO_357003 BK316 BK356 HB hHeld ⊢
       refine take_ (i := 0) (N := some 42) (v := ?_) (a' := ?_) #[true, false, false, false, false] rfl rfl (by kernel_rfl) (fun _ _ _ h => h) (Or.inl ⟨by rfl, ?_⟩) hHeld ?_ ?_
       rotate_left
       ·
        rintro w' ⟨s0, s1, s2, s3, s4, s5, s6, s7, s8, s9, s10, s11, s12, s13, s14, s15, s16, s17, s18, s19, s20, s21, s22, s23, s24, s25, s26, s27⟩
        go_simp
        with_reducible rfl
       rotate_left
       ·
        simp only [Act.put, List.setIfInBounds_toArray, List.set_cons_zero, List.set_cons_succ, i64_w, i32_w]
        rfl
       refine take_ (i := 1) (N := some 43) (v := ?_) (a' := ?_) #[true, true, false, false, false] rfl rfl (by kernel_rfl) (fun _ _ _ h => h) (Or.inl ⟨by rfl, ?_⟩) hHeld ?_ ?_
       rotate_left
       ·
        rintro w' ⟨s0, s1, s2, s3, s4, s5, s6, s7, s8, s9, s10, s11, s12, s13, s14, s15, s16, s17, s18, s19, s20, s21, s22, s23, s24, s25, s26, s27⟩
        go_simp
        with_reducible rfl
       rotate_left
       ·
        simp only [Act.put, List.setIfInBounds_toArray, List.set_cons_zero, List.set_cons_succ, i64_w, i32_w]
        rfl
       refine one_ (i := 2) (N := some 44) #[true, true, true, false, false] rfl rfl (by kernel_rfl) (by decide) (fun K hK => ?_)
       refine gs_ Tryz.func9 #[.agg #[.string a0_0, .int .i64 a0_1, .slice A0_2 l0_2.length c0_2, .slice A0_3 l0_3.length c0_3, .string a0_4, .string a0_5, .string a0_6, .int .i64 a0_7, .int .i64 a0_8, .int .i64 a0_9, .bool a0_10, .int .i64 a0_11, .string a0_12, .string a0_13]] ?_
       with_reducible refine (laws_toEntry.calls kj13 a0_0 a0_1 _ _ l0_2 _ _ l0_3 a0_4 a0_5 a0_6 a0_7 a0_8 a0_9 a0_10 a0_11 a0_12 a0_13 t359 t360 t361 t364 t367 t368 t369 t370 t371 t372 t373 t374 t375 t376 _ ?side1 ?side2 ?side3 ?side4 A33.out).mono ?_
       (case side1 => repeat (first | exact (Kd.C_below HR0_2.out HB.out) | (with_reducible refine Kd.C_alloc ?_ _) | (with_reducible refine Kd.C_drewN ?_ _) | (with_reducible refine Kd.C_drew ?_)))
       (case side2 => exact HC0_2.out)
       (case side3 => repeat (first | exact (Kd.C_below HR0_3.out HB.out) | (with_reducible refine Kd.C_alloc ?_ _) | (with_reducible refine Kd.C_drewN ?_ _) | (with_reducible refine Kd.C_drew ?_)))
       (case side4 => exact HC0_3.out)
       rintro e w37 ⟨v362, v365, rfl, ho0, ho1, hb⟩
       refine ⟨_, rfl, ?_⟩
       have HO363 := Aside0.mk (Kd.S_lower (Kd.S_new' (Kd.S_new' ho0 (Kd.S_lt au59)) (Kd.S_lt au60)) (below_size au10))
       have HO366 := Aside0.mk (Kd.S_lower (Kd.S_new' (Kd.S_new' ho1 (Kd.S_lt au59)) (Kd.S_lt au60)) (below_size au10))
       replace HO_357002 := Aside0.mk (Kd.S_mono (Kd.S_told (Kd.S_told (Kd.S_old au59 hb) (Kd.S_base ho0)) (Kd.S_base ho1)) (fun _ h_ => h_.1))
       replace HO_357003 := Aside0.mk (Kd.S_mono (Kd.S_told (Kd.S_told (Kd.S_old au60 hb) (Kd.S_base ho0)) (Kd.S_base ho1)) (fun _ h_ => h_.1))
       replace BK316 := Aside0.mk (blk_below (g := gb316) au57 hb)
       replace BK356 := Aside0.mk (blk_below (g := gb356) au58 hb)
       replace HB := Aside0.mk (below_step au10 hb)
       (try clear hb)
       (try clear ho0)
       (try clear ho1)
       obtain ⟨Ao38, co38, eo38⟩ := Kd.S_slice HO363.out
       (first | subst eo38 | (injection eo38 with f1_ f2_ f3_; have f4_ := f1_.symm; have f5_ := f3_.symm; clear f1_ f2_ f3_; subst f4_; subst f5_))
       obtain ⟨Ao39, co39, eo39⟩ := Kd.S_slice HO366.out
       (first | subst eo39 | (injection eo39 with f1_ f2_ f3_; have f4_ := f1_.symm; have f5_ := f3_.symm; clear f1_ f2_ f3_; subst f4_; subst f5_))
       refine hK.out _ _ ⟨(blk_cell BK356.out 0).trans rfl, (blk_cell BK356.out 1).trans rfl, (blk_cell BK356.out 2).trans rfl, (blk_cell BK356.out 3).trans rfl, (blk_cell BK356.out 4).trans rfl, (blk_cell BK356.out 5).trans rfl, (blk_cell BK356.out 6).trans rfl, (blk_cell BK356.out 7).trans rfl, (blk_cell BK356.out 8).trans rfl, (blk_cell BK356.out 9).trans rfl, (blk_cell BK356.out 10).trans rfl, (blk_cell BK356.out 11).trans rfl, (blk_cell BK356.out 12).trans rfl, (blk_cell BK356.out 13).trans rfl, (blk_cell BK316.out 0).trans rfl, (blk_cell BK316.out 1).trans rfl, (blk_cell BK316.out 2).trans rfl, (blk_cell BK316.out 3).trans rfl, (blk_cell BK316.out 4).trans rfl, (blk_cell BK316.out 5).trans rfl, (blk_cell BK316.out 6).trans rfl, (blk_cell BK316.out 7).trans rfl, (blk_cell BK316.out 8).trans rfl, (blk_cell BK316.out 9).trans rfl, (blk_cell BK316.out 10).trans rfl, (blk_cell BK316.out 11).trans rfl, (blk_cell BK316.out 12).trans rfl, (blk_cell BK316.out 13).trans rfl⟩ (fun hHeld => ?_)
       clear hK K
       refine no_ (some 44) ?_
       refine one_ (i := 3) (N := some 45) #[true, true, true, true, false] rfl rfl (by kernel_rfl) (by decide) (fun K hK => ?_)
       refine gs_ Tryz.func11 #[.agg #[.string t338, .int .i64 t339, .slice Ao28 t340.length co28, .slice Ao29 t343.length co29, .string t346, .string t347, .string t348, .int .i64 t349, .int .i64 t350, .int .i64 t351, .bool t352, .int .i64 t353, .string t354, .string t355], .agg #[.string t359, .int .i64 t360, .slice Ao38 t361.length co38, .slice Ao39 t364.length co39, .string t367, .string t368, .string t369, .int .i64 t370, .int .i64 t371, .int .i64 t372, .bool t373, .int .i64 t374, .string t375, .string t376]] ?_
       with_reducible refine (laws_eqEntry.calls kj13 t338 t339 _ _ t340 _ _ t343 t346 t347 t348 t349 t350 t351 t352 t353 t354 t355 t359 t360 _ _ t361 _ _ t364 t367 t368 t369 t370 t371 t372 t373 t374 t375 t376 true _ ?side1 ?side2 ?side3 ?side4 ?side5 ?side6 ?side7 ?side8 A34.out).mono ?_
       (case side1 => repeat (first | exact (Kd.S_reads' HO_357002.out).2.2 | (with_reducible refine Kd.C_alloc ?_ _) | (with_reducible refine Kd.C_drewN ?_ _) | (with_reducible refine Kd.C_drew ?_)))
       (case side2 => exact (Kd.S_reads' HO_357002.out).2.1)
       (case side3 => repeat (first | exact (Kd.S_reads' HO_357003.out).2.2 | (with_reducible refine Kd.C_alloc ?_ _) | (with_reducible refine Kd.C_drewN ?_ _) | (with_reducible refine Kd.C_drew ?_)))
       (case side4 => exact (Kd.S_reads' HO_357003.out).2.1)
       (case side5 => repeat (first | exact (Kd.S_reads' HO363.out).2.2 | (with_reducible refine Kd.C_alloc ?_ _) | (with_reducible refine Kd.C_drewN ?_ _) | (with_reducible refine Kd.C_drew ?_)))
       (case side6 => exact (Kd.S_reads' HO363.out).2.1)
       (case side7 => repeat (first | exact (Kd.S_reads' HO366.out).2.2 | (with_reducible refine Kd.C_alloc ?_ _) | (with_reducible refine Kd.C_drewN ?_ _) | (with_reducible refine Kd.C_drew ?_)))
       (case side8 => exact (Kd.S_reads' HO366.out).2.1)
       rintro e w40 ⟨rfl, hb⟩
       refine ⟨_, rfl, ?_⟩
       replace HO_357002 := Aside0.mk (Kd.S_below au59 hb)
       replace HO_357003 := Aside0.mk (Kd.S_below au60 hb)
       replace HO363 := Aside0.mk (Kd.S_below (by (with_reducible repeat (first | apply Kd.S_alloc | apply Kd.S_drewN | apply Kd.S_drew)); exact HO363.out) hb)
       replace HO366 := Aside0.mk (Kd.S_below (by (with_reducible repeat (first | apply Kd.S_alloc | apply Kd.S_drewN | apply Kd.S_drew)); exact HO366.out) hb)
       replace BK316 := Aside0.mk (blk_below (g := gb316) au57 hb)
       replace BK356 := Aside0.mk (blk_below (g := gb356) au58 hb)
       replace HB := Aside0.mk (below_step au10 hb)
       (try clear hb)
       refine hK.out _ _ ⟨(blk_cell BK356.out 0).trans rfl, (blk_cell BK356.out 1).trans rfl, (blk_cell BK356.out 2).trans rfl, (blk_cell BK356.out 3).trans rfl, (blk_cell BK356.out 4).trans rfl, (blk_cell BK356.out 5).trans rfl, (blk_cell BK356.out 6).trans rfl, (blk_cell BK356.out 7).trans rfl, (blk_cell BK356.out 8).trans rfl, (blk_cell BK356.out 9).trans rfl, (blk_cell BK356.out 10).trans rfl, (blk_cell BK356.out 11).trans rfl, (blk_cell BK356.out 12).trans rfl, (blk_cell BK356.out 13).trans rfl, (blk_cell BK316.out 0).trans rfl, (blk_cell BK316.out 1).trans rfl, (blk_cell BK316.out 2).trans rfl, (blk_cell BK316.out 3).trans rfl, (blk_cell BK316.out 4).trans rfl, (blk_cell BK316.out 5).trans rfl, (blk_cell BK316.out 6).trans rfl, (blk_cell BK316.out 7).trans rfl, (blk_cell BK316.out 8).trans rfl, (blk_cell BK316.out 9).trans rfl, (blk_cell BK316.out 10).trans rfl, (blk_cell BK316.out 11).trans rfl, (blk_cell BK316.out 12).trans rfl, (blk_cell BK316.out 13).trans rfl⟩ (fun hHeld => ?_)
       clear hK K
       refine no_ (some 45) ?_
       refine pure_ (i := 4) (N := some 46) (v := ?_) (a' := ?_) #[true, true, true, true, true] rfl rfl (by kernel_rfl) (fun _ _ _ h => h) (Or.inl ⟨by rfl, ?_⟩) ?_ ?_
       rotate_left
       ·
        intro w'
        go_simp
        with_reducible rfl
       rotate_left
       ·
        simp only [Act.put, List.setIfInBounds_toArray, List.set_cons_zero, List.set_cons_succ, i64_w, i32_w]
        rfl
       refine done_ (by kernel_rfl) ?_
       try go_wp2
       go_ret
       exact ⟨by first | rfl | (simp [errW_none, errW_some] <;> rfl) | (simp [*, errW_none, errW_some] <;> rfl), by repeat (first | (with_reducible first | exact HB.out | apply below_alloc | apply pw_below_drewN | apply below_drew1 | refine below_set ?_ GE316.out | refine below_set ?_ GE356.out) | exact HB.out)⟩
      ·
       replace c35 := Bool.eq_false_iff.mpr c35
       subst c35
       replace H := (if_neg (show ¬ (false = true) by decide)).symm.trans H
       exact absurd H (by simp)

end Go.Proofs.YtcnhdhfhofaocaaGreatDoor.G

namespace Go.Proofs.YtcnhdhfhofaocaaGreatDoor.Opn
open Go.RowKit Go.Proofs.YtcnhdhfhofaocaaGreatDoorW.PrintWords
set_option linter.unusedVariables false
set_option linter.unusedSimpArgs false
variable {H : Type} {enc : TypeId × Value → H} {P : Program} {w : World} {base : Nat} {spare : Nat → Bool} {held : Bool}
def okInt (k : IntKind) (n : Int) : Prop := (Lit.int k n).wf = true
def okBool (_ : Bool) : Prop := True
def okStr (s : ByteArray) : Prop := s.size ≤ 9223372036854775807
def okList {α : Type} (p : α → Prop) (xs : List α) : Prop := xs.length ≤ 9223372036854775807 ∧ ∀ x ∈ xs, p x
theorem of_int {t : TypeId} {k : IntKind} {fuel : Nat} {cs : List Value} {x : DataW H × List MemPlace} (ht : P.underlying t = some (.int k)) (h : DataW.trod enc P w base spare held fuel t cs = some x) :
    ∃ n, (Kd.int k).K w n cs ∧ okInt k n := by
  obtain ⟨n, rfl, rfl, hw⟩ := DataW.trod_int ht h
  exact ⟨n, rfl, hw⟩
theorem of_bool {t : TypeId} {fuel : Nat} {cs : List Value} {x : DataW H × List MemPlace} (ht : P.underlying t = some .bool) (h : DataW.trod enc P w base spare held fuel t cs = some x) :
    ∃ n, Kd.bool.K w n cs ∧ okBool n := by
  cases fuel with
  | zero => simp [DataW.trod] at h
  | succ fuel =>
    match cs with
    | [] => simp [DataW.trod, ht] at h
    | [v] => cases v <;> simp [DataW.trod, ht] at h; exact ⟨_, rfl, trivial⟩
    | _ :: _ :: _ => simp [DataW.trod, ht] at h
theorem of_string {t : TypeId} {fuel : Nat} {cs : List Value} {x : DataW H × List MemPlace} (ht : P.underlying t = some .string) (h : DataW.trod enc P w base spare held fuel t cs = some x) :
    ∃ n, Kd.string.K w n cs ∧ okStr n := by
  cases fuel with
  | zero => simp [DataW.trod] at h
  | succ fuel =>
    match cs with
    | [] => simp [DataW.trod, ht] at h
    | [v] => cases v <;> simp [DataW.trod, ht] at h; exact ⟨_, rfl, h.1⟩
    | _ :: _ :: _ => simp [DataW.trod, ht] at h
theorem add_add (a : Addr) (k i : Nat) : (a.add k).add i = a.add (k + i) := by
  unfold Addr.add
  by_cases hk : k = 0 <;> by_cases hi : i = 0 <;> simp [hk, hi, Nat.add_assoc]
theorem of_slice {α : Type} {d : Kd α} {ok : α → Prop} {t e : TypeId} {fuel : Nat} {cs : List Value} {x : DataW H × List MemPlace} (ht : P.underlying t = some (.slice e)) (hc : P.cellsOf e = d.sz)
    (ih : ∀ n cs x, DataW.trod enc P w base spare held n e cs = some x → ∃ y, d.K w y cs ∧ ok y) (h : DataW.trod enc P w base spare held fuel t cs = some x) :
    ∃ ys, (Kd.slice e d).K w ys cs ∧ okList ok ys := by
  rcases Go.Deep.open_slice ht h with ⟨rfl, _⟩ | ⟨a, len, cap, m, n, D, Pl, rfl, hb, hl, hm, hmm, hxe, hel⟩
  · exact ⟨[], ⟨none, 0, rfl, by simp, rfl, by simp, fun h => absurd h (by simp)⟩, by simp, fun x hx => by simp at hx⟩
  · have hlm : len ≤ m := by rw [hmm]; split <;> omega
    have hm' : len ≤ 9223372036854775807 := by unfold maxLen at hm; omega
    have key : ∀ i, i < len → ∃ cs' y, w.cells? base (a.add (i * P.cellsOf e)) (P.cellsOf e) = some cs' ∧ d.K w y cs' ∧ ok y := by
      intro i hi
      obtain ⟨cs', h1, h2⟩ := hel i (by omega)
      obtain ⟨y, hy, ho⟩ := ih _ _ _ h2
      exact ⟨cs', y, h1, hy, ho⟩
    obtain ⟨ys, hlen, hys⟩ : ∃ ys : List α, ys.length = len ∧ ∀ i (hi : i < ys.length), ∃ cs', w.cells? base (a.add (i * P.cellsOf e)) (P.cellsOf e) = some cs' ∧ d.K w ys[i] cs' ∧ ok ys[i] := by
      clear h hxe hel hmm hlm hl hm hm'
      induction len with
      | zero => exact ⟨[], rfl, fun i hi => by simp at hi⟩
      | succ len ihl =>
        obtain ⟨ys, h1, h2⟩ := ihl (fun i hi => key i (by omega))
        obtain ⟨cs', y, h3, h4, h5⟩ := key len (by omega)
        refine ⟨ys ++ [y], by simp [h1], fun i hi => ?_⟩
        by_cases hi' : i < ys.length
        · rw [List.getElem_append_left hi']; exact h2 i hi'
        · have : i = len := by simp at hi; omega
          subst this
          refine ⟨cs', h3, ?_, ?_⟩ <;> rw [List.getElem_append_right (by omega)] <;> simpa [h1]
    refine ⟨ys, ⟨some a, cap, by rw [hlen], by omega, rfl, by omega, fun _ => ⟨a, rfl, fun j p hj => ?_⟩⟩, by omega, fun y hy => ?_⟩
    · obtain ⟨hj', rfl⟩ := List.getElem?_eq_some_iff.1 hj
      obtain ⟨cs', h1, h2, _⟩ := hys j hj'
      rw [hc] at h1
      refine ⟨cs', d.K_len h2, h2, fun i u hu => ?_⟩
      obtain ⟨_, hl', hcell⟩ := World.cells?_some h1
      have hi : i < d.sz := by have := (List.getElem?_eq_some_iff.1 hu).1; omega
      have := hcell i hi
      rw [hu, add_add] at this
      exact this
    · obtain ⟨i, hi, rfl⟩ := List.getElem_of_mem hy
      obtain ⟨_, _, _, h3⟩ := hys i hi
      exact h3
theorem mapM_all {α β : Type} {f : α → Option β} : ∀ {l : List α} {ys : List β}, l.mapM f = some ys → ∀ x ∈ l, ∃ y, f x = some y
  | [], _, _, x, hx => by simp at hx
  | a :: l, ys, h, x, hx => by
    rw [List.mapM_cons] at h
    simp only [Option.bind_eq_bind, Option.bind_eq_some_iff] at h
    obtain ⟨y, h1, ys', h2, _⟩ := h
    rcases List.mem_cons.1 hx with rfl | hx
    · exact ⟨y, h1⟩
    · exact mapM_all h2 x hx
theorem of_fields {t : TypeId} {fs : Array Field} {fuel : Nat} {cs : List Value} {x : DataW H × List MemPlace} (ht : P.underlying t = some (.struct fs)) (h : DataW.trod enc P w base spare held fuel t cs = some x) :
    cs.length = P.cellsOf t ∧ ∃ n, ∀ f ∈ fs.toList, ∃ y, DataW.trod enc P w base spare held n f.type ((cs.drop f.offset).take (P.cellsOf f.type)) = some y := by
  cases fuel with
  | zero => simp [DataW.trod] at h
  | succ fuel =>
    simp only [DataW.trod, ht] at h
    split at h
    · rename_i hl
      refine ⟨hl, fuel, ?_⟩
      simp only [Option.map_eq_some_iff] at h
      obtain ⟨ys, h1, _⟩ := h
      exact mapM_all h1
    · simp at h
theorem pair_K {α β : Type} {a : Kd α} {b : Kd β} {x : α} {y : β} {cs : List Value} {n : Nat} (off : Nat) (hn : a.sz = n) (h0 : a.K w x ((cs.drop off).take n)) (h1 : b.K w y (cs.drop (off + n))) : (Kd.pair a b).K w (x, y) (cs.drop off) :=
  ⟨_, _, by rw [← List.drop_drop]; exact (List.take_append_drop n (cs.drop off)).symm, h0, h1⟩
theorem last_K {α : Type} {a : Kd α} {x : α} {cs : List Value} {n : Nat} (off : Nat) (hl : cs.length = off + n) (h0 : a.K w x ((cs.drop off).take n)) : a.K w x (cs.drop off) := by
  rwa [List.take_of_length_le (by rw [List.length_drop]; omega)] at h0
end Go.Proofs.YtcnhdhfhofaocaaGreatDoor.Opn

namespace Go.Proofs.YtcnhdhfhofaocaaGreatDoor.G
open Go.Proofs.YtcnhdhfhofaocaaGreatDoor.Opn
open Go.RowKit Go.Proofs.YtcnhdhfhofaocaaGreatDoorW.PrintWords Go.Proofs.YtcnhdhfhofaocaaGreatDoorW.PrintLast Go.Proofs.YtcnhdhfhofaocaaGreatDoorW.PrintMore
open Go.Proofs.YtcnhdhfhofaocaaGreatDoor.Gl Go.Proofs.YtcnhdhfhofaocaaGreatDoor.Ext
attribute [local go_sem] max2_int min2_int max_two min_two max_three min_three max_four min_four   -- for this text's walks alone
set_option linter.unusedVariables false
set_option linter.unusedSimpArgs false

theorem cells3 : Tryz.prog.cellsOf 3 = 1 := by kernel_rfl
theorem cells4 : Tryz.prog.cellsOf 4 = 1 := by kernel_rfl
theorem cells9 : Tryz.prog.cellsOf 9 = 1 := by kernel_rfl
theorem cells22 : Tryz.prog.cellsOf 22 = 1 := by kernel_rfl
theorem cells24 : Tryz.prog.cellsOf 24 = 4 := by kernel_rfl
theorem cells26 : Tryz.prog.cellsOf 26 = 14 := by kernel_rfl
theorem cells37 : Tryz.prog.cellsOf 37 = 1 := by kernel_rfl
theorem cells74 : Tryz.prog.cellsOf 74 = 4 := by kernel_rfl
def ok74 (y : S74) : Prop := okList (okStr) y.f0 ∧ okStr y.f1 ∧ okStr y.f2 ∧ okStr y.f3
theorem of_T74 {H : Type} {enc : TypeId × Value → H} {w : World} {base : Nat} {spare : Nat → Bool} {held : Bool} {fuel : Nat} {cs : List Value} {x : DataW H × List MemPlace} (h : DataW.trod enc Tryz.prog w base spare held fuel 74 cs = some x) : ∃ y : S74, k74.K w y cs ∧ ok74 y := by
  obtain ⟨hl, n, hf⟩ := of_fields Tryz.underlying74 h
  rw [cells74] at hl
  simp only [List.mem_cons, List.not_mem_nil, or_false, forall_eq_or_imp, forall_eq] at hf
  obtain ⟨⟨y0, f0⟩, ⟨y1, f1⟩, ⟨y2, f2⟩, ⟨y3, f3⟩⟩ := hf
  rw [cells37] at f0
  obtain ⟨x0, g0, b0⟩ := of_slice (ok := okStr) Tryz.underlying37 cells9 (fun _ _ _ h_ => of_string Tryz.underlying9 h_) f0
  rw [cells9] at f1
  obtain ⟨x1, g1, b1⟩ := of_string Tryz.underlying9 f1
  rw [cells9] at f2
  obtain ⟨x2, g2, b2⟩ := of_string Tryz.underlying9 f2
  rw [cells9] at f3
  obtain ⟨x3, g3, b3⟩ := of_string Tryz.underlying9 f3
  exact ⟨⟨x0, x1, x2, x3⟩, (pair_K (n := 1) 0 rfl g0 (pair_K (n := 1) 1 rfl g1 (pair_K (n := 1) 2 rfl g2 (last_K (n := 1) 3 hl g3)))), ⟨b0, b1, b2, b3⟩⟩
def ok24 (y : S24) : Prop := okInt .i64 y.f0 ∧ okInt .i64 y.f1 ∧ okInt .i64 y.f2 ∧ okBool y.f3
theorem of_T24 {H : Type} {enc : TypeId × Value → H} {w : World} {base : Nat} {spare : Nat → Bool} {held : Bool} {fuel : Nat} {cs : List Value} {x : DataW H × List MemPlace} (h : DataW.trod enc Tryz.prog w base spare held fuel 24 cs = some x) : ∃ y : S24, k24.K w y cs ∧ ok24 y := by
  obtain ⟨hl, n, hf⟩ := of_fields Tryz.underlying24 h
  rw [cells24] at hl
  simp only [List.mem_cons, List.not_mem_nil, or_false, forall_eq_or_imp, forall_eq] at hf
  obtain ⟨⟨y0, f0⟩, ⟨y1, f1⟩, ⟨y2, f2⟩, ⟨y3, f3⟩⟩ := hf
  rw [cells3] at f0
  obtain ⟨x0, g0, b0⟩ := of_int Tryz.underlying3 f0
  rw [cells3] at f1
  obtain ⟨x1, g1, b1⟩ := of_int Tryz.underlying3 f1
  rw [cells3] at f2
  obtain ⟨x2, g2, b2⟩ := of_int Tryz.underlying3 f2
  rw [cells4] at f3
  obtain ⟨x3, g3, b3⟩ := of_bool Tryz.underlying4 f3
  exact ⟨⟨x0, x1, x2, x3⟩, (pair_K (n := 1) 0 rfl g0 (pair_K (n := 1) 1 rfl g1 (pair_K (n := 1) 2 rfl g2 (last_K (n := 1) 3 hl g3)))), ⟨b0, b1, b2, b3⟩⟩
def ok26 (y : S26) : Prop := okStr y.f0 ∧ okInt .i64 y.f1 ∧ okList (ok74) y.f2 ∧ okList (ok74) y.f3 ∧ okStr y.f4 ∧ okStr y.f5 ∧ okStr y.f6 ∧ ok24 y.f7 ∧ okInt .i64 y.f8 ∧ okStr y.f9 ∧ okStr y.f10
theorem of_T26 {H : Type} {enc : TypeId × Value → H} {w : World} {base : Nat} {spare : Nat → Bool} {held : Bool} {fuel : Nat} {cs : List Value} {x : DataW H × List MemPlace} (h : DataW.trod enc Tryz.prog w base spare held fuel 26 cs = some x) : ∃ y : S26, k26.K w y cs ∧ ok26 y := by
  obtain ⟨hl, n, hf⟩ := of_fields Tryz.underlying26 h
  rw [cells26] at hl
  simp only [List.mem_cons, List.not_mem_nil, or_false, forall_eq_or_imp, forall_eq] at hf
  obtain ⟨⟨y0, f0⟩, ⟨y1, f1⟩, ⟨y2, f2⟩, ⟨y3, f3⟩, ⟨y4, f4⟩, ⟨y5, f5⟩, ⟨y6, f6⟩, ⟨y7, f7⟩, ⟨y8, f8⟩, ⟨y9, f9⟩, ⟨y10, f10⟩⟩ := hf
  rw [cells9] at f0
  obtain ⟨x0, g0, b0⟩ := of_string Tryz.underlying9 f0
  rw [cells3] at f1
  obtain ⟨x1, g1, b1⟩ := of_int Tryz.underlying3 f1
  rw [cells22] at f2
  obtain ⟨x2, g2, b2⟩ := of_slice (ok := ok74) Tryz.underlying22 cells74 (fun _ _ _ h_ => of_T74 h_) f2
  rw [cells22] at f3
  obtain ⟨x3, g3, b3⟩ := of_slice (ok := ok74) Tryz.underlying22 cells74 (fun _ _ _ h_ => of_T74 h_) f3
  rw [cells9] at f4
  obtain ⟨x4, g4, b4⟩ := of_string Tryz.underlying9 f4
  rw [cells9] at f5
  obtain ⟨x5, g5, b5⟩ := of_string Tryz.underlying9 f5
  rw [cells9] at f6
  obtain ⟨x6, g6, b6⟩ := of_string Tryz.underlying9 f6
  rw [cells24] at f7
  obtain ⟨x7, g7, b7⟩ := of_T24 f7
  rw [cells3] at f8
  obtain ⟨x8, g8, b8⟩ := of_int Tryz.underlying3 f8
  rw [cells9] at f9
  obtain ⟨x9, g9, b9⟩ := of_string Tryz.underlying9 f9
  rw [cells9] at f10
  obtain ⟨x10, g10, b10⟩ := of_string Tryz.underlying9 f10
  exact ⟨⟨x0, x1, x2, x3, x4, x5, x6, x7, x8, x9, x10⟩, (pair_K (n := 1) 0 rfl g0 (pair_K (n := 1) 1 rfl g1 (pair_K (n := 1) 2 rfl g2 (pair_K (n := 1) 3 rfl g3 (pair_K (n := 1) 4 rfl g4 (pair_K (n := 1) 5 rfl g5 (pair_K (n := 1) 6 rfl g6 (pair_K (n := 4) 7 rfl g7 (pair_K (n := 1) 11 rfl g8 (pair_K (n := 1) 12 rfl g9 (last_K (n := 1) 13 hl g10))))))))))), ⟨b0, b1, b2, b3, b4, b5, b6, b7, b8, b9, b10⟩⟩

def laws_FnExactFieldText.Pur : Prop := ∀ (a0_0 : ByteArray) (a0_1 : Int) (l0_2 : List (S74)) (l0_3 : List (S74)) (a0_4 : ByteArray) (a0_5 : ByteArray) (a0_6 : ByteArray) (a0_7 : Int) (a0_8 : Int) (a0_9 : Int) (a0_10 : Bool) (a0_11 : Int) (a0_12 : ByteArray) (a0_13 : ByteArray) (a1 : ByteArray), okStr a0_0 → okInt .i64 a0_1 → okList (ok74) l0_2 → okList (ok74) l0_3 → okStr a0_4 → okStr a0_5 → okStr a0_6 → okInt .i64 a0_7 → okInt .i64 a0_8 → okInt .i64 a0_9 → okInt .i64 a0_11 → okStr a0_12 → okStr a0_13 → okStr a1 → ∃ k, laws_FnExactFieldText.f k a0_0 a0_1 l0_2 l0_3 a0_4 a0_5 a0_6 a0_7 a0_8 a0_9 a0_10 a0_11 a0_12 a0_13 a1 = some true
theorem laws_FnExactFieldText.wlk (P : laws_FnExactFieldText.Pur) (a0_0 : ByteArray) (a0_1 : Int) (A0_2 : Option Addr) (c0_2 : Nat) (l0_2 : List (S74)) (A0_3 : Option Addr) (c0_3 : Nat) (l0_3 : List (S74)) (a0_4 : ByteArray) (a0_5 : ByteArray) (a0_6 : ByteArray) (a0_7 : Int) (a0_8 : Int) (a0_9 : Int) (a0_10 : Bool) (a0_11 : Int) (a0_12 : ByteArray) (a0_13 : ByteArray) (a1 : ByteArray) (w : World) (hr0_2 : Kd.C k74 w A0_2 l0_2.length l0_2) (hc0_2 : l0_2.length ≤ c0_2) (hr0_3 : Kd.C k74 w A0_3 l0_3.length l0_3) (hc0_3 : l0_3.length ≤ c0_3) {gF2 : Bool} (hG : GL true gF2 true w) (ba0_0 : okStr a0_0) (ba0_1 : okInt .i64 a0_1) (bl0_2 : okList (ok74) l0_2) (bl0_3 : okList (ok74) l0_3) (ba0_4 : okStr a0_4) (ba0_5 : okStr a0_5) (ba0_6 : okStr a0_6) (ba0_7 : okInt .i64 a0_7) (ba0_8 : okInt .i64 a0_8) (ba0_9 : okInt .i64 a0_9) (ba0_11 : okInt .i64 a0_11) (ba0_12 : okStr a0_12) (ba0_13 : okStr a0_13) (ba1 : okStr a1) :
    Calls Tryz.prog 3 #[.agg #[.string a0_0, .int .i64 a0_1, .slice A0_2 l0_2.length c0_2, .slice A0_3 l0_3.length c0_3, .string a0_4, .string a0_5, .string a0_6, .int .i64 a0_7, .int .i64 a0_8, .int .i64 a0_9, .bool a0_10, .int .i64 a0_11, .string a0_12, .string a0_13], .string a1] w fun e w' => e = .returned (.bool true) ∧ Below w.heap.size w w' := by
  obtain ⟨k, h⟩ := P a0_0 a0_1 l0_2 l0_3 a0_4 a0_5 a0_6 a0_7 a0_8 a0_9 a0_10 a0_11 a0_12 a0_13 a1 ba0_0 ba0_1 bl0_2 bl0_3 ba0_4 ba0_5 ba0_6 ba0_7 ba0_8 ba0_9 ba0_11 ba0_12 ba0_13 ba1
  refine (laws_FnExactFieldText.calls k a0_0 a0_1 A0_2 c0_2 l0_2 A0_3 c0_3 l0_3 a0_4 a0_5 a0_6 a0_7 a0_8 a0_9 a0_10 a0_11 a0_12 a0_13 a1 w hG hr0_2 hc0_2 hr0_3 hc0_3 h).mono ?_
  rintro e w' ⟨rfl, hd⟩
  exact ⟨rfl, hd⟩

end Go.Proofs.YtcnhdhfhofaocaaGreatDoor.G

namespace Go.Proofs.YtcnhdhfhofaocaaGreatDoor.B
open Go.RowKit Go.Proofs.YtcnhdhfhofaocaaGreatDoorW.PrintWords Go.Proofs.YtcnhdhfhofaocaaGreatDoorW.PrintLast
set_option linter.unusedVariables false
set_option linter.unusedSimpArgs false
theorem w64 {x : Int} (h : -9223372036854775808 ≤ x) (h' : x ≤ 9223372036854775807) : wrap64 x = x := by unfold wrap64; omega
theorem ev_pos {α : Type} {c : Prop} [Decidable c] {g f : Nat → Option α} {r : α} (h : c) (e : Ev g r) : Ev (fun k => if c then g k else f k) r := Ev.congr (fun _ => if_pos h) e
theorem ev_neg {α : Type} {c : Prop} [Decidable c] {g f : Nat → Option α} {r : α} (h : ¬ c) (e : Ev f r) : Ev (fun k => if c then g k else f k) r := Ev.congr (fun _ => if_neg h) e
theorem ev_bind0 {α β : Type} {o : Option α} {f : Nat → α → Option β} {a : α} {r : β} (h : o = some a) (k : Ev (fun n => f n a) r) : Ev (fun n => o.bind (f n)) r := Ev.congr (fun _ => by rw [h]; rfl) k
theorem ev_eq {α : Type} {g : Nat → Option α} {a b : α} (h : Ev g a) (e : a = b) : Ev g b := e ▸ h
abbrev L (s : ByteArray) : List UInt8 := s.data.toList
def mkB (l : List UInt8) : ByteArray := ⟨l.toArray⟩
theorem L_mk (l : List UInt8) : L (mkB l) = l := by simp [mkB]
theorem mk_L (s : ByteArray) : mkB (L s) = s := by cases s; simp [mkB, L]
theorem L_inj {a b : ByteArray} (h : L a = L b) : a = b := by rw [← mk_L a, h, mk_L]
theorem L_iff {a b : ByteArray} : a = b ↔ L a = L b := ⟨fun h => by rw [h], L_inj⟩
theorem L_len (s : ByteArray) : (L s).length = s.size := (Lib.size_eq s).symm
theorem size_mk (l : List UInt8) : (mkB l).size = l.length := by rw [← L_len, L_mk]
theorem toList_L (s : ByteArray) : s.toList = L s := Lib.toList_data s
theorem L_extract (s : ByteArray) (a b : Nat) : L (s.extract a b) = ((L s).drop a).take (b - a) := Lib.extract_data s a b
theorem L_append (a b : ByteArray) : L (a ++ b) = L a ++ L b := by simp [L, ByteArray.data_append]
theorem size_append (a b : ByteArray) : (a ++ b).size = a.size + b.size := by rw [← L_len, L_append, List.length_append, L_len, L_len]
theorem mk_append (a b : List UInt8) : mkB a ++ mkB b = mkB (a ++ b) := L_inj (by rw [L_append, L_mk, L_mk, L_mk])
theorem bt_get (s : ByteArray) (i : Nat) (h : i < s.size) : bt s (i : Int) = (((L s)[i]'(by rw [L_len]; exact h)).toNat : Int) := by
  unfold bt
  simp only [Int.toNat_natCast, h, dif_pos]
  rfl
theorem size_pos_iff (s : ByteArray) : s.size = 0 ↔ L s = [] := by rw [← L_len, List.length_eq_zero_iff]
theorem u8_inj {a b : UInt8} (h : (a.toNat : Int) = (b.toNat : Int)) : a = b := UInt8.toNat_inj.1 (by omega)
theorem toList_eq_iff {a b : ByteArray} : a.toList = b.toList ↔ a = b := by rw [toList_L, toList_L, L_iff]
def ahd (seg : List UInt8) : List (List UInt8) → List (List UInt8)
  | [] => [seg]
  | h :: t => (seg ++ h) :: t
def spl (b : UInt8) : List UInt8 → List (List UInt8)
  | [] => [[]]
  | c :: cs => if c = b then [] :: spl b cs else ahd [c] (spl b cs)
theorem spl_cons (b c : UInt8) (cs : List UInt8) : spl b (c :: cs) = if c = b then [] :: spl b cs else ahd [c] (spl b cs) := rfl
theorem spl_ne (b : UInt8) (l : List UInt8) : spl b l ≠ [] := by
  cases l with
  | nil => simp [spl]
  | cons c cs => unfold spl; split <;> simp; unfold ahd; split <;> simp
theorem ahd_nil (p : List (List UInt8)) (h : p ≠ []) : ahd [] p = p := by cases p <;> simp_all [ahd]
theorem ahd_ahd (a b : List UInt8) (p : List (List UInt8)) : ahd a (ahd b p) = ahd (a ++ b) p := by cases p <;> simp [ahd]
theorem spl_length (b : UInt8) (l : List UInt8) : (spl b l).length ≤ l.length + 1 := by
  induction l with
  | nil => simp [spl]
  | cons c cs ih =>
    unfold spl
    split
    · simp; omega
    · cases h : spl b cs with
      | nil => exact absurd h (spl_ne b cs)
      | cons p q => rw [h] at ih; simp [ahd] at ih ⊢; omega
theorem spl_step (b : UInt8) (l : List UInt8) (from_ i : Nat) (hi : i < l.length) (hf : from_ ≤ i) :
    ahd ((l.drop from_).take (i - from_)) (spl b (l.drop i)) =
      if l[i] = b then ((l.drop from_).take (i - from_)) :: spl b (l.drop (i + 1)) else ahd ((l.drop from_).take (i + 1 - from_)) (spl b (l.drop (i + 1))) := by
  rw [List.drop_eq_getElem_cons hi, spl_cons]
  by_cases h : l[i] = b
  · rw [if_pos h, if_pos h]
    simp [ahd]
  · rw [if_neg h, if_neg h]
    have e : (l.drop from_).take (i + 1 - from_) = (l.drop from_).take (i - from_) ++ [l[i]] := by
      rw [show i + 1 - from_ = (i - from_) + 1 by omega, List.take_succ_eq_append_getElem (by rw [List.length_drop]; omega)]
      congr 2
      rw [List.getElem_drop]
      congr 1
      omega
    rw [e]
    exact ahd_ahd _ _ _
theorem spl_none (c : UInt8) : ∀ l : List UInt8, (∀ k : Nat, l[k]? ≠ some c) → spl c l = [l]
  | [], _ => rfl
  | a :: l, h => by
    have h0 : a ≠ c := fun e => h 0 (by simp [e])
    rw [spl_cons, if_neg h0, spl_none c l (fun k => by simpa using h (k + 1))]; rfl
theorem spl_first (c : UInt8) : ∀ (i : Nat) (l : List UInt8), l[i]? = some c → (∀ k : Nat, k < i → l[k]? ≠ some c) → spl c l = l.take i :: spl c (l.drop (i + 1))
  | 0, [], h, _ => by simp at h
  | 0, a :: l, h, _ => by
    have h0 : a = c := by simpa using h
    rw [spl_cons, if_pos h0]; rfl
  | i + 1, [], h, _ => by simp at h
  | i + 1, a :: l, h, hk => by
    have h0 : a ≠ c := fun e => hk 0 (by omega) (by simp [e])
    rw [spl_cons, if_neg h0, spl_first c i l (by simpa using h) (fun k hk' => by simpa using hk (k + 1) (by omega))]
    rfl
theorem indexB_one (s : ByteArray) (c : UInt8) : Lib.indexB s (mkB [c]) = Lib.indexByte (L s) c := by
  unfold Lib.indexB
  have : (mkB [c]).data.toList = [c] := L_mk [c]
  rw [this]
  exact Lib.index_one _ _
theorem splitB_spl (c : UInt8) (n : Nat) : ∀ s : ByteArray, s.size ≤ n → (Lib.splitB (mkB [c]) 0 (Lib.countB s (mkB [c])) s).map L = spl c (L s) := by
  have h1 : (mkB [c]).size = 1 := by rw [size_mk]; rfl
  induction n with
  | zero =>
    intro s hs
    rcases Lib.indexB_cases s (mkB [c]) with hm | ⟨i, hi, hr⟩
    · rw [Lib.splitB_miss _ _ _ _ hm]
      have := Lib.indexByte_none (by rw [← indexB_one]; exact hm : Lib.indexByte (L s) c = -1)
      rw [spl_none c (L s) this]; rfl
    · omega
  | succ n ih =>
    intro s hs
    rcases Lib.indexB_cases s (mkB [c]) with hm | ⟨i, hi, hr⟩
    · rw [Lib.splitB_miss _ _ _ _ hm]
      have := Lib.indexByte_none (by rw [← indexB_one]; exact hm : Lib.indexByte (L s) c = -1)
      rw [spl_none c (L s) this]; rfl
    · rw [h1] at hr
      have hc := Lib.countB_hit s (mkB [c]) i (by omega) hi
      rw [h1] at hc
      rw [hc, Nat.add_comm 1, Lib.splitB_hit _ _ _ _ i hi, h1, List.map_cons, ih (s.extract (i + 1) s.size) (by rw [ByteArray.size_extract]; omega)]
      obtain ⟨a, b⟩ := Lib.indexByte_some (by rw [← indexB_one]; exact hi : Lib.indexByte (L s) c = i)
      rw [spl_first c i (L s) a b, L_extract, L_extract]
      congr 1
      congr 1
      rw [List.take_of_length_le (by rw [List.length_drop, L_len]; omega)]
theorem splitB_eq (c : UInt8) (s : ByteArray) : Lib.splitB (mkB [c]) 0 (Lib.countB s (mkB [c])) s = (spl c (L s)).map mkB := by
  rw [← splitB_spl c s.size s (Nat.le_refl _), List.map_map]
  have : (mkB ∘ L) = id := by funext x; exact mk_L x
  rw [this, List.map_id]
end Go.Proofs.YtcnhdhfhofaocaaGreatDoor.B

namespace Go.Proofs.YtcnhdhfhofaocaaGreatDoor.G
open Go.RowKit Go.Proofs.YtcnhdhfhofaocaaGreatDoorW.PrintWords Go.Proofs.YtcnhdhfhofaocaaGreatDoorW.PrintLast Go.Proofs.YtcnhdhfhofaocaaGreatDoor.B
set_option linter.unusedVariables false
set_option linter.unusedSimpArgs false
theorem split_loop (s : ByteArray) (b : UInt8) (hs : s.size ≤ 8796093022000) (d : Nat) : ∀ (out : List ByteArray) (f i : Nat), out.length ≤ i → f ≤ i → i ≤ s.size → s.size - i = d →
    Ev (fun k => spec_l1Split.l0 k s (b.toNat : Int) out f i) (out ++ (ahd (((L s).drop f).take (i - f)) (spl b ((L s).drop i))).map mkB) := by
  have hL : (L s).length = s.size := L_len s
  induction d with
  | zero =>
    intro out f i h0 h1 h2 hd
    have e : i = s.size := by omega
    refine Ev.step (f := fun _ => some (out ++ [s.extract f s.size])) (fun k => ?_) (ev_eq (Ev.now _) ?_)
    · simp only [spec_l1Split.l0]
      rw [if_neg (by omega), if_pos (by omega), if_pos (by omega), if_pos (by omega)]
      simp
    · rw [List.drop_of_length_le (l := L s) (i := i) (by omega)]
      simp [spl, ahd]
      apply L_inj
      rw [L_extract, L_mk, e]
  | succ d ih =>
    intro out f i h0 h1 h2 hd
    have hlt : i < s.size := by omega
    have hlt' : i < (L s).length := by omega
    rw [spl_step b (L s) f i hlt' h1]
    have hw : wrap64 ((i : Int) + 1) = ((i + 1 : Nat) : Int) := by rw [w64 (by omega) (by omega)]; rfl
    by_cases e : (L s)[i] = b
    · rw [if_pos e]
      refine Ev.step (f := fun k => spec_l1Split.l0 k s (b.toNat : Int) (out ++ [s.extract f i]) ((i + 1 : Nat) : Int) ((i + 1 : Nat) : Int)) (fun k => ?_) (ev_eq (ih (out ++ [s.extract f i]) (i + 1) (i + 1) (by simp; omega) (by omega) (by omega) (by omega)) ?_)
      · simp only [spec_l1Split.l0]
        rw [if_pos (by omega), if_pos (by omega), if_pos (by rw [bt_get s i hlt, e]), if_pos (by omega), if_pos (by omega), if_pos (by omega), if_pos (by omega), hw]
        simp
      · rw [Nat.sub_self, List.take_zero, ahd_nil _ (spl_ne b _), List.append_assoc]
        congr 1
        simp
        apply L_inj
        rw [L_extract, L_mk]
    · rw [if_neg e]
      refine Ev.step (f := fun k => spec_l1Split.l0 k s (b.toNat : Int) out f ((i + 1 : Nat) : Int)) (fun k => ?_) (ih out f (i + 1) (by omega) (by omega) (by omega) (by omega))
      simp only [spec_l1Split.l0]
      rw [if_pos (by omega), if_pos (by omega), if_neg (by rw [bt_get s i hlt]; exact fun h => e (u8_inj h)), hw]
theorem split_ev (s : ByteArray) (b : UInt8) (hs : s.size ≤ 8796093022000) : Ev (fun k => spec_l1Split.f k s (b.toNat : Int)) ((spl b (L s)).map mkB) := by
  have := split_loop s b hs s.size [] 0 0 (by simp) (by omega) (by omega) (by omega)
  unfold spec_l1Split.f
  simpa [ahd_nil _ (spl_ne b _)] using this
def upD (c : Int) : Bool := decide (65 ≤ c) && decide (c ≤ 90)
def loD (c : Int) : Bool := decide (97 ≤ c) && decide (c ≤ 122)
def leD (c : Int) : Bool := upD c || loD c
def inD (n : Nat) : Bool := decide (1 ≤ n) && decide (n ≤ 12)
theorem spec_up (c : Int) : spec_l2Upper.f c = some (upD c) := by unfold spec_l2Upper.f upD; by_cases h : 65 ≤ c <;> simp [h]
theorem spec_lo (c : Int) : spec_l2Lower.f c = some (loD c) := by unfold spec_l2Lower.f loD; by_cases h : 97 ≤ c <;> simp [h]
theorem impl_up (c : Int) : impl_isUpper.f c = some (upD c) := by unfold impl_isUpper.f upD; by_cases h : 65 ≤ c <;> simp [h]
theorem impl_lo (c : Int) : impl_isLower.f c = some (loD c) := by unfold impl_isLower.f loD; by_cases h : 97 ≤ c <;> simp [h]
theorem spec_le (c : Int) : spec_l2Letter.f c = some (leD c) := by unfold spec_l2Letter.f leD; rw [spec_up, spec_lo]; cases upD c <;> simp
theorem impl_le (c : Int) : impl_isLetter.f c = some (leD c) := by unfold impl_isLetter.f leD; rw [impl_up, impl_lo]; cases upD c <;> simp
theorem in12 (n : Nat) : (if (n : Int) ≥ 1 then some (decide ((n : Int) ≤ 12)) else some false) = some (inD n) := by
  unfold inD
  by_cases h : 1 ≤ n
  · rw [if_pos (by omega)]
    congr 1
    rw [decide_eq_true h, Bool.true_and, decide_eq_decide]; omega
  · rw [if_neg (by omega)]; simp [h]
theorem spec_in (s : ByteArray) : spec_l1In.f (s.size : Int) 1 12 = some (inD s.size) := in12 s.size
theorem impl_in (s : ByteArray) : impl_inside.f (s.size : Int) 1 12 = some (inD s.size) := in12 s.size
theorem inD_iff {n : Nat} : inD n = true ↔ 1 ≤ n ∧ n ≤ 12 := by simp [inD]
def okD (s : ByteArray) (i : Nat) : Bool := leD (bt s i) || ((decide (bt s i = 45) || decide (bt s i = 39)) && leD (bt s ((i : Int) - 1)))
def wlD (s : ByteArray) : Nat → Nat → Bool
  | 0, _ => true
  | d + 1, i => okD s i && wlD s d (i + 1)
def wordD (s : ByteArray) : Bool := inD s.size && ((leD (bt s 0) && leD (bt s ((s.size : Int) - 1))) && wlD s (s.size - 1) 1)
def greatD (s : ByteArray) : Bool := wordD s && upD (bt s 0)
theorem word_step (s : ByteArray) (i k : Nat) (h1 : 1 ≤ i) (h2 : i < s.size) (h3 : s.size ≤ 12) : spec_l2Word.l0 (k + 1) s (i : Int) = if okD s i = true then spec_l2Word.l0 k s ((i + 1 : Nat) : Int) else some false := by
  have hw : wrap64 ((i : Int) + 1) = ((i + 1 : Nat) : Int) := by rw [w64 (by omega) (by omega)]; rfl
  have hw' : wrap64 ((i : Int) - 1) = (i : Int) - 1 := w64 (by omega) (by omega)
  have a1 : (0 : Int) ≤ (i : Int) - 1 := by omega
  have a2 : (i : Int) - 1 < (s.size : Int) := by omega
  simp only [spec_l2Word.l0]
  rw [if_pos (show (i : Int) < (s.size : Int) by omega), if_pos (show (0 : Int) ≤ (i : Int) by omega), spec_le, hw, hw']
  simp only [Option.bind_some, if_pos a1, if_pos a2, spec_le]
  unfold okD
  generalize ((i + 1 : Nat) : Int) = j
  cases leD (bt s i) <;> cases leD (bt s ((i : Int) - 1)) <;> by_cases c : bt s i = 45 <;> by_cases d : bt s i = 39 <;> simp [c, d]
theorem word_loop (s : ByteArray) (hs : s.size ≤ 12) (d : Nat) : ∀ i : Nat, 1 ≤ i → i ≤ s.size → s.size - i = d → Ev (fun k => spec_l2Word.l0 k s (i : Int)) (wlD s d i) := by
  induction d with
  | zero =>
    intro i h1 h2 hd
    refine Ev.step (f := fun _ => some true) (fun k => ?_) (Ev.now _)
    simp only [spec_l2Word.l0]; rw [if_neg (by omega)]
  | succ d ih =>
    intro i h1 h2 hd
    refine Ev.step (f := fun k => if okD s i = true then spec_l2Word.l0 k s ((i + 1 : Nat) : Int) else some false) (fun k => word_step s i k h1 (by omega) hs) ?_
    unfold wlD
    cases h : okD s i with
    | true => exact ev_pos rfl (ev_eq (ih (i + 1) (by omega) (by omega) (by omega)) (by simp))
    | false => exact ev_neg (by simp) (ev_eq (Ev.now _) (by simp))
theorem loops_eq (s : ByteArray) (k : Nat) : ∀ i : Int, impl_isNameWord.l0 k s i = spec_l2Word.l0 k s i := by
  induction k with
  | zero => intro i; simp [impl_isNameWord.l0, spec_l2Word.l0]
  | succ k ih => intro i; simp only [impl_isNameWord.l0, spec_l2Word.l0, impl_le, spec_le, ih]
theorem spec_word (s : ByteArray) : Ev (fun k => spec_l2Word.f k s) (wordD s) := by
  unfold spec_l2Word.f wordD
  cases h : inD s.size with
  | false =>
    refine Ev.step (f := fun _ => some false) (fun k => ?_) (ev_eq (Ev.now _) (by simp))
    simp only [spec_in, h, Option.bind_some, spec_l2Word.j0]; simp
  | true =>
    obtain ⟨h1, h2⟩ := inD_iff.1 h
    have hw : wrap64 ((s.size : Int) - 1) = (s.size : Int) - 1 := w64 (by omega) (by omega)
    refine Ev.step (f := fun k => if (leD (bt s 0) && leD (bt s ((s.size : Int) - 1))) = true then spec_l2Word.l0 k s ((1 : Nat) : Int) else some false) (fun k => ?_) ?_
    · have a1 : (0 : Int) < (s.size : Int) := by omega
      have a2 : (0 : Int) ≤ (s.size : Int) - 1 := by omega
      have a3 : (s.size : Int) - 1 < (s.size : Int) := by omega
      simp only [spec_in, h, Option.bind_some, if_pos a1, if_pos a2, if_pos a3, hw, spec_le, spec_l2Word.j0]
      cases leD (bt s 0) <;> cases leD (bt s ((s.size : Int) - 1)) <;> simp
    · cases h3 : (leD (bt s 0) && leD (bt s ((s.size : Int) - 1))) with
      | true => exact ev_pos rfl (ev_eq (word_loop s h2 (s.size - 1) 1 (by omega) (by omega) rfl) (by simp))
      | false => exact ev_neg (by simp) (ev_eq (Ev.now _) (by simp))
theorem impl_word (s : ByteArray) : Ev (fun k => impl_isNameWord.f k s) (wordD s) := by
  unfold impl_isNameWord.f wordD
  cases h : inD s.size with
  | false =>
    refine Ev.step (f := fun _ => some false) (fun k => ?_) (ev_eq (Ev.now _) (by simp))
    simp only [impl_in, h, Option.bind_some, impl_isNameWord.j0]; simp
  | true =>
    obtain ⟨h1, h2⟩ := inD_iff.1 h
    have hw : wrap64 ((s.size : Int) - 1) = (s.size : Int) - 1 := w64 (by omega) (by omega)
    refine Ev.step (f := fun k => if (leD (bt s 0) && leD (bt s ((s.size : Int) - 1))) = true then spec_l2Word.l0 k s ((0 : Nat) : Int) else some false) (fun k => ?_) ?_
    · have a1 : (0 : Int) < (s.size : Int) := by omega
      have a2 : (0 : Int) ≤ (s.size : Int) - 1 := by omega
      have a3 : (s.size : Int) - 1 < (s.size : Int) := by omega
      simp only [impl_in, h, Option.bind_some, if_pos a1, if_pos a2, if_pos a3, hw, impl_le, impl_isNameWord.j0, loops_eq]
      cases leD (bt s 0) <;> cases leD (bt s ((s.size : Int) - 1)) <;> simp
    · cases h3 : (leD (bt s 0) && leD (bt s ((s.size : Int) - 1))) with
      | true =>
        refine ev_pos rfl (Ev.step (f := fun k => spec_l2Word.l0 k s ((1 : Nat) : Int)) (fun k => ?_) (ev_eq (word_loop s h2 (s.size - 1) 1 (by omega) (by omega) rfl) (by simp)))
        have h0 : leD (bt s 0) = true := by simp at h3; exact h3.1
        simp only [spec_l2Word.l0]
        rw [if_pos (by omega), if_pos (by omega), spec_le, show ((0 : Nat) : Int) = 0 from rfl, h0, w64 (by omega) (by omega)]
        simp
      | false => exact ev_neg (by simp) (ev_eq (Ev.now _) (by simp))
theorem word_in {s : ByteArray} (h : wordD s = true) : 1 ≤ s.size ∧ s.size ≤ 12 := by
  unfold wordD at h
  cases hi : inD s.size with
  | true => exact inD_iff.1 hi
  | false => rw [hi] at h; simp at h
theorem impl_great (s : ByteArray) : Ev (fun k => impl_isGreatWord.f k s) (greatD s) := by
  unfold impl_isGreatWord.f greatD
  refine Ev.bind (impl_word s) ?_
  cases h : wordD s with
  | true =>
    have := word_in h
    refine ev_pos rfl (ev_pos (by omega) (ev_eq (Ev.congr (f := fun _ => some (upD (bt s 0))) (fun k => by rw [impl_up]; rfl) (Ev.now _)) (by simp)))
  | false => exact ev_neg (by simp) (ev_eq (Ev.now _) (by simp))
def lowF (s : ByteArray) (j : Nat) : Bool := ((L s).drop j).all fun b => loD (b.toNat : Int)
def lowD (s : ByteArray) : Bool := lowF s 0
def wsD (l : List ByteArray) : Bool := l.all fun w => inD w.size && lowD w
theorem lowF_step (s : ByteArray) (j : Nat) (h : j < s.size) : lowF s j = (loD (bt s j) && lowF s (j + 1)) := by
  unfold lowF
  have hl : j < (L s).length := by rw [L_len]; exact h
  rw [List.drop_eq_getElem_cons hl, List.all_cons, bt_get s j h]
theorem lowF_end (s : ByteArray) (j : Nat) (h : s.size ≤ j) : lowF s j = true := by
  unfold lowF
  rw [List.drop_of_length_le (by rw [L_len]; exact h)]; rfl
theorem low_all (s : ByteArray) (h : lowD s = true) (j : Nat) (hj : j < s.size) : leD (bt s j) = true := by
  have hl : j < (L s).length := by rw [L_len]; exact hj
  have := List.all_eq_true.1 h _ (by rw [List.drop_zero]; exact List.getElem_mem hl)
  rw [bt_get s j hj]
  unfold leD
  rw [this]; simp
theorem wl_low (s : ByteArray) (h : lowD s = true) (d : Nat) : ∀ i, i + d ≤ s.size → wlD s d i = true := by
  induction d with
  | zero => intro i _; rfl
  | succ d ih =>
    intro i hi
    unfold wlD okD
    rw [low_all s h i (by omega), ih (i + 1) (by omega)]; rfl
theorem word_low (s : ByteArray) : (wordD s && lowD s) = (inD s.size && lowD s) := by
  cases h : lowD s with
  | false => simp
  | true =>
    unfold wordD
    cases hi : inD s.size with
    | false => simp
    | true =>
      obtain ⟨h1, h2⟩ := inD_iff.1 hi
      have e1 := low_all s h 0 (by omega)
      have e2 := low_all s h (s.size - 1) (by omega)
      rw [show ((s.size - 1 : Nat) : Int) = (s.size : Int) - 1 by omega] at e2
      rw [show ((0 : Nat) : Int) = 0 from rfl] at e1
      rw [e1, e2, wl_low s h (s.size - 1) 1 (by omega)]; rfl
theorem rd_get (l : List ByteArray) (i : Nat) (h : i < l.length) : rdOf ByteArray.empty l (i : Int) = l[i] := by simp [rdOf, h]
theorem spec_inner (ws : List ByteArray) (i : Nat) (hi : i < ws.length) (hs : (ws[i]).size ≤ 12) (hl : ws.length ≤ 4611686018427387904) (T : Bool) (hT : Ev (fun k => spec_l2Particle.l0 k ws ((i + 1 : Nat) : Int)) T) (d : Nat) : ∀ j : Nat, j ≤ (ws[i]).size → (ws[i]).size - j = d →
    Ev (fun k => spec_l2Particle.l1 k ws (i : Int) (j : Int)) (lowF ws[i] j && T) := by
  have hw : wrap64 ((i : Int) + 1) = ((i + 1 : Nat) : Int) := by rw [w64 (by omega) (by omega)]; rfl
  induction d with
  | zero =>
    intro j h1 hd
    refine Ev.step (f := fun k => spec_l2Particle.l0 k ws ((i + 1 : Nat) : Int)) (fun k => ?_) (ev_eq hT (by rw [lowF_end _ _ (by omega)]; simp))
    simp only [spec_l2Particle.l1, rd_get ws i hi]
    rw [if_pos (by omega), if_pos (by omega), if_neg (by omega), hw]
  | succ d ih =>
    intro j h1 hd
    rw [lowF_step _ j (by omega)]
    have hw' : wrap64 ((j : Int) + 1) = ((j + 1 : Nat) : Int) := by rw [w64 (by omega) (by omega)]; rfl
    refine Ev.step (f := fun k => if loD (bt ws[i] (j : Int)) = true then spec_l2Particle.l1 k ws (i : Int) ((j + 1 : Nat) : Int) else some false) (fun k => ?_) ?_
    · simp only [spec_l2Particle.l1, rd_get ws i hi]
      rw [if_pos (by omega), if_pos (by omega), if_pos (by omega), if_pos (by omega), hw', spec_lo]; rfl
    · cases h : loD (bt ws[i] (j : Int)) with
      | true => exact ev_pos rfl (ev_eq (ih (j + 1) (by omega) (by omega)) (by simp))
      | false => exact ev_neg (by simp) (ev_eq (Ev.now _) (by simp))
theorem spec_outer (ws : List ByteArray) (hl : ws.length ≤ 4611686018427387904) (d : Nat) : ∀ i : Nat, i ≤ ws.length → ws.length - i = d →
    Ev (fun k => spec_l2Particle.l0 k ws (i : Int)) (wsD (ws.drop i) && decide (ws.length ≤ 2)) := by
  induction d with
  | zero =>
    intro i h1 hd
    refine Ev.step (f := fun k => some (decide ((ws.length : Int) ≤ 2))) (fun k => ?_) (ev_eq (Ev.now _) ?_)
    · simp only [spec_l2Particle.l0]; rw [if_neg (by omega)]
    · rw [List.drop_of_length_le (by omega)]
      show decide _ = (true && decide _)
      rw [Bool.true_and, decide_eq_decide]; omega
  | succ d ih =>
    intro i h1 hd
    have hi : i < ws.length := by omega
    refine Ev.step (f := fun k => (spec_l2Word.f k ws[i]).bind fun t => if t = true then spec_l2Particle.l1 k ws (i : Int) ((0 : Nat) : Int) else some false) (fun k => ?_) ?_
    · simp only [spec_l2Particle.l0, rd_get ws i hi]
      rw [if_pos (by omega), if_pos (by omega)]; rfl
    · refine Ev.bind (spec_word _) ?_
      have e : (wsD (ws.drop i) && decide (ws.length ≤ 2)) = ((wordD ws[i] && lowD ws[i]) && (wsD (ws.drop (i + 1)) && decide (ws.length ≤ 2))) := by
        rw [word_low, List.drop_eq_getElem_cons hi]
        simp only [wsD, List.all_cons, Bool.and_assoc]
      rw [e]
      cases h : wordD ws[i] with
      | true => exact ev_pos rfl (ev_eq (spec_inner ws i hi (word_in h).2 hl _ (ih (i + 1) (by omega) (by omega)) _ 0 (by omega) rfl) (by simp [lowD]))
      | false => exact ev_neg (by simp) (ev_eq (Ev.now _) (by simp))
theorem impl_inner (ws ws' : List ByteArray) (n i : Nat) (w : ByteArray) (hi : i < 4611686018427387904) (hs : w.size ≤ 12) (T : Bool) (hT : Ev (fun k => impl_isParticle.l0 k ws ws' (n : Int) ((i + 1 : Nat) : Int)) T) (d : Nat) : ∀ j : Nat, j ≤ w.size → w.size - j = d →
    Ev (fun k => impl_isParticle.l1 k ws w (j : Int) ws' (n : Int) (i : Int)) (lowF w j && T) := by
  have hw : wrap64 ((i : Int) + 1) = ((i + 1 : Nat) : Int) := by rw [w64 (by omega) (by omega)]; rfl
  induction d with
  | zero =>
    intro j h1 hd
    refine Ev.step (f := fun k => impl_isParticle.l0 k ws ws' (n : Int) ((i + 1 : Nat) : Int)) (fun k => ?_) (ev_eq hT (by rw [lowF_end _ _ (by omega)]; simp))
    simp only [impl_isParticle.l1]
    rw [if_neg (by omega), hw]
  | succ d ih =>
    intro j h1 hd
    rw [lowF_step _ j (by omega)]
    have hw' : wrap64 ((j : Int) + 1) = ((j + 1 : Nat) : Int) := by rw [w64 (by omega) (by omega)]; rfl
    refine Ev.step (f := fun k => if loD (bt w (j : Int)) = true then impl_isParticle.l1 k ws w ((j + 1 : Nat) : Int) ws' (n : Int) (i : Int) else some false) (fun k => ?_) ?_
    · simp only [impl_isParticle.l1]
      rw [if_pos (by omega), if_pos (by omega), hw', impl_lo]; rfl
    · cases h : loD (bt w (j : Int)) with
      | true => exact ev_pos rfl (ev_eq (ih (j + 1) (by omega) (by omega)) (by simp))
      | false => exact ev_neg (by simp) (ev_eq (Ev.now _) (by simp))
theorem impl_outer (ws : List ByteArray) (hl : ws.length ≤ 4611686018427387904) (d : Nat) : ∀ i : Nat, i ≤ ws.length → ws.length - i = d →
    Ev (fun k => impl_isParticle.l0 k ws ws (ws.length : Int) (i : Int)) (wsD (ws.drop i) && decide (ws.length ≤ 2)) := by
  induction d with
  | zero =>
    intro i h1 hd
    refine Ev.step (f := fun k => some (decide ((ws.length : Int) ≤ 2))) (fun k => ?_) (ev_eq (Ev.now _) ?_)
    · simp only [impl_isParticle.l0]; rw [if_neg (by omega)]
    · rw [List.drop_of_length_le (by omega)]
      show decide _ = (true && decide _)
      rw [Bool.true_and, decide_eq_decide]; omega
  | succ d ih =>
    intro i h1 hd
    have hi : i < ws.length := by omega
    have e : (wsD (ws.drop i) && decide (ws.length ≤ 2)) = (inD (ws[i]).size && (lowD ws[i] && (wsD (ws.drop (i + 1)) && decide (ws.length ≤ 2)))) := by
      rw [List.drop_eq_getElem_cons hi]
      simp only [wsD, List.all_cons, Bool.and_assoc]
    rw [e]
    refine Ev.step (f := fun k => if inD (ws[i]).size = true then impl_isParticle.l1 k ws ws[i] ((0 : Nat) : Int) ws (ws.length : Int) (i : Int) else some false) (fun k => ?_) ?_
    · simp only [impl_isParticle.l0, rd_get ws i hi]
      rw [if_pos (by omega), if_pos (by omega), if_pos (by omega), impl_in]; rfl
    · cases h : inD (ws[i]).size with
      | true => exact ev_pos rfl (ev_eq (impl_inner ws ws ws.length i ws[i] (by omega) (inD_iff.1 h).2 _ (ih (i + 1) (by omega) (by omega)) _ 0 (by omega) rfl) (by simp [lowD]))
      | false => exact ev_neg (by simp) (ev_eq (Ev.now _) (by simp))
def wordsOf (s : ByteArray) : List ByteArray := (spl 32 (L s)).map mkB
def partD (s : ByteArray) : Bool := decide (s.size = 0) || (wsD (wordsOf s) && decide ((wordsOf s).length ≤ 2))
theorem wordsOf_len (s : ByteArray) : (wordsOf s).length ≤ s.size + 1 := by
  have := spl_length 32 (L s)
  rw [L_len] at this
  unfold wordsOf
  rw [List.length_map]; exact this
theorem nil_iff (s : ByteArray) : s.toList = ([] : List UInt8) ↔ s.size = 0 := by rw [toList_L, size_pos_iff]
theorem split_sp (s : ByteArray) (c : UInt8) (hs : s.size ≤ 4294967280) : strings_Split.f s (⟨#[c]⟩ : ByteArray) = some ((spl c (L s)).map mkB) := by
  have e : (⟨#[c]⟩ : ByteArray) = mkB [c] := rfl
  have h1 : (mkB [c]).size = 1 := by rw [size_mk]; rfl
  have hc := Lib.countB_le (mkB [c]) (by omega) s.size s (Nat.le_refl _)
  unfold strings_Split.f
  rw [e, if_pos ⟨by omega, by omega, Lib.splitB_all (mkB [c]) (by omega) 0 _ s rfl, by omega⟩, splitB_eq]
theorem spec_part (s : ByteArray) (hs : s.size ≤ 4294967280) : Ev (fun k => spec_l2Particle.f k s) (partD s) := by
  unfold spec_l2Particle.f partD
  by_cases h : s.size = 0
  · exact ev_pos ((nil_iff s).2 h) (ev_eq (Ev.now _) (by simp [h]))
  · refine ev_neg (fun e => h ((nil_iff s).1 e)) (Ev.bind (split_ev s 32 (by omega)) (ev_eq (spec_outer (wordsOf s) (by have := wordsOf_len s; omega) _ 0 (by omega) rfl) ?_))
    simp [h]
theorem impl_part (s : ByteArray) (hs : s.size ≤ 4294967280) : Ev (fun k => impl_isParticle.f k s) (partD s) := by
  unfold impl_isParticle.f partD
  by_cases h : s.size = 0
  · exact ev_pos ((nil_iff s).2 h) (ev_eq (Ev.now _) (by simp [h]))
  · refine ev_neg (fun e => h ((nil_iff s).1 e)) (ev_bind0 (split_sp s 32 hs) (ev_eq (impl_outer (wordsOf s) (by have := wordsOf_len s; omega) _ 0 (by omega) rfl) ?_))
    simp [h]
def rngD (c : Int) : Bool := decide (32 ≤ c) && decide (c ≤ 126)
def rngF (s : ByteArray) : Nat → Nat → Bool
  | 0, _ => true
  | d + 1, i => rngD (bt s (i : Int)) && rngF s d (i + 1)
def edgeD (s : ByteArray) : Bool := !decide (bt s 0 = 32) && !decide (bt s ((s.size : Int) - 1) = 32)
theorem trimR (n : Nat) : ∀ s : ByteArray, s.size = n → n ≤ 4611686018427387904 → ∃ t, Ev (fun k => strings_trimRightByte.f k s 32) t ∧ t.size ≤ n ∧ (1 ≤ n → bt s ((n : Int) - 1) = 32 → t.size < n) ∧ ((n = 0 ∨ bt s ((n : Int) - 1) ≠ 32) → t = s) := by
  induction n with
  | zero =>
    intro s hs hb
    refine ⟨s, Ev.step (f := fun _ => some s) (fun k => ?_) (Ev.now _), by omega, fun h => by omega, fun _ => rfl⟩
    simp only [strings_trimRightByte.f, strings_trimRightByte.l0]; rw [if_neg (by omega)]
  | succ n ih =>
    intro s hs hb
    have hw : wrap64 ((s.size : Int) - 1) = (n : Int) := by rw [w64 (by omega) (by omega)]; omega
    have e0 : ((n + 1 : Nat) : Int) - 1 = (n : Int) := by omega
    rw [e0]
    by_cases c : bt s (n : Int) = 32
    · have hs' : (s.extract 0 n).size = n := by rw [ByteArray.size_extract]; omega
      obtain ⟨t, ht, h1, _, _⟩ := ih (s.extract 0 n) hs' (by omega)
      refine ⟨t, Ev.step (f := fun k => strings_trimRightByte.f k (s.extract 0 n) 32) (fun k => ?_) ht, by omega, fun _ _ => by omega, fun h => ?_⟩
      · simp only [strings_trimRightByte.f, strings_trimRightByte.l0, hw]
        rw [if_pos (by omega), if_pos (by omega), if_pos (by omega), if_pos c, if_pos (by omega), Int.toNat_natCast]
      · rcases h with h | h
        · omega
        · exact absurd c h
    · refine ⟨s, Ev.step (f := fun _ => some s) (fun k => ?_) (Ev.now _), by omega, fun _ h => absurd h c, fun _ => rfl⟩
      simp only [strings_trimRightByte.f, strings_trimRightByte.l0, hw]
      rw [if_pos (by omega), if_pos (by omega), if_pos (by omega), if_neg c]
theorem trimL (n : Nat) : ∀ s : ByteArray, s.size = n → n ≤ 4611686018427387904 → ∃ t, Ev (fun k => strings_trimLeftByte.f k s 32) t ∧ t.size ≤ n ∧ (1 ≤ n → bt s 0 = 32 → t.size < n) ∧ ((n = 0 ∨ bt s 0 ≠ 32) → t = s) := by
  induction n with
  | zero =>
    intro s hs hb
    refine ⟨s, Ev.step (f := fun _ => some s) (fun k => ?_) (Ev.now _), by omega, fun h => by omega, fun _ => rfl⟩
    simp only [strings_trimLeftByte.f, strings_trimLeftByte.l0]; rw [if_neg (by omega)]
  | succ n ih =>
    intro s hs hb
    by_cases c : bt s 0 = 32
    · have hs' : (s.extract 1 s.size).size = n := by rw [ByteArray.size_extract]; omega
      obtain ⟨t, ht, h1, _, _⟩ := ih (s.extract 1 s.size) hs' (by omega)
      refine ⟨t, Ev.step (f := fun k => strings_trimLeftByte.f k (s.extract 1 s.size) 32) (fun k => ?_) ht, by omega, fun _ _ => by omega, fun h => ?_⟩
      · simp only [strings_trimLeftByte.f, strings_trimLeftByte.l0]
        rw [if_pos (by omega), if_pos (by omega), if_pos c, if_pos (by omega)]
      · rcases h with h | h
        · omega
        · exact absurd c h
    · refine ⟨s, Ev.step (f := fun _ => some s) (fun k => ?_) (Ev.now _), by omega, fun _ h => absurd h c, fun _ => rfl⟩
      simp only [strings_trimLeftByte.f, strings_trimLeftByte.l0]
      rw [if_pos (by omega), if_pos (by omega), if_neg c]
theorem trim_ev (s : ByteArray) (h1 : 1 ≤ s.size) (h2 : s.size ≤ 4611686018427387904) : ∃ t, Ev (fun k => strings_Trim.f k s (⟨#[32]⟩ : ByteArray)) t ∧ (t.toList == s.toList) = edgeD s := by
  obtain ⟨t1, ht1, ha, hb, hc⟩ := trimR s.size s rfl h2
  obtain ⟨t2, ht2, ha', hb', hc'⟩ := trimL t1.size t1 rfl (by omega)
  refine ⟨t2, ?_, ?_⟩
  · unfold strings_Trim.f
    have hz : ¬ s.toList = ([] : List UInt8) := fun e => by rw [toList_L] at e; have := (size_pos_iff s).2 e; omega
    refine ev_neg hz ?_
    have e1 : ((⟨#[32]⟩ : ByteArray).toList == ([] : List UInt8)) = false := by rw [toList_L]; rfl
    have e2 : ((⟨#[32]⟩ : ByteArray).size : Int) = 1 := rfl
    have e3 : bt (⟨#[32]⟩ : ByteArray) 0 = 32 := rfl
    rw [e1]
    refine Ev.step (f := fun k => strings_Trim.j1 k s (⟨#[32]⟩ : ByteArray) true) (fun k => ?_) (Ev.step (f := fun k => (strings_trimRightByte.f k s 32).bind fun t => (strings_trimLeftByte.f k t 32).bind fun u => some u) (fun k => ?_) (Ev.bind ht1 (Ev.bind ht2 (Ev.now _))))
    · simp only [strings_Trim.j0]
      rw [if_neg (by simp), e2, if_pos rfl, if_pos (by omega), e3]; rfl
    · simp only [strings_Trim.j1]
      rw [if_pos trivial, e2, if_pos (by omega), e3]
  · unfold edgeD
    by_cases c : bt s ((s.size : Int) - 1) = 32
    · have : t2.size < s.size := by have := hb h1 c; omega
      have ne : ¬ t2.toList = s.toList := fun e => by have := toList_eq_iff.1 e; subst this; omega
      rw [show (t2.toList == s.toList) = false by simpa using ne]; simp [c]
    · have e := hc (Or.inr c)
      subst e
      by_cases c0 : bt t1 0 = 32
      · have h3 := hb' h1 c0
        have ne : ¬ t2.toList = t1.toList := fun e => by have := toList_eq_iff.1 e; subst this; omega
        rw [show (t2.toList == t1.toList) = false by simpa using ne]; simp [c0]
      · have e := hc' (Or.inr c0)
        subst e
        simp [c, c0]
theorem print_loop (s : ByteArray) (h1 : 1 ≤ s.size) (h2 : s.size ≤ 100) (d : Nat) : ∀ i : Nat, i ≤ s.size → s.size - i = d →
    Ev (fun k => impl_isPrintable.l0 k s (i : Int)) (rngF s d i && edgeD s) := by
  induction d with
  | zero =>
    intro i hi hd
    obtain ⟨t, ht, e⟩ := trim_ev s h1 (by omega)
    refine Ev.step (f := fun k => (strings_Trim.f k s (⟨#[32]⟩ : ByteArray)).bind fun t231 => (some (t231.toList == s.toList))) (fun k => ?_) (Ev.bind ht (ev_eq (Ev.now _) (by rw [e]; simp [rngF])))
    simp only [impl_isPrintable.l0]; rw [if_neg (by omega)]
  | succ d ih =>
    intro i hi hd
    have hw : wrap64 ((i : Int) + 1) = ((i + 1 : Nat) : Int) := by rw [w64 (by omega) (by omega)]; rfl
    refine Ev.step (f := fun k => if rngD (bt s (i : Int)) = true then impl_isPrintable.l0 k s ((i + 1 : Nat) : Int) else some false) (fun k => ?_) ?_
    · simp only [impl_isPrintable.l0]
      rw [if_pos (by omega), if_pos (by omega), hw]
      unfold rngD
      by_cases c1 : bt s (i : Int) < 32
      · rw [if_pos c1, if_neg (by simp; omega)]
      · rw [if_neg c1]
        by_cases c2 : bt s (i : Int) > 126
        · rw [if_pos c2, if_neg (by simp; omega)]
        · rw [if_neg c2, if_pos (by simp; omega)]
    · unfold rngF
      cases h : rngD (bt s (i : Int)) with
      | true => exact ev_pos rfl (ev_eq (ih (i + 1) (by omega) (by omega)) (by simp))
      | false => exact ev_neg (by simp) (ev_eq (Ev.now _) (by simp))
theorem trim_nil (s : ByteArray) (h : s.size = 0) : Ev (fun k => strings_Trim.f k s (⟨#[32]⟩ : ByteArray)) s := by
  unfold strings_Trim.f
  refine ev_pos ((nil_iff s).2 h) (Ev.step (f := fun _ => some s) (fun k => ?_) (Ev.now _))
  simp only [strings_Trim.j0]
  rw [if_pos trivial]
def textD (s : ByteArray) : Bool := decide (s.size ≤ 40) && (decide (s.size = 0) || (rngF s s.size 0 && edgeD s))
theorem impl_text (s : ByteArray) : Ev (fun k => impl_isText.f k s) (textD s) := by
  unfold impl_isText.f textD
  by_cases h : s.size ≤ 40
  · refine ev_pos (by omega) ?_
    unfold impl_isPrintable.f
    by_cases h0 : s.size = 0
    · refine Ev.bind (a := true) ?_ (ev_eq (Ev.now _) (by simp [h, h0]))
      refine Ev.step (f := fun k => (strings_Trim.f k s (⟨#[32]⟩ : ByteArray)).bind fun t231 => (some (t231.toList == s.toList))) (fun k => ?_) (Ev.bind (trim_nil s h0) (ev_eq (Ev.now _) (by simp)))
      simp only [impl_isPrintable.l0]; rw [if_neg (by omega)]
    · exact Ev.bind (print_loop s (by omega) (by omega) _ 0 (by omega) rfl) (ev_eq (Ev.now _) (by simp [h, h0]))
  · exact ev_neg (by omega) (ev_eq (Ev.now _) (by simp [h]))
theorem spec_text_end (s : ByteArray) (h2 : s.size ≤ 40) : Ev (fun k => spec_l4Text.l0 k s (s.size : Int)) (decide (s.size = 0) || edgeD s) := by
  refine Ev.step (f := fun _ => some (decide (s.size = 0) || edgeD s)) (fun k => ?_) (Ev.now _)
  simp only [spec_l4Text.l0]
  rw [if_neg (by omega)]
  by_cases h0 : s.size = 0
  · rw [if_pos ((nil_iff s).2 h0)]; simp [h0]
  · have hw : wrap64 ((s.size : Int) - 1) = (s.size : Int) - 1 := w64 (by omega) (by omega)
    rw [if_neg (fun e => h0 ((nil_iff s).1 e)), if_pos (by omega)]
    unfold edgeD
    by_cases c : bt s 0 = 32
    · rw [if_pos c]; simp [c, h0]
    · rw [if_neg c, hw, if_pos (by omega), if_pos (by omega)]
      by_cases e : bt s ((s.size : Int) - 1) = 32
      · rw [e]; simp [h0]
      · rw [show (bt s ((s.size : Int) - 1) != 32) = true from bne_iff_ne.2 e]; simp [c, e, h0]
theorem spec_text_loop (s : ByteArray) (h2 : s.size ≤ 40) (d : Nat) : ∀ i : Nat, i ≤ s.size → s.size - i = d →
    Ev (fun k => spec_l4Text.l0 k s (i : Int)) (rngF s d i && (decide (s.size = 0) || edgeD s)) := by
  induction d with
  | zero =>
    intro i hi hd
    obtain rfl : i = s.size := by omega
    exact ev_eq (spec_text_end s h2) (by simp [rngF])
  | succ d ih =>
    intro i hi hd
    have hw : wrap64 ((i : Int) + 1) = ((i + 1 : Nat) : Int) := by rw [w64 (by omega) (by omega)]; rfl
    refine Ev.step (f := fun k => if rngD (bt s (i : Int)) = true then spec_l4Text.l0 k s ((i + 1 : Nat) : Int) else some false) (fun k => ?_) ?_
    · simp only [spec_l4Text.l0]
      rw [if_pos (by omega), if_pos (by omega), hw]
      unfold rngD
      by_cases c1 : bt s (i : Int) < 32
      · rw [if_pos c1, if_neg (by simp; omega)]
      · rw [if_neg c1]
        by_cases c2 : bt s (i : Int) > 126
        · rw [if_pos c2, if_neg (by simp; omega)]
        · rw [if_neg c2, if_pos (by simp; omega)]
    · unfold rngF
      cases h : rngD (bt s (i : Int)) with
      | true => exact ev_pos rfl (ev_eq (ih (i + 1) (by omega) (by omega)) (by simp))
      | false => exact ev_neg (by simp) (ev_eq (Ev.now _) (by simp))
theorem spec_text (s : ByteArray) : Ev (fun k => spec_l4Text.f k s) (textD s) := by
  unfold spec_l4Text.f textD
  by_cases h : s.size ≤ 40
  · refine ev_neg (by omega) (ev_eq (spec_text_loop s h _ 0 (by omega) rfl) ?_)
    by_cases h0 : s.size = 0
    · rw [h0]; simp [rngF]
    · simp [h, h0]
  · exact ev_pos (by omega) (ev_eq (Ev.now _) (by simp [h]))
def digD (c : Int) : Bool := decide (48 ≤ c) && decide (c ≤ 57)
def keyC (c : Int) : Bool := loD c || digD c
def keyF (s : ByteArray) : Nat → Nat → Bool
  | 0, _ => true
  | d + 1, i => keyC (bt s (i : Int)) && keyF s d (i + 1)
def inK (n : Nat) : Bool := decide (1 ≤ n) && decide (n ≤ 10)
def keyD (s : ByteArray) : Bool := inK s.size && (loD (bt s 0) && keyF s s.size 0)
theorem in10 (n : Nat) : (if (n : Int) ≥ 1 then some (decide ((n : Int) ≤ 10)) else some false) = some (inK n) := by
  unfold inK
  by_cases h : 1 ≤ n
  · rw [if_pos (by omega)]
    congr 1
    rw [decide_eq_true h, Bool.true_and, decide_eq_decide]; omega
  · rw [if_neg (by omega)]; simp [h]
theorem inK_iff {n : Nat} : inK n = true ↔ 1 ≤ n ∧ n ≤ 10 := by simp [inK]
theorem impl_dig (c : Int) : impl_isDigit.f c = some (digD c) := by unfold impl_isDigit.f digD; by_cases h : 48 ≤ c <;> simp [h]
theorem spec_key_loop (s : ByteArray) (h2 : s.size ≤ 10) (d : Nat) : ∀ i : Nat, i ≤ s.size → s.size - i = d → Ev (fun k => spec_l4Key.l0 k s (i : Int)) (keyF s d i) := by
  induction d with
  | zero =>
    intro i hi hd
    refine Ev.step (f := fun _ => some true) (fun k => ?_) (Ev.now _)
    simp only [spec_l4Key.l0]; rw [if_neg (by omega)]
  | succ d ih =>
    intro i hi hd
    have hw : wrap64 ((i : Int) + 1) = ((i + 1 : Nat) : Int) := by rw [w64 (by omega) (by omega)]; rfl
    refine Ev.step (f := fun k => if keyC (bt s (i : Int)) = true then spec_l4Key.l0 k s ((i + 1 : Nat) : Int) else some false) (fun k => ?_) ?_
    · simp only [spec_l4Key.l0]
      rw [if_pos (by omega), if_pos (by omega), hw, spec_lo]
      simp only [Option.bind_some]
      unfold keyC
      cases loD (bt s (i : Int)) with
      | true => rw [if_pos rfl, Bool.true_or, if_pos rfl]
      | false =>
        rw [if_neg (by simp)]
        unfold digD
        by_cases c1 : bt s (i : Int) < 48
        · rw [if_pos c1, if_neg (by simp; omega)]
        · rw [if_neg c1]
          by_cases c2 : bt s (i : Int) > 57
          · rw [if_pos c2, if_neg (by simp; omega)]
          · rw [if_neg c2, if_pos (by simp; omega)]
    · unfold keyF
      cases h : keyC (bt s (i : Int)) with
      | true => exact ev_pos rfl (ev_eq (ih (i + 1) (by omega) (by omega)) (by simp))
      | false => exact ev_neg (by simp) (ev_eq (Ev.now _) (by simp))
theorem impl_key_loop (s : ByteArray) (h2 : s.size ≤ 10) (d : Nat) : ∀ i : Nat, i ≤ s.size → s.size - i = d → Ev (fun k => impl_isKey.l0 k s (i : Int)) (keyF s d i) := by
  induction d with
  | zero =>
    intro i hi hd
    refine Ev.step (f := fun _ => some true) (fun k => ?_) (Ev.now _)
    simp only [impl_isKey.l0]; rw [if_neg (by omega)]
  | succ d ih =>
    intro i hi hd
    have hw : wrap64 ((i : Int) + 1) = ((i + 1 : Nat) : Int) := by rw [w64 (by omega) (by omega)]; rfl
    refine Ev.step (f := fun k => if keyC (bt s (i : Int)) = true then impl_isKey.l0 k s ((i + 1 : Nat) : Int) else some false) (fun k => ?_) ?_
    · simp only [impl_isKey.l0]
      rw [if_pos (by omega), if_pos (by omega), hw, impl_lo]
      simp only [Option.bind_some]
      unfold keyC
      cases loD (bt s (i : Int)) with
      | true => rw [if_pos rfl, Bool.true_or, if_pos rfl]
      | false =>
        rw [if_neg (by simp), impl_dig]
        simp only [Option.bind_some, Bool.false_or]
    · unfold keyF
      cases h : keyC (bt s (i : Int)) with
      | true => exact ev_pos rfl (ev_eq (ih (i + 1) (by omega) (by omega)) (by simp))
      | false => exact ev_neg (by simp) (ev_eq (Ev.now _) (by simp))
theorem spec_key (s : ByteArray) : Ev (fun k => spec_l4Key.f k s) (keyD s) := by
  have hj1 : Ev (fun k => spec_l4Key.j0 k s true) false := Ev.step (f := fun _ => some false) (fun k => by simp [spec_l4Key.j0]) (Ev.now _)
  unfold spec_l4Key.f spec_l1In.f keyD
  rw [in10]
  refine Ev.bind (a := inK s.size) (Ev.now _) ?_
  cases h : inK s.size with
  | false => exact ev_neg (by simp) (ev_eq hj1 (by simp))
  | true =>
    obtain ⟨h1, h2⟩ := inK_iff.1 h
    refine ev_pos rfl (ev_pos (by omega) (ev_bind0 (spec_lo _) ?_))
    cases loD (bt s 0) with
    | false => exact ev_eq hj1 (by simp)
    | true => exact Ev.step (f := fun k => spec_l4Key.l0 k s ((0 : Nat) : Int)) (fun k => by simp [spec_l4Key.j0]) (ev_eq (spec_key_loop s h2 _ 0 (by omega) rfl) (by simp))
theorem impl_key (s : ByteArray) : Ev (fun k => impl_isKey.f k s) (keyD s) := by
  have hj1 : Ev (fun k => impl_isKey.j0 k s true) false := Ev.step (f := fun _ => some false) (fun k => by simp [impl_isKey.j0]) (Ev.now _)
  unfold impl_isKey.f impl_inside.f keyD
  rw [in10]
  refine Ev.bind (a := inK s.size) (Ev.now _) ?_
  cases h : inK s.size with
  | false => exact ev_neg (by simp) (ev_eq hj1 (by simp))
  | true =>
    obtain ⟨h1, h2⟩ := inK_iff.1 h
    refine ev_pos rfl (ev_pos (by omega) (ev_bind0 (impl_lo _) ?_))
    cases loD (bt s 0) with
    | false => exact ev_eq hj1 (by simp)
    | true => exact Ev.step (f := fun k => impl_isKey.l0 k s ((0 : Nat) : Int)) (fun k => by simp [impl_isKey.j0]) (ev_eq (impl_key_loop s h2 _ 0 (by omega) rfl) (by simp))
def bytesS (l : List ByteArray) : Nat := (l.map (·.size)).sum
def bulkS (l : List ByteArray) : Nat := l.length + bytesS l
theorem bytesS_cons (a : ByteArray) (l : List ByteArray) : bytesS (a :: l) = a.size + bytesS l := by simp [bytesS]
def lftOf (left : Int) (n : Nat) : Int := if (n : Int) ≤ left then left - n else -1
theorem szS_loop (l : List ByteArray) (hb : ∀ s ∈ l, s.size ≤ 9223372036854775807) (hl : l.length ≤ 9223372036854775807) (d : Nat) : ∀ (left : Int) (i : Nat), 0 ≤ left → left ≤ 4611686018427387904 → l.length - i = d → i ≤ l.length →
    Ev (fun k => laws_szStringS.l0 k l left i) (lftOf left (bytesS (l.drop i))) := by
  induction d with
  | zero =>
    intro left i h0 h1 hd hi
    refine Ev.step (f := fun _ => some left) (fun k => ?_) (ev_eq (Ev.now _) ?_)
    · simp only [laws_szStringS.l0]; rw [if_neg (by omega)]
    · rw [List.drop_of_length_le (by omega)]; simp [lftOf, bytesS]; omega
  | succ d ih =>
    intro left i h0 h1 hd hi
    have hlt : i < l.length := by omega
    have hs := hb l[i] (List.getElem_mem hlt)
    have hr : rdOf ByteArray.empty l (i : Int) = l[i] := by simp [rdOf, hlt]
    have hw : wrap64 (left - (l[i].size : Int)) = left - (l[i].size : Int) := w64 (by omega) (by omega)
    rw [List.drop_eq_getElem_cons hlt, bytesS_cons]
    by_cases hn : left - (l[i].size : Int) < 0
    · refine Ev.step (f := fun _ => some (-1)) (fun k => ?_) (ev_eq (Ev.now _) ?_)
      · simp only [laws_szStringS.l0]; rw [if_pos (by omega), if_pos (by omega), hr, hw, if_pos hn]
      · unfold lftOf; rw [if_neg (by omega)]
    · refine Ev.step (f := fun k => laws_szStringS.l0 k l (left - (l[i].size : Int)) ((i + 1 : Nat) : Int)) (fun k => ?_) (ev_eq (ih (left - (l[i].size : Int)) (i + 1) (by omega) (by omega) (by omega) (by omega)) ?_)
      · simp only [laws_szStringS.l0]; rw [if_pos (by omega), if_pos (by omega), hr, hw, if_neg hn, w64 (x := (i : Int) + 1) (by omega) (by omega)]; rfl
      · unfold lftOf; split <;> split <;> omega
theorem szS_ev (l : List ByteArray) (hb : ∀ s ∈ l, s.size ≤ 9223372036854775807) (hl : l.length ≤ 9223372036854775807) (left : Int) (h0 : 0 ≤ left) (h1 : left ≤ 4611686018427387904) :
    Ev (fun k => laws_szStringS.f k l left) (lftOf left (bulkS l)) := by
  unfold laws_szStringS.f
  have hw : wrap64 (left - (l.length : Int)) = left - (l.length : Int) := w64 (by omega) (by omega)
  rw [hw]
  by_cases hn : left - (l.length : Int) < 0
  · refine ev_pos hn (ev_eq (Ev.now _) ?_)
    unfold lftOf bulkS; rw [if_neg (by omega)]
  · refine ev_neg hn (ev_eq (szS_loop l hb hl l.length (left - l.length) 0 (by omega) (by omega) rfl (by omega)) ?_)
    rw [List.drop_zero]
    unfold lftOf bulkS; split <;> split <;> omega
theorem toS_loop (l : List ByteArray) (hl : l.length ≤ 17592186044416) (d : Nat) : ∀ (i : Nat), l.length - i = d → i ≤ l.length →
    Ev (fun k => laws_toStringS.l0 k l (l.take i ++ List.replicate (l.length - i) (⟨#[]⟩ : ByteArray)) i) l := by
  induction d with
  | zero =>
    intro i hd hi
    refine Ev.step (f := fun _ => some l) (fun k => ?_) (Ev.now _)
    simp only [laws_toStringS.l0]; rw [if_neg (by omega), hd, List.take_of_length_le (by omega)]; simp
  | succ d ih =>
    intro i hd hi
    have hlt : i < l.length := by omega
    refine Ev.step (f := fun k => laws_toStringS.l0 k l (l.take (i + 1) ++ List.replicate (l.length - (i + 1)) (⟨#[]⟩ : ByteArray)) ((i + 1 : Nat) : Int)) (fun k => ?_) (ih (i + 1) (by omega) (by omega))
    have hr : rdOf ByteArray.empty l (i : Int) = l[i] := by simp [rdOf, hlt]
    have hlen : (l.take i).length = i := by simp; omega
    have e : (l.take i ++ List.replicate (l.length - i) (⟨#[]⟩ : ByteArray)).set i l[i] = l.take (i + 1) ++ List.replicate (l.length - (i + 1)) (⟨#[]⟩ : ByteArray) := by
      rw [List.set_append_right _ _ (by omega), hlen, Nat.sub_self, show l.length - i = (l.length - (i + 1)) + 1 by omega, List.replicate_succ, List.set_cons_zero, List.take_succ_eq_append_getElem hlt, List.append_assoc]
      rfl
    simp only [laws_toStringS.l0]
    rw [if_pos (by omega), if_pos (by omega), if_pos (by simp; omega), hr, w64 (x := (i : Int) + 1) (by omega) (by omega), Int.toNat_natCast, e]
    rfl
theorem toS_ev (l : List ByteArray) (hl : l.length ≤ 17592186044416) : Ev (fun k => laws_toStringS.f k l) l := by
  unfold laws_toStringS.f
  refine ev_pos (by omega) (ev_pos (by omega) ?_)
  have := toS_loop l hl l.length 0 rfl (by omega)
  simpa using this
def sufD (S : ByteArray) : Bool := decide (S.size = 0) || wordD S
def restD (P F S : ByteArray) : Bool := partD P && (greatD F && sufD S)
def goodN (G : List ByteArray) (P F S : ByteArray) : Bool := G.all greatD && (decide (G.length ≤ 3) && restD P F S)
theorem spec_tail (P F S : ByteArray) (hP : P.size ≤ 4294967280) : Ev (fun k => (spec_l2Particle.f k P).bind fun t134 => (if t134 = true then ((spec_l2Word.f k F).bind fun t135 => (if t135 = true then (if 0 < (F.size : Int) then ((spec_l2Upper.f (bt F 0)).bind fun t136 => (if t136 = true then (if S.toList = ([] : List UInt8) then (some true) else ((spec_l2Word.f k S).bind fun t137 => (some t137))) else (some false))) else (none)) else (some false))) else (some false))) (restD P F S) := by
  unfold restD
  refine Ev.bind (spec_part P hP) ?_
  cases partD P with
  | false => exact ev_neg (by simp) (Ev.now _)
  | true =>
    refine ev_pos rfl (Ev.bind (spec_word F) ?_)
    unfold greatD
    cases h : wordD F with
    | false => exact ev_neg (by simp) (Ev.now _)
    | true =>
      have := word_in h
      refine ev_pos rfl (ev_pos (by omega) (ev_bind0 (spec_up _) ?_))
      cases upD (bt F 0) with
      | false => exact ev_neg (by simp) (Ev.now _)
      | true =>
        refine ev_pos rfl ?_
        unfold sufD
        by_cases h : S.size = 0
        · exact ev_pos ((nil_iff S).2 h) (ev_eq (Ev.now _) (by simp [h]))
        · exact ev_neg (fun e => h ((nil_iff S).1 e)) (Ev.bind (spec_word S) (ev_eq (Ev.now _) (by simp [h])))
theorem spec_good_loop (G : List ByteArray) (P F S : ByteArray) (hG : G.length ≤ 4611686018427387904) (hP : P.size ≤ 4294967280) (d : Nat) : ∀ i : Nat, i ≤ G.length → G.length - i = d →
    Ev (fun k => spec_l2Good.l0 k (i : Int) G P F S) ((G.drop i).all greatD && (decide (G.length ≤ 3) && restD P F S)) := by
  induction d with
  | zero =>
    intro i h1 hd
    refine Ev.step (f := fun k => if (G.length : Int) ≤ 3 then ((spec_l2Particle.f k P).bind fun t134 => (if t134 = true then ((spec_l2Word.f k F).bind fun t135 => (if t135 = true then (if 0 < (F.size : Int) then ((spec_l2Upper.f (bt F 0)).bind fun t136 => (if t136 = true then (if S.toList = ([] : List UInt8) then (some true) else ((spec_l2Word.f k S).bind fun t137 => (some t137))) else (some false))) else (none)) else (some false))) else (some false))) else some false) (fun k => ?_) ?_
    · simp only [spec_l2Good.l0]; rw [if_neg (by omega)]
    · rw [List.drop_of_length_le (by omega)]
      by_cases h : G.length ≤ 3
      · exact ev_pos (by omega) (ev_eq (spec_tail P F S hP) (by simp [h]))
      · exact ev_neg (by omega) (ev_eq (Ev.now _) (by simp [h]))
  | succ d ih =>
    intro i h1 hd
    have hi : i < G.length := by omega
    have hw : wrap64 ((i : Int) + 1) = ((i + 1 : Nat) : Int) := by rw [w64 (by omega) (by omega)]; rfl
    rw [List.drop_eq_getElem_cons hi, List.all_cons, Bool.and_assoc]
    refine Ev.step (f := fun k => (spec_l2Word.f k G[i]).bind fun t131 => (if t131 = true then (if 0 < ((G[i]).size : Int) then ((spec_l2Upper.f (bt G[i] 0)).bind fun t133 => (if t133 = true then (spec_l2Good.l0 k ((i + 1 : Nat) : Int) G P F S) else (some false))) else (none)) else (some false))) (fun k => ?_) ?_
    · simp only [spec_l2Good.l0, rd_get G i hi]
      rw [if_pos (by omega), if_pos (by omega), hw]
    · refine Ev.bind (spec_word _) ?_
      rw [show greatD G[i] = (wordD G[i] && upD (bt G[i] 0)) from rfl]
      cases h : wordD G[i] with
      | false => exact ev_neg (by simp) (ev_eq (Ev.now _) (by simp))
      | true =>
        have := word_in h
        refine ev_pos rfl (ev_pos (by omega) (ev_bind0 (spec_up _) ?_))
        cases upD (bt G[i] 0) with
        | false => exact ev_neg (by simp) (ev_eq (Ev.now _) (by simp))
        | true => exact ev_pos rfl (ev_eq (ih (i + 1) (by omega) (by omega)) (by simp))
theorem spec_name (G : List ByteArray) (P F S : ByteArray) (hG : G.length ≤ 4611686018427387904) (hP : P.size ≤ 4294967280) : Ev (fun k => spec_l2Good.f k G P F S) (goodN G P F S) := by
  have := spec_good_loop G P F S hG hP _ 0 (by omega) rfl
  unfold spec_l2Good.f goodN
  rw [List.drop_zero] at this
  exact this
theorem idx_loop (G : List ByteArray) (hG : G.length ≤ 4611686018427387904) (d : Nat) : ∀ i : Nat, i ≤ G.length → G.length - i = d →
    ∃ v, Ev (fun k => slices_IndexFunc_string_string_at_107.l0 k G (G.length : Int) (i : Int)) v ∧ decide (v ≥ 0) = !((G.drop i).all greatD) := by
  induction d with
  | zero =>
    intro i h1 hd
    refine ⟨-1, Ev.step (f := fun _ => some (-1)) (fun k => ?_) (Ev.now _), ?_⟩
    · simp only [slices_IndexFunc_string_string_at_107.l0]; rw [if_neg (by omega)]
    · rw [List.drop_of_length_le (by omega)]; simp
  | succ d ih =>
    intro i h1 hd
    have hi : i < G.length := by omega
    have hw : wrap64 ((i : Int) + 1) = ((i + 1 : Nat) : Int) := by rw [w64 (by omega) (by omega)]; rfl
    rw [List.drop_eq_getElem_cons hi, List.all_cons]
    have hst : ∀ v, Ev (fun k => (impl_IsValidName_1.f k G[i]).bind fun t => if t = true then some (i : Int) else slices_IndexFunc_string_string_at_107.l0 k G (G.length : Int) ((i + 1 : Nat) : Int)) v → Ev (fun k => slices_IndexFunc_string_string_at_107.l0 k G (G.length : Int) (i : Int)) v := by
      intro v hv
      refine Ev.step (fun k => ?_) hv
      simp only [slices_IndexFunc_string_string_at_107.l0, rd_get G i hi]
      rw [if_pos (by omega), if_pos (by omega), if_pos (by omega), hw]
    have hf : Ev (fun k => impl_IsValidName_1.f k G[i]) (!greatD G[i]) := by
      unfold impl_IsValidName_1.f
      exact Ev.bind (impl_great _) (Ev.now _)
    cases h : greatD G[i] with
    | true =>
      obtain ⟨v, hv, e⟩ := ih (i + 1) (by omega) (by omega)
      refine ⟨v, hst v (Ev.bind hf (ev_neg (by simp [h]) hv)), ?_⟩
      rw [e]; simp
    | false =>
      refine ⟨(i : Int), hst _ (Ev.bind hf (ev_pos (by simp [h]) (Ev.now _))), ?_⟩
      simp
theorem contains_ev (G : List ByteArray) (hG : G.length ≤ 4611686018427387904) : Ev (fun k => slices_ContainsFunc_string_string_at_107.f k G) (!(G.all greatD)) := by
  obtain ⟨v, hv, e⟩ := idx_loop G hG _ 0 (by omega) rfl
  unfold slices_ContainsFunc_string_string_at_107.f slices_IndexFunc_string_string_at_107.f
  rw [List.drop_zero] at e
  exact Ev.bind hv (ev_eq (Ev.now _) e)
theorem impl_valid (G : List ByteArray) (P F S : ByteArray) (hG : G.length ≤ 4611686018427387904) (hP : P.size ≤ 4294967280) : Ev (fun k => impl_IsValidName.f k G P F S) (goodN G P F S) := by
  have hj1 : Ev (fun k => impl_IsValidName.j0 k true G P F S) false := Ev.step (f := fun _ => some false) (fun k => by simp [impl_IsValidName.j0]) (Ev.now _)
  have hj0 : Ev (fun k => impl_IsValidName.j0 k false G P F S) (restD P F S) := by
    refine Ev.step (f := fun k => (impl_isParticle.f k P).bind fun t172 => (if t172 = true then ((impl_isGreatWord.f k F).bind fun t173 => (if t173 = true then (if S.toList = ([] : List UInt8) then (some true) else ((impl_isNameWord.f k S).bind fun t174 => (some t174))) else (some false))) else (some false))) (fun k => by simp [impl_IsValidName.j0]) ?_
    unfold restD
    refine Ev.bind (impl_part P hP) ?_
    cases partD P with
    | false => exact ev_neg (by simp) (Ev.now _)
    | true =>
      refine ev_pos rfl (Ev.bind (impl_great F) ?_)
      cases greatD F with
      | false => exact ev_neg (by simp) (Ev.now _)
      | true =>
        refine ev_pos rfl ?_
        unfold sufD
        by_cases h : S.size = 0
        · exact ev_pos ((nil_iff S).2 h) (ev_eq (Ev.now _) (by simp [h]))
        · exact ev_neg (fun e => h ((nil_iff S).1 e)) (Ev.bind (impl_word S) (ev_eq (Ev.now _) (by simp [h])))
  unfold impl_IsValidName.f goodN
  by_cases h : G.length ≤ 3
  · refine ev_neg (by omega) (Ev.bind (contains_ev G hG) ?_)
    cases G.all greatD with
    | true => exact ev_eq hj0 (by simp [h])
    | false => exact ev_eq hj1 (by simp)
  · exact ev_pos (by omega) (ev_eq hj1 (by simp [h]))
def bulkN (G : List ByteArray) (P F S : ByteArray) : Nat := bulkS G + P.size + F.size + S.size
theorem szN_ev (G : List ByteArray) (P F S : ByteArray) (hb : ∀ s ∈ G, s.size ≤ 9223372036854775807) (hl : G.length ≤ 9223372036854775807) (hP : P.size ≤ 9223372036854775807) (hF : F.size ≤ 9223372036854775807) (hS : S.size ≤ 9223372036854775807) (left : Int) (h0 : 0 ≤ left) (h1 : left ≤ 4611686018427387904) :
    Ev (fun k => laws_szName.f k G P F S left) (lftOf left (bulkN G P F S)) := by
  unfold laws_szName.f
  refine Ev.bind (szS_ev G hb hl left h0 h1) ?_
  unfold bulkN
  by_cases c : (bulkS G : Int) ≤ left
  · have e : lftOf left (bulkS G) = left - bulkS G := by unfold lftOf; rw [if_pos c]
    rw [e]
    have w1 : wrap64 (left - (bulkS G : Int) - (P.size : Int)) = left - (bulkS G : Int) - (P.size : Int) := w64 (by omega) (by omega)
    rw [w1]
    refine ev_neg (by omega) ?_
    by_cases c1 : left - (bulkS G : Int) - (P.size : Int) < 0
    · exact ev_pos c1 (ev_eq (Ev.now _) (by unfold lftOf; rw [if_neg (by omega)]))
    refine ev_neg c1 ?_
    have w2 : wrap64 (left - (bulkS G : Int) - (P.size : Int) - (F.size : Int)) = left - (bulkS G : Int) - (P.size : Int) - (F.size : Int) := w64 (by omega) (by omega)
    rw [w2]
    by_cases c2 : left - (bulkS G : Int) - (P.size : Int) - (F.size : Int) < 0
    · exact ev_pos c2 (ev_eq (Ev.now _) (by unfold lftOf; rw [if_neg (by omega)]))
    refine ev_neg c2 ?_
    have w3 : wrap64 (left - (bulkS G : Int) - (P.size : Int) - (F.size : Int) - (S.size : Int)) = left - (bulkS G : Int) - (P.size : Int) - (F.size : Int) - (S.size : Int) := w64 (by omega) (by omega)
    rw [w3]
    by_cases c3 : left - (bulkS G : Int) - (P.size : Int) - (F.size : Int) - (S.size : Int) < 0
    · exact ev_pos c3 (ev_eq (Ev.now _) (by unfold lftOf; rw [if_neg (by omega)]))
    · exact ev_neg c3 (ev_eq (Ev.now _) (by unfold lftOf; rw [if_pos (by omega)]; omega))
  · have e : lftOf left (bulkS G) = -1 := by unfold lftOf; rw [if_neg c]
    rw [e]
    exact ev_pos (by omega) (ev_eq (Ev.now _) (by unfold lftOf; rw [if_neg (by omega)]))
theorem toN_ev (G : List ByteArray) (P F S : ByteArray) (hl : G.length ≤ 17592186044416) : Ev (fun k => laws_toName.f k G P F S) (G, P, F, S) := by
  unfold laws_toName.f
  exact Ev.bind (toS_ev G hl) (Ev.now _)
theorem eqS_same_loop (l : List ByteArray) (hl : l.length ≤ 4611686018427387904) (d : Nat) : ∀ i : Nat, i ≤ l.length → l.length - i = d → Ev (fun k => laws_eqStringS.l0 k l l (i : Int)) true := by
  induction d with
  | zero =>
    intro i h1 hd
    refine Ev.step (f := fun _ => some true) (fun k => ?_) (Ev.now _)
    simp only [laws_eqStringS.l0]; rw [if_neg (by omega)]
  | succ d ih =>
    intro i h1 hd
    have hw : wrap64 ((i : Int) + 1) = ((i + 1 : Nat) : Int) := by rw [w64 (by omega) (by omega)]; rfl
    refine Ev.step (f := fun k => laws_eqStringS.l0 k l l ((i + 1 : Nat) : Int)) (fun k => ?_) (ih (i + 1) (by omega) (by omega))
    simp only [laws_eqStringS.l0]
    rw [if_pos (by omega), if_pos (by omega), if_pos (by omega), if_pos trivial, hw]
theorem eqS_same (l : List ByteArray) (hl : l.length ≤ 4611686018427387904) : Ev (fun k => laws_eqStringS.f k l l) true := by
  unfold laws_eqStringS.f
  exact ev_pos rfl (eqS_same_loop l hl _ 0 (by omega) rfl)
theorem eqN_same (G : List ByteArray) (P F S : ByteArray) (hl : G.length ≤ 4611686018427387904) : Ev (fun k => laws_eqName.f k G P F S G P F S) true := by
  unfold laws_eqName.f
  exact Ev.bind (eqS_same G hl) (ev_pos rfl (ev_pos rfl (ev_pos rfl (ev_pos rfl (Ev.now _)))))


end Go.Proofs.YtcnhdhfhofaocaaGreatDoor.G

namespace Go.Proofs.YtcnhdhfhofaocaaGreatDoor.G
open Go.RowKit Go.Proofs.YtcnhdhfhofaocaaGreatDoorW.PrintWords Go.Proofs.YtcnhdhfhofaocaaGreatDoorW.PrintLast Go.Proofs.YtcnhdhfhofaocaaGreatDoor.B Go.Proofs.YtcnhdhfhofaocaaGreatDoor.Opn
set_option linter.unusedVariables false
set_option linter.unusedSimpArgs false
def conv (x : S74) : S80 := ⟨x.f0, x.f1, x.f2, x.f3⟩
def bulkL (l : List S74) : Nat := (l.map fun x => bulkN x.f0 x.f1 x.f2 x.f3).sum
theorem rd24 (l : List S74) (i : Nat) (h : i < l.length) : rd_T74 l (i : Int) = l[i] := by simp [rd_T74, h]
theorem rd27 (l : List S80) (i : Nat) (h : i < l.length) : rd_T80 l (i : Int) = l[i] := by simp [rd_T80, h]
theorem bulkL_cons (a : S74) (l : List S74) : bulkL (a :: l) = bulkN a.f0 a.f1 a.f2 a.f3 + bulkL l := by simp [bulkL]
theorem bulkL_mem {l : List S74} {x : S74} (h : x ∈ l) : bulkN x.f0 x.f1 x.f2 x.f3 ≤ bulkL l := by
  induction l with
  | nil => simp at h
  | cons a l ih =>
    rw [bulkL_cons]
    rcases List.mem_cons.1 h with rfl | h
    · omega
    · have := ih h; omega
theorem szL_loop (l : List S74) (hb : ∀ x ∈ l, ok74 x) (hl : l.length ≤ 9223372036854775807) (d : Nat) : ∀ (left : Int) (i : Nat), 0 ≤ left → left ≤ 1048576 → l.length - i = d → i ≤ l.length →
    Ev (fun k => laws_szNameS.l0 k l left (i : Int)) (lftOf left (bulkL (l.drop i))) := by
  induction d with
  | zero =>
    intro left i h0 h1 hd hi
    refine Ev.step (f := fun _ => some left) (fun k => ?_) (ev_eq (Ev.now _) ?_)
    · simp only [laws_szNameS.l0]; rw [if_neg (by omega)]
    · rw [List.drop_of_length_le (by omega)]; unfold lftOf bulkL; simp; omega
  | succ d ih =>
    intro left i h0 h1 hd hi
    have hlt : i < l.length := by omega
    obtain ⟨b0, b1, b2, b3⟩ := hb l[i] (List.getElem_mem hlt)
    have hsz := szN_ev (l[i]).f0 (l[i]).f1 (l[i]).f2 (l[i]).f3 b0.2 b0.1 b1 b2 b3 left h0 (by omega)
    have hw : wrap64 ((i : Int) + 1) = ((i + 1 : Nat) : Int) := by rw [w64 (by omega) (by omega)]; rfl
    rw [List.drop_eq_getElem_cons hlt, bulkL_cons]
    refine Ev.step (f := fun k => (laws_szName.f k (l[i]).f0 (l[i]).f1 (l[i]).f2 (l[i]).f3 left).bind fun t276 => (if t276 < 0 then (some (-1)) else (laws_szNameS.l0 k l t276 ((i + 1 : Nat) : Int)))) (fun k => ?_) (Ev.bind hsz ?_)
    · simp only [laws_szNameS.l0, rd24 l i hlt, hw]
      rw [if_pos (by omega), if_pos (by omega)]
    · by_cases c : (bulkN (l[i]).f0 (l[i]).f1 (l[i]).f2 (l[i]).f3 : Int) ≤ left
      · have e : lftOf left (bulkN (l[i]).f0 (l[i]).f1 (l[i]).f2 (l[i]).f3) = left - bulkN (l[i]).f0 (l[i]).f1 (l[i]).f2 (l[i]).f3 := by unfold lftOf; rw [if_pos c]
        rw [e]
        refine ev_neg (by omega) (ev_eq (ih _ (i + 1) (by omega) (by omega) (by omega) (by omega)) ?_)
        unfold lftOf; split <;> split <;> omega
      · have e : lftOf left (bulkN (l[i]).f0 (l[i]).f1 (l[i]).f2 (l[i]).f3) = -1 := by unfold lftOf; rw [if_neg c]
        rw [e]
        exact ev_pos (by omega) (ev_eq (Ev.now _) (by unfold lftOf; rw [if_neg (by omega)]))
theorem szL_ev (l : List S74) (hb : ∀ x ∈ l, ok74 x) (hl : l.length ≤ 9223372036854775807) (left : Int) (h0 : 0 ≤ left) (h1 : left ≤ 1048576) :
    Ev (fun k => laws_szNameS.f k l left) (lftOf left (l.length + bulkL l)) := by
  unfold laws_szNameS.f
  have hw : wrap64 (left - (l.length : Int)) = left - (l.length : Int) := w64 (by omega) (by omega)
  rw [hw]
  by_cases hn : left - (l.length : Int) < 0
  · exact ev_pos hn (ev_eq (Ev.now _) (by unfold lftOf; rw [if_neg (by omega)]))
  · refine ev_neg hn (ev_eq (szL_loop l hb hl l.length (left - l.length) 0 (by omega) (by omega) rfl (by omega)) ?_)
    rw [List.drop_zero]
    unfold lftOf; split <;> split <;> omega
theorem toL_loop (l : List S74) (hl : l.length ≤ 1048576) (hs : ∀ x ∈ l, x.f0.length ≤ 1048576) (d : Nat) : ∀ (i : Nat), l.length - i = d → i ≤ l.length →
    Ev (fun k => laws_toNameS.l0 k l ((l.take i).map conv ++ List.replicate (l.length - i) z80) (i : Int)) (l.map conv) := by
  induction d with
  | zero =>
    intro i hd hi
    refine Ev.step (f := fun _ => some (l.map conv)) (fun k => ?_) (Ev.now _)
    simp only [laws_toNameS.l0]; rw [if_neg (by omega), hd, List.take_of_length_le (by omega)]; simp
  | succ d ih =>
    intro i hd hi
    have hlt : i < l.length := by omega
    have hw : wrap64 ((i : Int) + 1) = ((i + 1 : Nat) : Int) := by rw [w64 (by omega) (by omega)]; rfl
    have hlen : ((l.take i).map conv).length = i := by simp; omega
    have hall : ((l.take i).map conv ++ List.replicate (l.length - i) z80).length = l.length := by simp; omega
    have e : ((l.take i).map conv ++ List.replicate (l.length - i) z80).set i (conv l[i]) = (l.take (i + 1)).map conv ++ List.replicate (l.length - (i + 1)) z80 := by
      rw [List.set_append_right _ _ (by omega), hlen, Nat.sub_self, show l.length - i = (l.length - (i + 1)) + 1 by omega, List.replicate_succ, List.set_cons_zero, List.take_succ_eq_append_getElem hlt, List.map_append, List.append_assoc]
      rfl
    have ht := toN_ev (l[i]).f0 (l[i]).f1 (l[i]).f2 (l[i]).f3 (by have := hs _ (List.getElem_mem hlt); omega)
    refine Ev.step (f := fun k => (laws_toName.f k (l[i]).f0 (l[i]).f1 (l[i]).f2 (l[i]).f3).bind fun bt289 => laws_toNameS.l0 k l (((l.take i).map conv ++ List.replicate (l.length - i) z80).set i (⟨bt289.1, bt289.2.1, bt289.2.2.1, bt289.2.2.2⟩ : S80)) ((i + 1 : Nat) : Int)) (fun k => ?_) (Ev.bind ht ?_)
    · have a3 : (i : Int) < ((((l.take i).map conv ++ List.replicate (l.length - i) z80).length : Nat) : Int) := by rw [hall]; omega
      simp only [laws_toNameS.l0, rd24 l i hlt, hw, if_pos a3, Int.toNat_natCast]
      rw [if_pos (by omega), if_pos (by omega)]
    · have hq := ih (i + 1) (by omega) (by omega)
      rw [← e] at hq
      exact hq
theorem toL_ev (l : List S74) (hl : l.length ≤ 1048576) (hs : ∀ x ∈ l, x.f0.length ≤ 1048576) : Ev (fun k => laws_toNameS.f k l) (l.map conv) := by
  unfold laws_toNameS.f
  refine ev_pos (by omega) (ev_pos (by omega) ?_)
  have := toL_loop l hl hs l.length 0 rfl (by omega)
  simpa using this
def goodS (x : S80) : Bool := goodN x.f0 x.f1 x.f2 x.f3
def okS (x : S80) : Prop := x.f0.length ≤ 4611686018427387904 ∧ x.f1.size ≤ 4294967280
def listD (l : List S80) : Bool := l.all goodS && decide (l.length ≤ 4)
theorem spec_list_loop (l : List S80) (ho : ∀ x ∈ l, okS x) (hl : l.length ≤ 1048576) (d : Nat) : ∀ i : Nat, i ≤ l.length → min l.length 5 - i = d → i ≤ 5 →
    Ev (fun k => spec_l2List.l0 k l (i : Int)) (((l.take 5).drop i).all goodS && decide (l.length ≤ 4)) := by
  have stop : ∀ i : Nat, Ev (fun k => spec_l2List.j1 k l (i : Int) false) (decide (l.length ≤ 4)) := fun i => by
    refine Ev.step (f := fun _ => some (decide ((l.length : Int) ≤ 4))) (fun k => by simp [spec_l2List.j1]) (ev_eq (Ev.now _) ?_)
    rw [decide_eq_decide]; omega
  induction d with
  | zero =>
    intro i h1 hd h5
    rw [List.drop_of_length_le (by rw [List.length_take]; omega)]
    refine Ev.step (f := fun k => spec_l2List.j1 k l (i : Int) false) (fun k => ?_) (ev_eq (stop i) (by simp))
    simp only [spec_l2List.l0]
    by_cases c : i < l.length
    · rw [if_pos (by omega), decide_eq_false (by omega)]
    · rw [if_neg (by omega)]
  | succ d ih =>
    intro i h1 hd h5
    have hi : i < l.length := by omega
    have hw : wrap64 ((i : Int) + 1) = ((i + 1 : Nat) : Int) := by rw [w64 (by omega) (by omega)]; rfl
    have hi' : i < (l.take 5).length := by rw [List.length_take]; omega
    have hx := ho _ (List.getElem_mem hi)
    rw [List.drop_eq_getElem_cons hi', List.all_cons, List.getElem_take, Bool.and_assoc]
    refine Ev.step (f := fun k => spec_l2List.j1 k l (i : Int) true) (fun k => ?_) (Ev.step (f := fun k => (spec_l2Good.f k (l[i]).f0 (l[i]).f1 (l[i]).f2 (l[i]).f3).bind fun t278 => (if t278 = true then (spec_l2List.l0 k l ((i + 1 : Nat) : Int)) else (some false))) (fun k => ?_) (Ev.bind (spec_name _ _ _ _ hx.1 hx.2) ?_))
    · simp only [spec_l2List.l0]
      rw [if_pos (by omega), decide_eq_true (by omega)]
    · simp only [spec_l2List.j1, rd27 l i hi, hw]
      rw [if_pos trivial, if_pos (by omega), if_pos (by omega)]
    · show Ev _ (goodN (l[i]).f0 (l[i]).f1 (l[i]).f2 (l[i]).f3 && _)
      cases goodN (l[i]).f0 (l[i]).f1 (l[i]).f2 (l[i]).f3 with
      | true => exact ev_pos rfl (ev_eq (ih (i + 1) (by omega) (by omega) (by omega)) (by simp))
      | false => exact ev_neg (by simp) (ev_eq (Ev.now _) (by simp))
theorem spec_list (l : List S80) (ho : ∀ x ∈ l, okS x) (hl : l.length ≤ 1048576) : Ev (fun k => spec_l2List.f k l) (listD l) := by
  have h := spec_list_loop l ho hl _ 0 (by omega) rfl (by omega)
  unfold spec_l2List.f listD
  refine ev_eq h ?_
  rw [List.drop_zero]
  by_cases c : l.length ≤ 4
  · rw [List.take_of_length_le (by omega)]
  · rw [decide_eq_false c]; simp
theorem idxN_loop (l : List S80) (ho : ∀ x ∈ l, okS x) (hl : l.length ≤ 1048576) (d : Nat) : ∀ i : Nat, i ≤ l.length → l.length - i = d →
    ∃ v, Ev (fun k => impl_Name_105_at_87.l0 k l (l.length : Int) (i : Int)) v ∧ decide (v ≥ 0) = !((l.drop i).all goodS) := by
  induction d with
  | zero =>
    intro i h1 hd
    refine ⟨-1, Ev.step (f := fun _ => some (-1)) (fun k => ?_) (Ev.now _), ?_⟩
    · simp only [impl_Name_105_at_87.l0]; rw [if_neg (by omega)]
    · rw [List.drop_of_length_le (by omega)]; simp
  | succ d ih =>
    intro i h1 hd
    have hi : i < l.length := by omega
    have hw : wrap64 ((i : Int) + 1) = ((i + 1 : Nat) : Int) := by rw [w64 (by omega) (by omega)]; rfl
    have hx := ho _ (List.getElem_mem hi)
    rw [List.drop_eq_getElem_cons hi, List.all_cons]
    have hst : ∀ v, Ev (fun k => (impl_areNames_1.f k (l[i]).f0 (l[i]).f1 (l[i]).f2 (l[i]).f3).bind fun t => if t = true then some (i : Int) else impl_Name_105_at_87.l0 k l (l.length : Int) ((i + 1 : Nat) : Int)) v → Ev (fun k => impl_Name_105_at_87.l0 k l (l.length : Int) (i : Int)) v := by
      intro v hv
      refine Ev.step (fun k => ?_) hv
      simp only [impl_Name_105_at_87.l0, rd27 l i hi, hw]
      rw [if_pos (by omega), if_pos (by omega), if_pos (by omega)]
    have hf : Ev (fun k => impl_areNames_1.f k (l[i]).f0 (l[i]).f1 (l[i]).f2 (l[i]).f3) (!goodS l[i]) := by
      unfold impl_areNames_1.f
      exact Ev.bind (impl_valid _ _ _ _ hx.1 hx.2) (Ev.now _)
    cases h : goodS l[i] with
    | true =>
      obtain ⟨v, hv, e⟩ := ih (i + 1) (by omega) (by omega)
      refine ⟨v, hst v (Ev.bind hf (ev_neg (by simp [h]) hv)), ?_⟩
      rw [e]; simp
    | false =>
      refine ⟨(i : Int), hst _ (Ev.bind hf (ev_pos (by simp [h]) (Ev.now _))), ?_⟩
      simp
theorem impl_list (l : List S80) (ho : ∀ x ∈ l, okS x) (hl : l.length ≤ 1048576) : Ev (fun k => impl_areNames.f k l) (listD l) := by
  unfold impl_areNames.f listD
  by_cases c : l.length ≤ 4
  · obtain ⟨v, hv, e⟩ := idxN_loop l ho hl _ 0 (by omega) rfl
    rw [List.drop_zero] at e
    refine ev_pos (by omega) (Ev.bind (g := fun k => impl_Name_86_at_87.f k l) (a := decide (v ≥ 0)) ?_ (ev_eq (Ev.now _) ?_))
    · unfold impl_Name_86_at_87.f impl_Name_105_at_87.f
      exact Ev.bind hv (Ev.now _)
    · rw [e]; simp [c]
  · exact ev_neg (by omega) (ev_eq (Ev.now _) (by simp [c]))
theorem list_good {l : List S80} (h : listD l = true) : l.length ≤ 4 ∧ ∀ x ∈ l, goodS x = true := by
  unfold listD at h
  simp only [Bool.and_eq_true, decide_eq_true_eq] at h
  exact ⟨h.2, fun x hx => List.all_eq_true.1 h.1 x hx⟩
theorem eqL_loop (l : List S80) (ho : ∀ x ∈ l, okS x) (hl : l.length ≤ 1048576) (d : Nat) : ∀ i : Nat, i ≤ l.length → l.length - i = d → Ev (fun k => laws_eqNameS.l0 k l l (i : Int)) true := by
  induction d with
  | zero =>
    intro i h1 hd
    refine Ev.step (f := fun _ => some true) (fun k => ?_) (Ev.now _)
    simp only [laws_eqNameS.l0]; rw [if_neg (by omega)]
  | succ d ih =>
    intro i h1 hd
    have hi : i < l.length := by omega
    have hw : wrap64 ((i : Int) + 1) = ((i + 1 : Nat) : Int) := by rw [w64 (by omega) (by omega)]; rfl
    refine Ev.step (f := fun k => (laws_eqName.f k (l[i]).f0 (l[i]).f1 (l[i]).f2 (l[i]).f3 (l[i]).f0 (l[i]).f1 (l[i]).f2 (l[i]).f3).bind fun t308 => (if t308 = true then (laws_eqNameS.l0 k l l ((i + 1 : Nat) : Int)) else (some false))) (fun k => ?_) (Ev.bind (eqN_same _ _ _ _ (ho _ (List.getElem_mem hi)).1) (ev_pos rfl (ih (i + 1) (by omega) (by omega))))
    simp only [laws_eqNameS.l0, rd27 l i hi, hw]
    rw [if_pos (by omega), if_pos (by omega), if_pos (by omega)]
theorem eqL_same (l : List S80) (ho : ∀ x ∈ l, okS x) (hl : l.length ≤ 1048576) : Ev (fun k => laws_eqNameS.f k l l) true := by
  unfold laws_eqNameS.f
  exact ev_pos rfl (eqL_loop l ho hl _ 0 (by omega) rfl)
theorem conv_ok {l : List S74} (h : bulkL l ≤ 1048576) : ∀ x ∈ l.map conv, okS x := by
  intro x hx
  obtain ⟨y, hy, rfl⟩ := List.mem_map.1 hx
  have := bulkL_mem hy
  unfold bulkN bulkS at this
  exact ⟨by show y.f0.length ≤ _; omega, by show y.f1.size ≤ _; omega⟩
end Go.Proofs.YtcnhdhfhofaocaaGreatDoor.G

namespace Go.Proofs.YtcnhdhfhofaocaaGreatDoor.G
open Go.RowKit Go.Proofs.YtcnhdhfhofaocaaGreatDoorW.PrintWords Go.Proofs.YtcnhdhfhofaocaaGreatDoorW.PrintLast
set_option linter.unusedVariables false
set_option linter.unusedSimpArgs false
def daysD (y m : Int) : Int :=
  if m = 2 then (if Int.tmod y 4 = 0 ∧ (Int.tmod y 100 ≠ 0 ∨ Int.tmod y 400 = 0) then 29 else 28) else if m = 4 ∨ m = 6 ∨ m = 9 ∨ m = 11 then 30 else 31
def goodD (y m d : Int) (c : Bool) : Bool :=
  if y = 0 ∧ m = 0 ∧ d = 0 ∧ c = false then true
  else if ¬ (1 ≤ y ∧ y ≤ 2999 ∧ 0 ≤ m ∧ m ≤ 12) then false
  else if m = 0 then decide (d = 0)
  else if c then false else decide (0 ≤ d ∧ d ≤ daysD y m)
theorem tmod_400_4 (y : Int) (h : Int.tmod y 400 = 0) : Int.tmod y 4 = 0 := by
  have h1 : (400 : Int) ∣ y := Int.dvd_of_tmod_eq_zero h
  exact Int.tmod_eq_zero_of_dvd (Int.dvd_trans (by decide) h1)
theorem spec_days (k : Nat) (y m : Int) : spec_l3Days.f (k + 1) y m = some (daysD y m) := by
  unfold spec_l3Days.f daysD
  by_cases h2 : m = 2
  · subst h2
    simp only [if_true, spec_l3Days.j0]
    by_cases a : Int.tmod y 4 = 0 <;> by_cases b : Int.tmod y 100 = 0 <;> by_cases c : Int.tmod y 400 = 0 <;> simp [a, b, c]
    · exact a (tmod_400_4 y c)
    · exact a (tmod_400_4 y c)
  · by_cases a : m = 4 <;> by_cases b : m = 6 <;> by_cases c : m = 9 <;> by_cases d : m = 11 <;> simp [h2, a, b, c, d]
theorem impl_days (y m : Int) : impl_daysInMonth.f y m = some (daysD y m) := by
  unfold impl_daysInMonth.f daysD
  by_cases h2 : m = 2
  · subst h2
    by_cases a : Int.tmod y 4 = 0 <;> by_cases b : Int.tmod y 100 = 0 <;> by_cases c : Int.tmod y 400 = 0 <;> simp [a, b, c]
  · by_cases a : m = 4 <;> by_cases b : m = 6 <;> by_cases c : m = 9 <;> by_cases d : m = 11 <;> simp [h2, a, b, c, d]
theorem spec_good (k : Nat) (y m d : Int) (c : Bool) : spec_l3Good.f (k + 2) y m d c = some (goodD y m d c) := by
  unfold spec_l3Good.f goodD
  by_cases z : y = 0 ∧ m = 0 ∧ d = 0 ∧ c = false
  · obtain ⟨rfl, rfl, rfl, rfl⟩ := z; simp
  · rw [if_neg (by simpa using z), if_neg z]
    simp only [spec_l1In.f]
    by_cases a : 1 ≤ y <;> by_cases b : y ≤ 2999 <;> by_cases e : 0 ≤ m <;> by_cases f : m ≤ 12 <;> simp [a, b, e, f, spec_l3Good.j0]
    rw [spec_days]
    by_cases g : m = 0 <;> by_cases h : d = 0 <;> by_cases i : 0 ≤ d <;> cases c <;> simp [g, h, i, spec_l1In.f, impl_inside.f]
theorem impl_good (k : Nat) (y m d : Int) (c : Bool) : impl_IsValidDate.f (k + 2) y m d c = some (goodD y m d c) := by
  unfold impl_IsValidDate.f goodD
  by_cases z : y = 0 ∧ m = 0 ∧ d = 0 ∧ c = false
  · obtain ⟨rfl, rfl, rfl, rfl⟩ := z; simp
  · rw [if_neg (by simpa using z), if_neg z]
    simp only [impl_inside.f]
    by_cases a : 1 ≤ y <;> by_cases b : y ≤ 2999 <;> by_cases e : 0 ≤ m <;> by_cases f : m ≤ 12 <;> simp [a, b, e, f, impl_IsValidDate.j0]
    rw [impl_days]
    by_cases g : m = 0 <;> by_cases h : d = 0 <;> by_cases i : 0 ≤ d <;> cases c <;> simp [g, h, i, spec_l1In.f, impl_inside.f]
theorem daysD_le (y m : Int) : daysD y m ≤ 31 := by
  unfold daysD
  split
  · split <;> omega
  · split <;> omega
theorem good_bds {y m d : Int} {c : Bool} (h : goodD y m d c = true) (hy : y ≠ 0) : 1 ≤ y ∧ y ≤ 2999 ∧ 0 ≤ m ∧ m ≤ 12 ∧ 0 ≤ d ∧ d ≤ 31 := by
  unfold goodD at h
  rw [if_neg (fun z => hy z.1)] at h
  by_cases c1 : 1 ≤ y ∧ y ≤ 2999 ∧ 0 ≤ m ∧ m ≤ 12
  · rw [if_neg (fun z => z c1)] at h
    refine ⟨c1.1, c1.2.1, c1.2.2.1, c1.2.2.2, ?_⟩
    by_cases c2 : m = 0
    · rw [if_pos c2] at h
      have := of_decide_eq_true h
      omega
    · rw [if_neg c2] at h
      cases c with
      | true => simp at h
      | false =>
        have h2 := of_decide_eq_true (by simpa using h : decide (0 ≤ d ∧ d ≤ daysD y m) = true)
        have := daysD_le y m
        omega
  · rw [if_pos c1] at h; cases h
end Go.Proofs.YtcnhdhfhofaocaaGreatDoor.G

namespace Go.Proofs.YtcnhdhfhofaocaaGreatDoor.G
open Go.RowKit Go.Proofs.YtcnhdhfhofaocaaGreatDoorW.PrintWords Go.Proofs.YtcnhdhfhofaocaaGreatDoorW.PrintLast Go.Proofs.YtcnhdhfhofaocaaGreatDoor.B Go.Proofs.YtcnhdhfhofaocaaGreatDoor.Opn
set_option linter.unusedVariables false
set_option linter.unusedSimpArgs false
def kindD (n : Int) : Bool := decide (1 ≤ n) && decide (n ≤ 4)
def volD (n : Int) : Bool := decide (0 ≤ n) && decide (n ≤ 9999)
def crossD (X K : ByteArray) : Bool := decide (X.size = 0) || (keyD X && (X.toList != K.toList))
theorem in_kind (n : Int) : (if n ≥ 1 then some (decide (n ≤ 4)) else some false) = some (kindD n) := by
  unfold kindD
  by_cases h : n ≥ 1
  · rw [if_pos h, decide_eq_true (show 1 ≤ n from h)]; rfl
  · rw [if_neg h, decide_eq_false (show ¬ 1 ≤ n from h)]; rfl
theorem in_vol (n : Int) : (if n ≥ 0 then some (decide (n ≤ 9999)) else some false) = some (volD n) := by
  unfold volD
  by_cases h : n ≥ 0
  · rw [if_pos h, decide_eq_true (show 0 ≤ n from h)]; rfl
  · rw [if_neg h, decide_eq_false (show ¬ 0 ≤ n from h)]; rfl
theorem spec_date (y m d : Int) (c : Bool) : Ev (fun k => spec_l3Good.f k y m d c) (goodD y m d c) := ⟨2, fun k hk => by
  obtain ⟨k', rfl⟩ : ∃ k', k = k' + 2 := ⟨k - 2, by omega⟩
  exact spec_good k' y m d c⟩
theorem impl_date (y m d : Int) (c : Bool) : Ev (fun k => impl_IsValidDate.f k y m d c) (goodD y m d c) := ⟨2, fun k hk => by
  obtain ⟨k', rfl⟩ : ∃ k', k = k' + 2 := ⟨k - 2, by omega⟩
  exact impl_good k' y m d c⟩
theorem spec_cross (X K : ByteArray) : Ev (fun k => if X.toList = ([] : List UInt8) then (some true) else ((spec_l4Key.f k X).bind fun t643 => (if t643 = true then (some (X.toList != K.toList)) else (some false)))) (crossD X K) := by
  unfold crossD
  by_cases h : X.size = 0
  · exact ev_pos ((nil_iff X).2 h) (ev_eq (Ev.now _) (by simp [h]))
  · refine ev_neg (fun e => h ((nil_iff X).1 e)) (Ev.bind (spec_key X) ?_)
    cases keyD X with
    | true => exact ev_pos rfl (ev_eq (Ev.now _) (by simp [h]))
    | false => exact ev_neg (by simp) (ev_eq (Ev.now _) (by simp [h]))
theorem impl_cross (X K : ByteArray) : Ev (fun k => if X.toList = ([] : List UInt8) then (some true) else ((impl_isKey.f k X).bind fun t643 => (if t643 = true then (some (X.toList != K.toList)) else (some false)))) (crossD X K) := by
  unfold crossD
  by_cases h : X.size = 0
  · exact ev_pos ((nil_iff X).2 h) (ev_eq (Ev.now _) (by simp [h]))
  · refine ev_neg (fun e => h ((nil_iff X).1 e)) (Ev.bind (impl_key X) ?_)
    cases keyD X with
    | true => exact ev_pos rfl (ev_eq (Ev.now _) (by simp [h]))
    | false => exact ev_neg (by simp) (ev_eq (Ev.now _) (by simp [h]))
def headE (K : ByteArray) (kd : Int) (A E : List S80) : Bool := keyD K && (kindD kd && (listD A && listD E))
def textsE (T C Pb Pg : ByteArray) : Bool := textD T && (textD C && (textD Pb && textD Pg))
def tailE (y m d : Int) (c : Bool) (v : Int) : Bool := goodD y m d c && volD v
def entD (K : ByteArray) (kd : Int) (A E : List S80) (T C Pb : ByteArray) (y m d : Int) (c : Bool) (v : Int) (Pg X : ByteArray) : Bool :=
  headE K kd A E && (textsE T C Pb Pg && (tailE y m d c v && crossD X K))
theorem ev_and {g : Nat → Option Bool} {f n : Nat → Option Bool} {b r : Bool} (h : Ev g b) (hn : Ev n false) (hf : b = true → Ev f r) : Ev (fun k => (g k).bind fun t => if t = true then f k else n k) (b && r) := by
  refine Ev.bind h ?_
  cases b with
  | true => exact ev_pos rfl (ev_eq (hf rfl) (by simp))
  | false => exact ev_neg (by simp) (ev_eq hn (by simp))
theorem ev_and0 {o : Option Bool} {f n : Nat → Option Bool} {b r : Bool} (h : o = some b) (hn : Ev n false) (hf : b = true → Ev f r) : Ev (fun k => o.bind fun t => if t = true then f k else n k) (b && r) := by
  subst h
  cases b with
  | true => exact ev_bind0 rfl (ev_pos rfl (ev_eq (hf rfl) (by simp)))
  | false => exact ev_bind0 rfl (ev_neg (by simp) (ev_eq hn (by simp)))
theorem ev_last {g f n : Nat → Option Bool} {J : Nat → Bool → Option Bool} {b r : Bool} (h : Ev g b) (hn : Ev (fun k => J k true) false) (hf : Ev (fun k => J k false) r) : Ev (fun k => (g k).bind fun t => J k (!t)) (b && r) := by
  refine Ev.bind h ?_
  cases b with
  | true => exact ev_eq hf (by simp)
  | false => exact ev_eq hn (by simp)
section
variable (K : ByteArray) (kd : Int) (A E : List S80) (T C Pb : ByteArray) (y m d : Int) (c : Bool) (v : Int) (Pg X : ByteArray)
theorem spec_ent (hA : ∀ x ∈ A, okS x) (lA : A.length ≤ 1048576) (hE : ∀ x ∈ E, okS x) (lE : E.length ≤ 1048576) : Ev (fun k => spec_l4Entry.f k K kd A E T C Pb y m d c v Pg X) (entD K kd A E T C Pb y m d c v Pg X) := by
  have n1 : Ev (fun k => spec_l4Entry.j1 k true K kd A E T C Pb y m d c v Pg X) false := Ev.step (f := fun _ => some false) (fun k => by simp [spec_l4Entry.j1]) (Ev.now _)
  have n0 : Ev (fun k => spec_l4Entry.j0 k true K kd A E T C Pb y m d c v Pg X) false := Ev.step (f := fun _ => some false) (fun k => by simp [spec_l4Entry.j0]) (Ev.now _)
  have p1 : Ev (fun k => spec_l4Entry.j1 k false K kd A E T C Pb y m d c v Pg X) (goodD y m d c && (volD v && crossD X K)) := by
    refine Ev.step (f := fun k => (spec_l3Good.f k y m d c).bind fun t641 => (if t641 = true then ((spec_l1In.f v 0 9999).bind fun t642 => (if t642 = true then (if X.toList = ([] : List UInt8) then (some true) else ((spec_l4Key.f k X).bind fun t643 => (if t643 = true then (some (X.toList != K.toList)) else (some false)))) else (some false))) else (some false))) (fun k => by simp [spec_l4Entry.j1]) ?_
    exact ev_and (spec_date y m d c) (Ev.now _) (fun _ => ev_and0 (by unfold spec_l1In.f; exact in_vol v) (Ev.now _) (fun _ => spec_cross X K))
  have p0 : Ev (fun k => spec_l4Entry.j0 k false K kd A E T C Pb y m d c v Pg X) (textD T && (textD C && (textD Pb && (textD Pg && (goodD y m d c && (volD v && crossD X K)))))) := by
    refine Ev.step (f := fun k => (spec_l4Text.f k T).bind fun t637 => (if t637 = true then ((spec_l4Text.f k C).bind fun t638 => (if t638 = true then ((spec_l4Text.f k Pb).bind fun t639 => (if t639 = true then ((spec_l4Text.f k Pg).bind fun t640 => (spec_l4Entry.j1 k (!t640) K kd A E T C Pb y m d c v Pg X)) else (spec_l4Entry.j1 k true K kd A E T C Pb y m d c v Pg X))) else (spec_l4Entry.j1 k true K kd A E T C Pb y m d c v Pg X))) else (spec_l4Entry.j1 k true K kd A E T C Pb y m d c v Pg X))) (fun k => by simp [spec_l4Entry.j0]) ?_
    exact ev_and (spec_text T) n1 (fun _ => ev_and (spec_text C) n1 (fun _ => ev_and (spec_text Pb) n1 (fun _ => ev_last (f := fun _ => none) (n := fun _ => none) (J := fun k b => spec_l4Entry.j1 k b K kd A E T C Pb y m d c v Pg X) (spec_text Pg) n1 p1)))
  unfold spec_l4Entry.f
  refine ev_eq (ev_and (spec_key K) n0 (fun _ => ev_and0 (by unfold spec_l1In.f; exact in_kind kd) n0 (fun _ => ev_and (spec_list A hA lA) n0 (fun _ => ev_last (f := fun _ => none) (n := fun _ => none) (J := fun k b => spec_l4Entry.j0 k b K kd A E T C Pb y m d c v Pg X) (spec_list E hE lE) n0 p0)))) ?_
  unfold entD headE textsE tailE
  simp only [Bool.and_assoc]
theorem impl_ent (hA : ∀ x ∈ A, okS x) (lA : A.length ≤ 1048576) (hE : ∀ x ∈ E, okS x) (lE : E.length ≤ 1048576) : Ev (fun k => impl_IsValidEntry.f k K kd A E T C Pb y m d c v Pg X) (entD K kd A E T C Pb y m d c v Pg X) := by
  have n0 : Ev (fun k => impl_IsValidEntry.j0 k true K kd A E T C Pb y m d c v Pg X) false := Ev.step (f := fun _ => some false) (fun k => by simp [impl_IsValidEntry.j0]) (Ev.now _)
  have p0 : Ev (fun k => impl_IsValidEntry.j0 k false K kd A E T C Pb y m d c v Pg X) (textD T && (textD C && (textD Pb && (textD Pg && crossD X K)))) := by
    refine Ev.step (f := fun k => (impl_isText.f k T).bind fun t685 => (if t685 = true then ((impl_isText.f k C).bind fun t686 => (if t686 = true then ((impl_isText.f k Pb).bind fun t687 => (if t687 = true then ((impl_isText.f k Pg).bind fun t688 => (if t688 = true then (if X.toList = ([] : List UInt8) then (some true) else ((impl_isKey.f k X).bind fun t689 => (if t689 = true then (some (X.toList != K.toList)) else (some false)))) else (some false))) else (some false))) else (some false))) else (some false))) (fun k => by simp [impl_IsValidEntry.j0]) ?_
    exact ev_and (impl_text T) (Ev.now _) (fun _ => ev_and (impl_text C) (Ev.now _) (fun _ => ev_and (impl_text Pb) (Ev.now _) (fun _ => ev_and (impl_text Pg) (Ev.now _) (fun _ => impl_cross X K))))
  have hk : impl_isKind.f kd = some (kindD kd) := by unfold impl_isKind.f impl_inside.f; rw [in_kind]; rfl
  have hv : impl_inside.f v 0 9999 = some (volD v) := by unfold impl_inside.f; exact in_vol v
  unfold impl_IsValidEntry.f
  refine ev_eq (ev_and (impl_key K) n0 (fun _ => ev_and0 hk n0 (fun _ => ev_and (impl_list A hA lA) n0 (fun _ => ev_and (impl_list E hE lE) n0 (fun _ => ev_and (impl_date y m d c) n0 (fun _ => ev_last (f := fun _ => none) (n := fun _ => none) (J := fun k b => impl_IsValidEntry.j0 k b K kd A E T C Pb y m d c v Pg X) (Ev.congr (fun _ => hv) (Ev.now _)) n0 p0)))))) ?_
  unfold entD headE textsE tailE
  simp only [Bool.and_assoc]
  cases keyD K <;> cases kindD kd <;> cases listD A <;> cases listD E <;> simp only [Bool.true_and, Bool.false_and]
  cases textD T <;> cases textD C <;> cases textD Pb <;> cases textD Pg <;> cases goodD y m d c <;> cases volD v <;> simp
end
def bulkE (K : ByteArray) (A E : List S74) (T C Pb Pg X : ByteArray) : Nat := K.size + (A.length + bulkL A) + (E.length + bulkL E) + T.size + C.size + Pb.size + Pg.size + X.size
theorem szE_ev (K : ByteArray) (kd : Int) (A E : List S74) (T C Pb : ByteArray) (y m d : Int) (c : Bool) (v : Int) (Pg X : ByteArray) (hA : ∀ x ∈ A, ok74 x) (lA : A.length ≤ 9223372036854775807) (hE : ∀ x ∈ E, ok74 x) (lE : E.length ≤ 9223372036854775807)
    (bK : K.size ≤ 9223372036854775807) (bT : T.size ≤ 9223372036854775807) (bC : C.size ≤ 9223372036854775807) (bP : Pb.size ≤ 9223372036854775807) (bG : Pg.size ≤ 9223372036854775807) (bX : X.size ≤ 9223372036854775807) (left : Int) (h0 : 0 ≤ left) (h1 : left ≤ 1048576) :
    Ev (fun k => laws_szEntry.f k K kd A E T C Pb y m d c v Pg X left) (lftOf left (bulkE K A E T C Pb Pg X)) := by
  have neg : ∀ n : Nat, ¬ (n : Int) ≤ left → lftOf left n = -1 := fun n h => by unfold lftOf; rw [if_neg h]
  unfold laws_szEntry.f
  have w0 : wrap64 (left - (K.size : Int)) = left - (K.size : Int) := w64 (by omega) (by omega)
  rw [w0]
  by_cases c0 : left - (K.size : Int) < 0
  · exact ev_pos c0 (ev_eq (Ev.now _) (neg _ (by unfold bulkE; omega)).symm)
  refine ev_neg c0 (Ev.bind (szL_ev A hA lA _ (by omega) (by omega)) ?_)
  by_cases c1 : ((A.length + bulkL A : Nat) : Int) ≤ left - (K.size : Int)
  · have e : lftOf (left - (K.size : Int)) (A.length + bulkL A) = left - (K.size : Int) - (A.length + bulkL A : Nat) := by unfold lftOf; rw [if_pos c1]
    rw [e]
    refine ev_neg (by omega) (Ev.bind (szL_ev E hE lE _ (by omega) (by omega)) ?_)
    by_cases c2 : ((E.length + bulkL E : Nat) : Int) ≤ left - (K.size : Int) - (A.length + bulkL A : Nat)
    · have e : lftOf (left - (K.size : Int) - (A.length + bulkL A : Nat)) (E.length + bulkL E) = left - (K.size : Int) - (A.length + bulkL A : Nat) - (E.length + bulkL E : Nat) := by unfold lftOf; rw [if_pos c2]
      rw [e]
      obtain ⟨l2, hl2⟩ : ∃ l2, l2 = left - (K.size : Int) - (A.length + bulkL A : Nat) - (E.length + bulkL E : Nat) := ⟨_, rfl⟩
      rw [← hl2]
      refine ev_neg (by omega) ?_
      have w1 : wrap64 (l2 - (T.size : Int)) = l2 - (T.size : Int) := w64 (by omega) (by omega)
      rw [w1]
      by_cases c3 : l2 - (T.size : Int) < 0
      · exact ev_pos c3 (ev_eq (Ev.now _) (neg _ (by unfold bulkE; omega)).symm)
      refine ev_neg c3 ?_
      have w2 : wrap64 (l2 - (T.size : Int) - (C.size : Int)) = l2 - (T.size : Int) - (C.size : Int) := w64 (by omega) (by omega)
      rw [w2]
      by_cases c4 : l2 - (T.size : Int) - (C.size : Int) < 0
      · exact ev_pos c4 (ev_eq (Ev.now _) (neg _ (by unfold bulkE; omega)).symm)
      refine ev_neg c4 ?_
      have w3 : wrap64 (l2 - (T.size : Int) - (C.size : Int) - (Pb.size : Int)) = l2 - (T.size : Int) - (C.size : Int) - (Pb.size : Int) := w64 (by omega) (by omega)
      rw [w3]
      by_cases c5 : l2 - (T.size : Int) - (C.size : Int) - (Pb.size : Int) < 0
      · exact ev_pos c5 (ev_eq (Ev.now _) (neg _ (by unfold bulkE; omega)).symm)
      refine ev_neg c5 ?_
      have w4 : wrap64 (l2 - (T.size : Int) - (C.size : Int) - (Pb.size : Int) - (Pg.size : Int)) = l2 - (T.size : Int) - (C.size : Int) - (Pb.size : Int) - (Pg.size : Int) := w64 (by omega) (by omega)
      rw [w4]
      by_cases c6 : l2 - (T.size : Int) - (C.size : Int) - (Pb.size : Int) - (Pg.size : Int) < 0
      · exact ev_pos c6 (ev_eq (Ev.now _) (neg _ (by unfold bulkE; omega)).symm)
      refine ev_neg c6 ?_
      have w5 : wrap64 (l2 - (T.size : Int) - (C.size : Int) - (Pb.size : Int) - (Pg.size : Int) - (X.size : Int)) = l2 - (T.size : Int) - (C.size : Int) - (Pb.size : Int) - (Pg.size : Int) - (X.size : Int) := w64 (by omega) (by omega)
      rw [w5]
      by_cases c7 : l2 - (T.size : Int) - (C.size : Int) - (Pb.size : Int) - (Pg.size : Int) - (X.size : Int) < 0
      · exact ev_pos c7 (ev_eq (Ev.now _) (neg _ (by unfold bulkE; omega)).symm)
      · exact ev_neg c7 (ev_eq (Ev.now _) (by unfold lftOf; rw [if_pos (by unfold bulkE; omega)]; unfold bulkE; omega))
    · have e : lftOf (left - (K.size : Int) - (A.length + bulkL A : Nat)) (E.length + bulkL E) = -1 := by unfold lftOf; rw [if_neg c2]
      rw [e]
      exact ev_pos (by omega) (ev_eq (Ev.now _) (neg _ (by unfold bulkE; omega)).symm)
  · have e : lftOf (left - (K.size : Int)) (A.length + bulkL A) = -1 := by unfold lftOf; rw [if_neg c1]
    rw [e]
    exact ev_pos (by omega) (ev_eq (Ev.now _) (neg _ (by unfold bulkE; omega)).symm)
theorem toE_ev (K : ByteArray) (kd : Int) (A E : List S74) (T C Pb : ByteArray) (y m d : Int) (c : Bool) (v : Int) (Pg X : ByteArray) (lA : A.length ≤ 1048576) (sA : ∀ x ∈ A, x.f0.length ≤ 1048576) (lE : E.length ≤ 1048576) (sE : ∀ x ∈ E, x.f0.length ≤ 1048576) :
    Ev (fun k => laws_toEntry.f k K kd A E T C Pb y m d c v Pg X) (K, kd, A.map conv, E.map conv, T, C, Pb, y, m, d, c, v, Pg, X) := by
  unfold laws_toEntry.f
  exact Ev.bind (toL_ev A lA sA) (Ev.bind (toL_ev E lE sE) (Ev.now _))
theorem eqE_same (K : ByteArray) (kd : Int) (A E : List S80) (T C Pb : ByteArray) (y m d : Int) (c : Bool) (v : Int) (Pg X : ByteArray) (hA : ∀ x ∈ A, okS x) (lA : A.length ≤ 1048576) (hE : ∀ x ∈ E, okS x) (lE : E.length ≤ 1048576) :
    Ev (fun k => laws_eqEntry.f k K kd A E T C Pb y m d c v Pg X K kd A E T C Pb y m d c v Pg X) true := by
  have hd : laws_eqDate.f y m d c y m d c = some true := by unfold laws_eqDate.f; simp
  unfold laws_eqEntry.f
  exact ev_pos rfl (ev_pos rfl (Ev.bind (eqL_same A hA lA) (ev_pos rfl (Ev.bind (eqL_same E hE lE) (ev_pos rfl (ev_pos rfl (ev_pos rfl (ev_pos rfl (ev_bind0 hd (ev_pos rfl (ev_pos rfl (ev_pos rfl (ev_pos rfl (Ev.now _))))))))))))))
end Go.Proofs.YtcnhdhfhofaocaaGreatDoor.G

namespace Go.Proofs.YtcnhdhfhofaocaaGreatDoor.G
open Go.RowKit Go.Proofs.YtcnhdhfhofaocaaGreatDoorW.PrintWords Go.Proofs.YtcnhdhfhofaocaaGreatDoorW.PrintLast Go.Proofs.YtcnhdhfhofaocaaGreatDoor.B
set_option linter.unusedVariables false
set_option linter.unusedSimpArgs false
theorem good_pos {G : List ByteArray} {P F S : ByteArray} (h : goodN G P F S = true) : G.length ≤ 3 ∧ ∀ x ∈ G, 1 ≤ x.size := by
  unfold goodN at h
  simp only [Bool.and_eq_true, decide_eq_true_eq] at h
  refine ⟨h.2.1, fun x hx => ?_⟩
  have := List.all_eq_true.1 h.1 x hx
  unfold greatD at this
  rw [Bool.and_eq_true] at this
  exact (word_in this.1).1
def spB : ByteArray := ⟨#[32]⟩
def glu (s p : ByteArray) : ByteArray := (if s.size ≠ 0 ∧ p.size ≠ 0 then s ++ spB else s) ++ p
def joinD (l : List ByteArray) : ByteArray := l.foldl glu ByteArray.empty
def sumB (l : List ByteArray) : Nat := (l.map fun x => x.size + 1).sum
theorem sumB_cons (a : ByteArray) (l : List ByteArray) : sumB (a :: l) = a.size + 1 + sumB l := by simp [sumB]
theorem glu_size (s p : ByteArray) : (glu s p).size ≤ s.size + (p.size + 1) := by
  unfold glu
  rw [size_append]
  split
  · rw [size_append]; show s.size + 1 + p.size ≤ _; omega
  · omega
theorem fold_size (l : List ByteArray) : ∀ s : ByteArray, (l.foldl glu s).size ≤ s.size + sumB l := by
  induction l with
  | nil => intro s; simp [sumB]
  | cons p l ih =>
    intro s
    have := ih (glu s p)
    have h2 := glu_size s p
    rw [List.foldl_cons, sumB_cons]; omega
theorem joinD_size (l : List ByteArray) : (joinD l).size ≤ sumB l := by
  have := fold_size l ByteArray.empty
  have e : ByteArray.empty.size = 0 := rfl
  unfold joinD; omega
theorem L_nil {s : ByteArray} (h : s.size = 0) : L s = [] := (size_pos_iff s).1 h
theorem L_glu (s p : ByteArray) : L (glu s p) = if s.size ≠ 0 ∧ p.size ≠ 0 then L s ++ 32 :: L p else L s ++ L p := by
  unfold glu
  rw [L_append]
  split
  · rw [L_append, List.append_assoc]; rfl
  · rfl
theorem fold_join (l : List ByteArray) : ∀ s : ByteArray, L (l.foldl glu s) = if s.size = 0 then Lib.join ((l.filter fun x => !decide (x.size = 0)).map (·.data.toList)) [32] else L s ++ Lib.joinTail [32] ((l.filter fun x => !decide (x.size = 0)).map (·.data.toList)) := by
  induction l with
  | nil =>
    intro s
    by_cases h : s.size = 0
    · rw [if_pos h]; simp [Lib.join_nil, L_nil h]
    · rw [if_neg h]; simp [Lib.joinTail]
  | cons p l ih =>
    intro s
    rw [List.foldl_cons, ih]
    by_cases hp : p.size = 0
    · have e : glu s p = s := L_inj (by rw [L_glu, if_neg (fun h => h.2 hp), L_nil hp, List.append_nil])
      rw [e, List.filter_cons_of_neg (by simp [hp])]
    · have hg : ¬ (glu s p).size = 0 := by rw [← L_len, L_glu]; split <;> simp [L_len, hp]
      rw [if_neg hg, List.filter_cons_of_pos (by simp [hp]), List.map_cons, L_glu]
      by_cases h : s.size = 0
      · rw [if_neg (fun x => x.1 h), if_pos h, L_nil h, List.nil_append, Lib.join_cons]
      · rw [if_pos (And.intro h hp), if_neg h]
        simp [Lib.joinTail]
theorem join_filter (l : List ByteArray) : Lib.join ((l.filter fun x => !decide (x.size = 0)).map (·.data.toList)) (⟨#[32]⟩ : ByteArray).data.toList = L (joinD l) := by
  have := fold_join l ByteArray.empty
  rw [if_pos (show ByteArray.empty.size = 0 from rfl)] at this
  exact this.symm
theorem filter_all {l : List ByteArray} (h : ∀ x ∈ l, 1 ≤ x.size) : (l.filter fun x => !decide (x.size = 0)) = l := by
  rw [List.filter_eq_self]
  intro x hx
  have := h x hx
  show (!decide (x.size = 0)) = true
  rw [decide_eq_false (by omega)]; rfl
theorem libJoin_filter (l : List ByteArray) (hl : l.length ≤ 1000) (hs : sumB l ≤ 140737488355328) : strings_Join.f (l.filter fun x => !decide (x.size = 0)) (⟨#[32]⟩ : ByteArray) = some (joinD l) := by
  have h1 : (l.filter fun x => !decide (x.size = 0)).length ≤ l.length := List.length_filter_le _ _
  have h2 := joinD_size l
  unfold strings_Join.f
  rw [join_filter, if_pos ⟨by omega, by rw [L_len]; omega⟩]
theorem libJoin_all (l : List ByteArray) (hp : ∀ x ∈ l, 1 ≤ x.size) (hl : l.length ≤ 1000) (hs : sumB l ≤ 140737488355328) : strings_Join.f l (⟨#[32]⟩ : ByteArray) = some (joinD l) := by
  have := libJoin_filter l hl hs
  rwa [filter_all hp] at this
theorem spaced_eq (l : List ByteArray) (h1 : 1 ≤ l.length) (hl : l.length ≤ 1000) (hs : sumB l ≤ 140737488355328) : impl_spaced.f l = some (joinD l) := by
  unfold impl_spaced.f
  rw [if_pos ⟨h1, hl⟩]
  exact libJoin_filter l hl hs
theorem spec_join_loop (l : List ByteArray) (hl : l.length ≤ 4611686018427387904) (hs : sumB l ≤ 140737488355328) (d : Nat) : ∀ (s : ByteArray) (i : Nat), i ≤ l.length → l.length - i = d → s.size + sumB (l.drop i) ≤ 140737488355328 →
    Ev (fun k => spec_l2Join.l0 k l s (i : Int)) ((l.drop i).foldl glu s) := by
  induction d with
  | zero =>
    intro s i h1 hd hb
    refine Ev.step (f := fun _ => some s) (fun k => ?_) (ev_eq (Ev.now _) ?_)
    · simp only [spec_l2Join.l0]; rw [if_neg (by omega)]
    · rw [List.drop_of_length_le (by omega)]; rfl
  | succ d ih =>
    intro s i h1 hd hb
    have hi : i < l.length := by omega
    have hw : wrap64 ((i : Int) + 1) = ((i + 1 : Nat) : Int) := by rw [w64 (by omega) (by omega)]; rfl
    rw [List.drop_eq_getElem_cons hi] at hb ⊢
    rw [sumB_cons] at hb
    have hg := glu_size s l[i]
    rw [List.foldl_cons]
    refine Ev.step (f := fun k => spec_l2Join.l0 k l (glu s l[i]) ((i + 1 : Nat) : Int)) (fun k => ?_) (ih (glu s l[i]) (i + 1) (by omega) (by omega) (by omega))
    simp only [spec_l2Join.l0, rd_get l i hi]
    have a1 : (i : Int) < (l.length : Int) := by omega
    have a2 : (0 : Int) ≤ (i : Int) := by omega
    have a3 : s.size + l[i].size ≤ 9223372036854775807 := by omega
    have a4 : s.size + 1 ≤ 9223372036854775807 := by omega
    have a5 : (s ++ (⟨#[32]⟩ : ByteArray)).size + l[i].size ≤ 9223372036854775807 := by
      rw [size_append]; show s.size + 1 + l[i].size ≤ _; omega
    simp only [if_pos a1, if_pos a2, if_pos a3, if_pos a4, if_pos a5, hw]
    unfold glu
    by_cases hs0 : s.size = 0
    · have b : s.toList = ([] : List UInt8) := (nil_iff s).2 hs0
      simp only [b, hs0, ne_eq, not_true_eq_false, false_and, if_true, if_false]
    · have b : ¬ s.toList = ([] : List UInt8) := fun e => hs0 ((nil_iff s).1 e)
      rw [if_neg b]
      by_cases hp : l[i].size = 0
      · have b2 : (l[i]).toList = ([] : List UInt8) := (nil_iff _).2 hp
        rw [if_pos b2, if_neg (fun x : s.size ≠ 0 ∧ l[i].size ≠ 0 => x.2 hp)]
      · have b2 : ¬ (l[i]).toList = ([] : List UInt8) := fun e => hp ((nil_iff _).1 e)
        rw [if_neg b2, if_pos (show s.size ≠ 0 ∧ l[i].size ≠ 0 from ⟨hs0, hp⟩)]
        rfl
theorem spec_join (l : List ByteArray) (hl : l.length ≤ 4611686018427387904) (hs : sumB l ≤ 140737488355328) : Ev (fun k => spec_l2Join.f k l) (joinD l) := by
  have := spec_join_loop l hl hs _ ByteArray.empty 0 (by omega) rfl (by rw [List.drop_zero]; show 0 + _ ≤ _; omega)
  unfold spec_l2Join.f
  rw [List.drop_zero] at this
  exact this
theorem sumB_bulk (l : List ByteArray) : sumB l = bulkS l := by
  induction l with
  | nil => rfl
  | cons a l ih => rw [sumB_cons, ih]; unfold bulkS; rw [bytesS_cons, List.length_cons]; omega
def cmB : ByteArray := ⟨#[44, 32]⟩
def tailI (t : ByteArray) (G : List ByteArray) (S : ByteArray) : ByteArray := if S.size = 0 then (t ++ cmB) ++ joinD G else (((t ++ cmB) ++ joinD G) ++ cmB) ++ S
def invD (G : List ByteArray) (P F S : ByteArray) : ByteArray := if G.length > 0 ∨ S.size ≠ 0 then tailI (joinD [P, F]) G S else joinD [P, F]
theorem inv_sum (G : List ByteArray) (P F S : ByteArray) (h : bulkN G P F S ≤ 1048576) : (joinD G).size ≤ 1048576 ∧ sumB [P, F] ≤ 1048580 ∧ (joinD [P, F]).size ≤ 1048580 ∧ S.size ≤ 1048576 ∧ G.length ≤ 1048576 ∧ sumB G ≤ 1048576 := by
  have h1 := joinD_size G
  have h2 := sumB_bulk G
  have h3 := joinD_size [P, F]
  have h4 : sumB [P, F] = P.size + 1 + (F.size + 1 + 0) := rfl
  unfold bulkN at h
  unfold bulkS at h h2
  omega
theorem cm_size (t : ByteArray) : (t ++ (⟨#[44, 32]⟩ : ByteArray)).size = t.size + 2 := by rw [size_append]; rfl
theorem cm_size' (t : ByteArray) : ((⟨#[44, 32]⟩ : ByteArray) ++ t).size = 2 + t.size := by rw [size_append]; rfl
theorem spec_inv_j (t : ByteArray) (G : List ByteArray) (P F S : ByteArray) (ht : t.size ≤ 1048580) (h : bulkN G P F S ≤ 1048576) : Ev (fun k => spec_l2Inverse.j0 k t true G P F S) (tailI t G S) := by
  obtain ⟨b1, b2, b3, b4, b5, b6⟩ := inv_sum G P F S h
  obtain ⟨K, hK⟩ := spec_join G (by omega) (by omega)
  have hK' : ∀ k, K ≤ k → spec_l2Given.f k G P F S = some (joinD G) := fun k hk => by unfold spec_l2Given.f; rw [show spec_l2Join.f k G = some (joinD G) from hK k hk]; rfl
  refine ⟨K + 1, fun k hk => ?_⟩
  obtain ⟨k', rfl⟩ : ∃ k', k = k' + 1 := ⟨k - 1, by omega⟩
  have a1 : t.size + 2 ≤ 9223372036854775807 := by omega
  have a2 : (t ++ (⟨#[44, 32]⟩ : ByteArray)).size + (joinD G).size ≤ 9223372036854775807 := by rw [cm_size]; omega
  have a3 : ((t ++ (⟨#[44, 32]⟩ : ByteArray)) ++ joinD G).size + 2 ≤ 9223372036854775807 := by rw [size_append, cm_size]; omega
  have a4 : (((t ++ (⟨#[44, 32]⟩ : ByteArray)) ++ joinD G) ++ (⟨#[44, 32]⟩ : ByteArray)).size + S.size ≤ 9223372036854775807 := by rw [cm_size, size_append, cm_size]; omega
  simp only [spec_l2Inverse.j0]
  rw [if_pos trivial, if_pos a1, hK' k' (by omega)]
  simp only [Option.bind_some]
  rw [if_pos a2]
  unfold tailI
  by_cases c : S.size = 0
  · rw [if_pos ((nil_iff S).2 c), if_pos c]; rfl
  · rw [if_neg (fun e => c ((nil_iff S).1 e)), if_pos a3, if_pos a4, if_neg c]; rfl
theorem spec_inv (G : List ByteArray) (P F S : ByteArray) (h : bulkN G P F S ≤ 1048576) : Ev (fun k => spec_l2Inverse.f k G P F S) (invD G P F S) := by
  obtain ⟨b1, b2, b3, b4, b5, b6⟩ := inv_sum G P F S h
  have hj := spec_inv_j (joinD [P, F]) G P F S b3 h
  unfold spec_l2Inverse.f invD
  refine Ev.bind (spec_join [P, F] (by simp) (by omega)) ?_
  by_cases c : G.length > 0
  · exact ev_pos (by omega) (ev_eq hj (if_pos (Or.inl c)).symm)
  · refine ev_neg (by omega) ?_
    by_cases d : S.size = 0
    · have e : (S.toList != ([] : List UInt8)) = false := by rw [(nil_iff S).2 d]; rfl
      rw [e]
      refine Ev.step (f := fun _ => some (joinD [P, F])) (fun k => ?_) (ev_eq (Ev.now _) (if_neg (fun x => x.elim c (fun y => y d))).symm)
      simp only [spec_l2Inverse.j0]
      rw [if_neg (by simp), if_pos ((nil_iff S).2 d)]
    · have e : (S.toList != ([] : List UInt8)) = true := bne_iff_ne.2 (fun x => d ((nil_iff S).1 x))
      rw [e]
      exact ev_eq hj (if_pos (Or.inr d)).symm
theorem app3 (a b c : ByteArray) : a ++ (b ++ c) = (a ++ b) ++ c := L_inj (by simp only [L_append, List.append_assoc])
theorem impl_inv_j (t : ByteArray) (G : List ByteArray) (P F S : ByteArray) (ht : t.size ≤ 1048580) (hg : goodN G P F S = true) (h : bulkN G P F S ≤ 1048576) : Ev (fun k => impl_inverseForm.j0 k t true G P F S) (tailI t G S) := by
  obtain ⟨b1, b2, b3, b4, b5, b6⟩ := inv_sum G P F S h
  obtain ⟨h3, h4⟩ := good_pos hg
  have hK := libJoin_all G h4 (by omega) (by omega)
  refine ⟨1, fun k hk => ?_⟩
  obtain ⟨k', rfl⟩ : ∃ k', k = k' + 1 := ⟨k - 1, by omega⟩
  have a1 : 2 + (joinD G).size ≤ 9223372036854775807 := by omega
  have a2 : t.size + ((⟨#[44, 32]⟩ : ByteArray) ++ joinD G).size ≤ 9223372036854775807 := by rw [cm_size']; omega
  have a3 : 2 + S.size ≤ 9223372036854775807 := by omega
  have a4 : (t ++ ((⟨#[44, 32]⟩ : ByteArray) ++ joinD G)).size + ((⟨#[44, 32]⟩ : ByteArray) ++ S).size ≤ 9223372036854775807 := by rw [cm_size', size_append, cm_size']; omega
  simp only [impl_inverseForm.j0]
  rw [if_pos trivial, hK]
  simp only [Option.bind_some]
  rw [if_pos a1, if_pos a2]
  unfold tailI
  by_cases c : S.size = 0
  · rw [if_pos ((nil_iff S).2 c), if_pos c, app3]; rfl
  · rw [if_neg (fun e => c ((nil_iff S).1 e)), if_pos a3, if_pos a4, if_neg c, app3, app3]; rfl
theorem impl_inv (G : List ByteArray) (P F S : ByteArray) (hg : goodN G P F S = true) (h : bulkN G P F S ≤ 1048576) : Ev (fun k => impl_inverseForm.f k G P F S) (invD G P F S) := by
  obtain ⟨b1, b2, b3, b4, b5, b6⟩ := inv_sum G P F S h
  have hj := impl_inv_j (joinD [P, F]) G P F S b3 hg h
  unfold impl_inverseForm.f invD
  refine ev_bind0 (spaced_eq [P, F] (by simp) (by simp) (by omega)) ?_
  by_cases c : G.length > 0
  · exact ev_pos (by omega) (ev_eq hj (if_pos (Or.inl c)).symm)
  · refine ev_neg (by omega) ?_
    by_cases d : S.size = 0
    · have e : (S.toList != ([] : List UInt8)) = false := by rw [(nil_iff S).2 d]; rfl
      rw [e]
      refine Ev.step (f := fun _ => some (joinD [P, F])) (fun k => ?_) (ev_eq (Ev.now _) (if_neg (fun x => x.elim c (fun y => y d))).symm)
      simp only [impl_inverseForm.j0]
      rw [if_neg (by simp), if_pos ((nil_iff S).2 d)]
    · have e : (S.toList != ([] : List UInt8)) = true := bne_iff_ne.2 (fun x => d ((nil_iff S).1 x))
      rw [e]
      exact ev_eq hj (if_pos (Or.inr d)).symm
def smB : ByteArray := ⟨#[59, 32]⟩
def ivS (x : S80) : ByteArray := invD x.f0 x.f1 x.f2 x.f3
theorem iv_len (G : List ByteArray) (P F S : ByteArray) (h : bulkN G P F S ≤ 1048576) : (invD G P F S).size ≤ 3200000 := by
  obtain ⟨h1, h2, h3, h4, h5, h6⟩ := inv_sum G P F S h
  have hc : cmB.size = 2 := rfl
  unfold invD tailI
  split
  · split
    · rw [size_append, size_append]; omega
    · rw [size_append, size_append, size_append, size_append]; omega
  · omega
theorem lens_le2 (B : Nat) (l : List (List UInt8)) (h : ∀ x ∈ l, x.length ≤ B) : Lib.lens l ≤ B * l.length := by
  induction l with
  | nil => exact Nat.le_refl _
  | cons a l ih =>
    have h1 := ih (fun x hx => h x (List.mem_cons_of_mem _ hx))
    have h2 := h a (List.mem_cons_self)
    simp only [Lib.lens, List.map_cons, List.sum_cons, List.length_cons] at h1 ⊢
    rw [Nat.mul_succ]; omega
theorem join_le2 (B : Nat) (sep : List UInt8) (l : List (List UInt8)) (h : ∀ x ∈ l, x.length ≤ B) : (Lib.join l sep).length ≤ (B + sep.length) * l.length := by
  cases l with
  | nil => simp [Lib.join_nil]
  | cons a l =>
    have h1 := lens_le2 B l (fun x hx => h x (List.mem_cons_of_mem _ hx))
    have h2 := h a (List.mem_cons_self)
    rw [Lib.join_cons, List.length_append, Lib.joinTail_length, List.length_cons, Nat.mul_succ, Nat.add_mul]
    omega
theorem tail_snoc (sep y : List UInt8) (l : List (List UInt8)) : Lib.joinTail sep (l ++ [y]) = Lib.joinTail sep l ++ (sep ++ y) := by
  induction l with
  | nil => simp [Lib.joinTail]
  | cons a l ih => simp [Lib.joinTail, ih]
theorem join_snoc (sep y : List UInt8) (l : List (List UInt8)) : Lib.join (l ++ [y]) sep = if l = [] then y else Lib.join l sep ++ (sep ++ y) := by
  cases l with
  | nil => simp [Lib.join_cons, Lib.joinTail]
  | cons a l => rw [if_neg (by simp), List.cons_append, Lib.join_cons, Lib.join_cons, tail_snoc, List.append_assoc]
def ntD (l : List S80) : ByteArray := mkB (Lib.join (l.map fun x => L (ivS x)) [59, 32])
structure NOk (l : List S80) : Prop where
  four : l.length ≤ 4
  good : ∀ x ∈ l, goodS x = true
  bulk : ∀ x ∈ l, bulkN x.f0 x.f1 x.f2 x.f3 ≤ 1048576
theorem nt_size {l : List S80} (h : NOk l) (i : Nat) : (ntD (l.take i)).size ≤ 13000000 := by
  unfold ntD
  rw [size_mk]
  have := join_le2 3200000 [59, 32] ((l.take i).map fun x => L (ivS x)) (fun x hx => by
    obtain ⟨y, hy, rfl⟩ := List.mem_map.1 hx
    rw [L_len]
    exact iv_len _ _ _ _ (h.bulk y (List.mem_of_mem_take hy)))
  have h4 := h.four
  have hl : ((l.take i).map fun x => L (ivS x)).length ≤ 4 := by rw [List.length_map, List.length_take]; omega
  exact Nat.le_trans this (Nat.le_trans (Nat.mul_le_mul_left _ hl) (by decide))
theorem nt_next (l : List S80) (i : Nat) (hi : i < l.length) : ntD (l.take (i + 1)) = if i = 0 then ntD (l.take i) ++ ivS l[i] else (ntD (l.take i) ++ smB) ++ ivS l[i] := by
  have e : (l.take (i + 1)).map (fun x => L (ivS x)) = (l.take i).map (fun x => L (ivS x)) ++ [L (ivS l[i])] := by
    rw [List.take_succ_eq_append_getElem hi, List.map_append]; rfl
  apply L_inj
  unfold ntD
  rw [L_mk, e, join_snoc]
  by_cases c : i = 0
  · subst c
    rw [if_pos (by simp), if_pos rfl, L_append, L_mk]
    simp [Lib.join_nil]
  · rw [if_neg (fun z => by have := congrArg List.length z; rw [List.length_map, List.length_take, List.length_nil] at this; omega), if_neg c, L_append, L_append, L_mk]
    have : L smB = [59, 32] := rfl
    rw [this, List.append_assoc]
theorem spec_nt_loop (l : List S80) (h : NOk l) (d : Nat) : ∀ i : Nat, i ≤ l.length → l.length - i = d → Ev (fun k => spec_l4Names.l0 k l (ntD (l.take i)) (i : Int)) (ntD l) := by
  have h4 := h.four
  induction d with
  | zero =>
    intro i h1 h2
    refine Ev.step (f := fun _ => some (ntD l)) (fun k => ?_) (Ev.now _)
    simp only [spec_l4Names.l0]
    rw [if_neg (by omega), List.take_of_length_le (by omega)]
  | succ d ih =>
    intro i h1 h2
    have hi : i < l.length := by omega
    have hm := List.getElem_mem hi
    have hw : wrap64 ((i : Int) + 1) = ((i + 1 : Nat) : Int) := by rw [w64 (by omega) (by omega)]; rfl
    have hz := nt_size h i
    have hv := iv_len _ _ _ _ (h.bulk _ hm)
    have hs := spec_inv _ _ _ _ (h.bulk _ hm)
    have hn := ih (i + 1) (by omega) (by omega)
    rw [nt_next l i hi] at hn
    have hb : (ntD (l.take i) ++ (⟨#[59, 32]⟩ : ByteArray)).size = (ntD (l.take i)).size + 2 := by rw [size_append]; rfl
    by_cases c : i = 0
    · subst c
      rw [if_pos rfl] at hn
      refine Ev.step (f := fun k => (spec_l2Inverse.f k (l[0]).f0 (l[0]).f1 (l[0]).f2 (l[0]).f3).bind fun t => if (ntD (l.take 0)).size + t.size ≤ 9223372036854775807 then spec_l4Names.l0 k l (ntD (l.take 0) ++ t) ((0 + 1 : Nat) : Int) else none) (fun k => ?_) (Ev.bind hs (ev_pos (by show _ + (ivS l[0]).size ≤ _; unfold ivS; omega) hn))
      simp only [spec_l4Names.l0, rd27 l 0 hi, hw]
      rw [if_pos (by omega), if_neg (by omega), if_pos (by omega)]
    · rw [if_neg c] at hn
      refine Ev.step (f := fun k => (spec_l2Inverse.f k (l[i]).f0 (l[i]).f1 (l[i]).f2 (l[i]).f3).bind fun t => if (ntD (l.take i) ++ (⟨#[59, 32]⟩ : ByteArray)).size + t.size ≤ 9223372036854775807 then spec_l4Names.l0 k l ((ntD (l.take i) ++ (⟨#[59, 32]⟩ : ByteArray)) ++ t) ((i + 1 : Nat) : Int) else none) (fun k => ?_) (Ev.bind hs (ev_pos (by show _ + (ivS l[i]).size ≤ _; rw [hb]; unfold ivS; omega) hn))
      simp only [spec_l4Names.l0, rd27 l i hi, hw]
      rw [if_pos (by omega), if_pos (by omega), if_pos (by omega), if_pos (by omega)]
theorem spec_nt (l : List S80) (h : NOk l) : Ev (fun k => spec_l4Names.f k l) (ntD l) := by
  unfold spec_l4Names.f
  have := spec_nt_loop l h _ 0 (by omega) rfl
  have e : ntD (l.take 0) = (⟨#[]⟩ : ByteArray) := rfl
  rw [e] at this
  exact this
theorem impl_nt_loop (l : List S80) (h : NOk l) (d : Nat) : ∀ i : Nat, i ≤ l.length → l.length - i = d → Ev (fun k => impl_namesText.l0 k ((l.take i).map ivS) l (l.length : Int) (i : Int)) (ntD l) := by
  have h4 := h.four
  induction d with
  | zero =>
    intro i h1 h2
    have hz := nt_size h l.length
    rw [List.take_length] at hz
    have hj : strings_Join.f ((l.take i).map ivS) (⟨#[59, 32]⟩ : ByteArray) = some (ntD l) := by
      rw [List.take_of_length_le (by omega)]
      unfold strings_Join.f
      have e : (l.map ivS).map (·.data.toList) = l.map fun x => L (ivS x) := by rw [List.map_map]; rfl
      rw [e]
      rw [if_pos ⟨by rw [List.length_map]; omega, by unfold ntD at hz; rw [size_mk] at hz; exact Nat.le_trans hz (by decide)⟩]
      rfl
    refine Ev.step (f := fun _ => some (ntD l)) (fun k => ?_) (Ev.now _)
    simp only [impl_namesText.l0]
    rw [if_neg (by omega), hj]
    rfl
  | succ d ih =>
    intro i h1 h2
    have hi : i < l.length := by omega
    have hm := List.getElem_mem hi
    have hw : wrap64 ((i : Int) + 1) = ((i + 1 : Nat) : Int) := by rw [w64 (by omega) (by omega)]; rfl
    have hs := impl_inv _ _ _ _ (h.good _ hm) (h.bulk _ hm)
    have hn := ih (i + 1) (by omega) (by omega)
    rw [List.take_succ_eq_append_getElem hi, List.map_append] at hn
    refine Ev.step (f := fun k => (impl_inverseForm.f k (l[i]).f0 (l[i]).f1 (l[i]).f2 (l[i]).f3).bind fun t => impl_namesText.l0 k ((l.take i).map ivS ++ [t]) l (l.length : Int) ((i + 1 : Nat) : Int)) (fun k => ?_) (Ev.bind hs hn)
    simp only [impl_namesText.l0, rd27 l i hi, hw]
    rw [if_pos (by omega), if_pos (by omega), if_pos (by omega)]
    have hq : ((l.take i).map ivS).length < 8796093022208 := by rw [List.length_map, List.length_take]; omega
    simp only [if_pos hq]
theorem impl_nt (l : List S80) (h : NOk l) : Ev (fun k => impl_namesText.f k l) (ntD l) := by
  unfold impl_namesText.f
  exact impl_nt_loop l h _ 0 (by omega) rfl
end Go.Proofs.YtcnhdhfhofaocaaGreatDoor.G

namespace Go.Proofs.YtcnhdhfhofaocaaGreatDoor.B
open Go.RowKit Go.Proofs.YtcnhdhfhofaocaaGreatDoorW.PrintWords Go.Proofs.YtcnhdhfhofaocaaGreatDoorW.PrintLast
set_option linter.unusedVariables false
set_option linter.unusedSimpArgs false
end Go.Proofs.YtcnhdhfhofaocaaGreatDoor.B

namespace Go.Proofs.YtcnhdhfhofaocaaGreatDoor.G
open Go.RowKit Go.Proofs.YtcnhdhfhofaocaaGreatDoorW.PrintWords Go.Proofs.YtcnhdhfhofaocaaGreatDoorW.PrintLast Go.Proofs.YtcnhdhfhofaocaaGreatDoor.B
set_option linter.unusedVariables false
set_option linter.unusedSimpArgs false
def tenB : ByteArray := (⟨#[48, 49, 50, 51, 52, 53, 54, 55, 56, 57]⟩ : ByteArray)
theorem ten_fin : ∀ i : Fin 10, ((L tenB).drop i.val).take 1 = [UInt8.ofNat (48 + i.val)] := by decide
theorem ten_at (i : Nat) (h : i < 10) (x : Int) (hx : x = i) (y : Int) (hy : y = (i + 1 : Nat)) : tenB.extract x.toNat y.toNat = mkB [UInt8.ofNat (48 + i)] := by
  apply L_inj
  have e1 : x.toNat = i := by omega
  have e2 : y.toNat = i + 1 := by omega
  rw [L_extract, L_mk, e1, e2, show i + 1 - i = 1 by omega]
  exact ten_fin ⟨i, h⟩
theorem dec_len (u : Nat) (h : u ≤ 9223372036854775807) : (Lib.decDigits u).length ≤ 21 := by
  have := Lib.itoa_length_le (u : Int) (by omega) (by omega)
  unfold Lib.itoa at this
  rw [if_neg (by omega)] at this
  simpa using this
theorem num_nat (n : Nat) : ∀ u : Nat, u ≤ n → u ≤ 4611686018427387904 → Ev (fun k => spec_l1Num.f k (u : Int)) (mkB (Lib.decDigits u)) := by
  induction n with
  | zero =>
    intro u hu _
    have : u = 0 := by omega
    subst this
    refine Ev.step (f := fun _ => some (mkB (Lib.decDigits 0))) (fun k => ?_) (Ev.now _)
    have hd : Lib.decDigits 0 = [UInt8.ofNat (48 + 0)] := Lib.decDigits_one (by omega)
    simp only [spec_l1Num.f]
    rw [hd, if_neg (by omega), if_pos (by omega), if_pos (by omega), w64 (by omega) (by omega), if_pos (by omega), if_pos (by omega)]
    exact congrArg some (ten_at 0 (by omega) _ (by omega) _ (by omega))
  | succ n ih =>
    intro u hu hb
    by_cases h : u < 10
    · refine Ev.step (f := fun _ => some (mkB (Lib.decDigits u))) (fun k => ?_) (Ev.now _)
      simp only [spec_l1Num.f]
      rw [Lib.decDigits_one h, if_neg (by omega), if_pos (by omega), if_pos (by omega), w64 (by omega) (by omega), if_pos (by omega), if_pos (by omega)]
      exact congrArg some (ten_at u h _ rfl _ (by omega))
    · have hdiv : Int.tdiv (u : Int) 10 = ((u / 10 : Nat) : Int) := rfl
      have hmod : Int.tmod (u : Int) 10 = ((u % 10 : Nat) : Int) := rfl
      have hm : u % 10 < 10 := Nat.mod_lt _ (by omega)
      have hq := ih (u / 10) (by omega) (by omega)
      have hl := dec_len (u / 10) (by omega)
      have hw1 : wrap64 (((u / 10 : Nat) : Int)) = ((u / 10 : Nat) : Int) := w64 (by omega) (by omega)
      have hw2 : wrap64 (((u % 10 : Nat) : Int) + 1) = ((u % 10 + 1 : Nat) : Int) := by rw [w64 (by omega) (by omega)]; rfl
      have ht := ten_at (u % 10) hm ((u % 10 : Nat) : Int) rfl ((u % 10 + 1 : Nat) : Int) rfl
      have hd : Lib.decDigits u = Lib.decDigits (u / 10) ++ [UInt8.ofNat (48 + u % 10)] := by rw [Lib.decDigits, dif_neg h]
      have a1 : (0 : Int) ≤ ((u % 10 : Nat) : Int) := by omega
      have a2 : ((u % 10 : Nat) : Int) ≤ ((u % 10 + 1 : Nat) : Int) := by omega
      have a3 : ((u % 10 + 1 : Nat) : Int) ≤ 10 := by omega
      refine Ev.step (f := fun k => (spec_l1Num.f k ((u / 10 : Nat) : Int)).bind fun t => if t.size + (tenB.extract ((u % 10 : Nat) : Int).toNat ((u % 10 + 1 : Nat) : Int).toNat).size ≤ 9223372036854775807 then some (t ++ tenB.extract ((u % 10 : Nat) : Int).toNat ((u % 10 + 1 : Nat) : Int).toNat) else none) (fun k => ?_) ?_
      · simp only [spec_l1Num.f]
        rw [if_neg (show ¬ (u : Int) < 0 by omega), if_neg (show ¬ (u : Int) < 10 by omega)]
        simp only [hdiv, hmod, hw1, hw2, if_pos a1, if_pos a2, if_pos a3]
        rfl
      · rw [ht]
        refine Ev.bind hq (ev_pos ?_ (ev_eq (Ev.now _) ?_))
        · rw [size_mk, size_mk, List.length_singleton]; omega
        · rw [hd, mk_append]
theorem num_ev (x : Int) (h0 : -4611686018427387904 ≤ x) (h1 : x ≤ 4611686018427387904) : Ev (fun k => spec_l1Num.f k x) (mkB (Lib.itoa x)) := by
  unfold Lib.itoa
  by_cases h : x < 0
  · rw [if_pos h]
    have hq := num_nat x.natAbs x.natAbs (Nat.le_refl _) (by omega)
    have hl := dec_len x.natAbs (by omega)
    have hw : wrap64 (-x) = ((x.natAbs : Nat) : Int) := by rw [w64 (by omega) (by omega)]; omega
    refine Ev.step (f := fun k => (spec_l1Num.f k ((x.natAbs : Nat) : Int)).bind fun t => if 1 + t.size ≤ 9223372036854775807 then some ((⟨#[45]⟩ : ByteArray) ++ t) else none) (fun k => ?_) ?_
    · simp only [spec_l1Num.f]; rw [if_pos h, hw]
    · refine Ev.bind hq (ev_pos (by rw [size_mk]; omega) (ev_eq (Ev.now _) ?_))
      rw [show (⟨#[45]⟩ : ByteArray) = mkB [45] from rfl, mk_append]; rfl
  · rw [if_neg h]
    have hq := num_nat x.toNat x.toNat (Nat.le_refl _) (by omega)
    rw [show ((x.toNat : Nat) : Int) = x by omega] at hq
    exact hq
end Go.Proofs.YtcnhdhfhofaocaaGreatDoor.G
