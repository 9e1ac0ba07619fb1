/- Texts of this session for the law FnExactChangedFields, put together by a program (merge.py): each ends with its namespace; conditions stand with each theorem. -/
import Derived.Test.YthfbogcpjfledaaGreatDoorKFnExactChangedFields2
import Derived.Test.YthfbogcpjfledaaGreatDoorKFnExactChangedFields4
import Derived.Test.YthfbogcpjfledaaGreatDoorKFnExactChangedFields3
namespace Go.Proofs.YthfbogcpjfledaaGreatDoor.G
open Go.RowKit Go.Proofs.YthfbogcpjfledaaGreatDoorW.PrintWords Go.Proofs.YthfbogcpjfledaaGreatDoorW.PrintLast Go.Proofs.YthfbogcpjfledaaGreatDoorW.PrintMore
open Go.Proofs.YthfbogcpjfledaaGreatDoor.Gl Go.Proofs.YthfbogcpjfledaaGreatDoor.Ext
attribute [local go_sem] max2_int min2_int max_two min_two max_three min_three max_four min_four   -- for this text's walks alone
set_option linter.unusedVariables false
set_option linter.unusedSimpArgs false
def impl_areNames_1.f (k : Nat) (aV : List ByteArray) (aa : ByteArray) (aC : ByteArray) (aA : ByteArray) : Option (Bool) := (impl_IsValidName.f k aV aa aC aA).bind fun pQ => (some (!pQ))
theorem impl_areNames_1.mono : ∀ a0 a1 a2 a3 k, LeO (impl_areNames_1.f k a0 a1 a2 a3) (impl_areNames_1.f (k + 1) a0 a1 a2 a3) := by
 intro a0 a1 a2 a3 k;unfold impl_areNames_1.f
 repeat' first
   | (with_reducible exact impl_IsValidName.mono _ _ _ _ _)
   | (with_reducible exact LeO.refl _)
   | (with_reducible exact LeO.none _)
   | (with_reducible refine LeO.ite ?_ ?_)
   | (with_reducible refine LeO.bind ?_ (fun _ => ?_))
   | exact impl_IsValidName.mono _ _ _ _ _
   | exact LeO.none _
   | refine LeO.ite ?_ ?_
   | refine LeO.bind ?_ (fun _ => ?_)
set_option maxHeartbeats 8000000 in
set_option maxRecDepth 100000 in
theorem impl_areNames_1.calls (k : Nat) (cC : Option Addr) (cD : Nat) (aV : List ByteArray) (aa : ByteArray) (aC : ByteArray) (aA : ByteArray) (r : Bool) (w : World) {gF1 gF2 gF3 : Bool} (hG : GL gF1 gF2 gF3 w) (dN : Kd.C Kd.string w cC aV.length aV) (dA : aV.length ≤ cD) (h : impl_areNames_1.f k aV aa aC aA = some r) :
  Calls Tryz.prog 53 #[.agg #[.slice cC aV.length cD, .string aa, .string aC, .string aA]] w fun e w' => e = .returned (.bool r) ∧ Below w.heap.size w w' := by
 have HG := am hG;clear hG;have hu62 := Tryz.underlying62;have el := am dN;have fP := am dA;clear dN dA;have HB := am (Below.refl w.heap.size w);have H : ((impl_IsValidName.f k aV aa aC aA).bind fun pQ => (some (!pQ))) = some r := h;clear h;replace H := ob H;obtain ⟨pQ, dP, H⟩ := H
 try dsimp only at H
 have A2 := am dP;clear dP;obtain rfl := ojz H;go_enter Tryz.func53, Tryz.ntmps53;go_wp2_with (first | ((with_reducible refine gate_dst (N := 1) rfl ?_); refine box_event ?hg (N := 1) ?hd (cs := #[.slice cC aV.length cD, .string aa, .string aC, .string aA]) (t := 62) ?hr ?_; (case hd => rfl); (case hg => rfl); (case hr => first | (go_simp; done) | (go_simp; rfl)); intro a0v hg w3 hbox hb; have MI := am (hbox); have amk := am (bsz hg au51); have RX := am (bsz hg au51); replace HB := am (below_step au51 hb); clear hb hbox hg; obtain ⟨fU, fV, fW, fX, fY, fZ, ga, ge⟩ := blkc4 MI.out) | ((with_reducible refine gate_callee (f := 54) rfl ?_); refine goesL_ (some 4) rfl rfl Tryz.func54 (by kernel_rfl) rfl #[.agg #[.slice cC aV.length cD, .string aa, .string aC, .string aA]] rfl au50 ?_; (with_reducible refine (impl_IsValidName.calls (hG := au12) k _ _ aV aa aC aA pQ _ ?ax ?ay A2.out).mono ?_); (case ax => repeat (first | exact (Kd.C_below el.out HB.out) | (with_reducible refine Kd.C_alloc ?_ _) | (with_reducible refine Kd.C_drewN ?_ _) | (with_reducible refine Kd.C_drew ?_))); (case ay => exact fP.out); rintro e w5 ⟨rfl, hb⟩; refine ⟨_, rfl, ?_⟩; replace MI := am (blk_below (g := a0v) (by (with_reducible repeat (first | refine blk_drewN ?_ _ | refine blk_drew ?_ | refine blk_alloc ?_ _)); exact MI.out) hb); replace HB := am (below_step (by repeat (first | (with_reducible first | exact HB.out | apply below_alloc | apply pw_below_drewN | apply below_drew1 | refine below_set ?_ RX.out) | exact HB.out)) hb); (try clear hb)));go_ret;exact ⟨by first | rfl | (simp [errW_none, errW_some] <;> rfl) | (simp [*, errW_none, errW_some] <;> rfl), by repeat (first | (with_reducible first | exact HB.out | apply below_alloc | apply pw_below_drewN | apply below_drew1 | refine below_set ?_ RX.out) | exact HB.out)⟩
def impl_Name_65_at_53.l0 : Nat → List (S62) → Int → Int → Option (Int)
 | 0, _, _, _ => none
 | k + 1, x0, x7, x8 => if x8 < x7 then (if 0 ≤ x8 then (if x8 < (x0.length : Int) then ((impl_areNames_1.f k ((rd_T62 x0 x8).f0) ((rd_T62 x0 x8).f1) ((rd_T62 x0 x8).f2) ((rd_T62 x0 x8).f3)).bind fun mu => (if mu = true then (some x8) else (impl_Name_65_at_53.l0 k x0 x7 (wrap64 (x8 + 1))))) else (none)) else (none)) else (some (-1))
def impl_Name_65_at_53.f (k : Nat) (l0 : List (S62))  : Option (Int) := impl_Name_65_at_53.l0 k l0 (l0.length : Int) 0
theorem impl_Name_65_at_53.mono_l : ∀ k, (∀ y0 y1 y2, LeO (impl_Name_65_at_53.l0 k y0 y1 y2) (impl_Name_65_at_53.l0 (k + 1) y0 y1 y2))
 | 0 => fun _ _ _ r h => by simp [impl_Name_65_at_53.l0] at h
 | k + 1 => by
  have ih0 := impl_Name_65_at_53.mono_l k
  ·
   intro y0 y1 y2;unfold impl_Name_65_at_53.l0
   repeat' first
   | (with_reducible exact ih0 _ _ _)
   | (with_reducible exact impl_areNames_1.mono _ _ _ _ _)
   | (with_reducible exact LeO.refl _)
   | (with_reducible exact LeO.none _)
   | (with_reducible refine LeO.ite ?_ ?_)
   | (with_reducible refine LeO.bind ?_ (fun _ => ?_))
   | exact ih0 _ _ _
   | exact impl_areNames_1.mono _ _ _ _ _
   | exact LeO.none _
   | refine LeO.ite ?_ ?_
   | refine LeO.bind ?_ (fun _ => ?_)
theorem impl_Name_65_at_53.mono : ∀ a0 k, LeO (impl_Name_65_at_53.f k a0) (impl_Name_65_at_53.f (k + 1) a0) := by
 intro a0 k;have ih0 := impl_Name_65_at_53.mono_l k;unfold impl_Name_65_at_53.f
 repeat' first
   | (with_reducible exact ih0 _ _ _)
   | (with_reducible exact impl_areNames_1.mono _ _ _ _ _)
   | (with_reducible exact LeO.refl _)
   | (with_reducible exact LeO.none _)
   | (with_reducible refine LeO.ite ?_ ?_)
   | (with_reducible refine LeO.bind ?_ (fun _ => ?_))
   | exact ih0 _ _ _
   | exact impl_areNames_1.mono _ _ _ _ _
   | exact LeO.none _
   | refine LeO.ite ?_ ?_
   | refine LeO.bind ?_ (fun _ => ?_)
set_option maxHeartbeats 8000000 in
set_option maxRecDepth 100000 in
theorem impl_Name_65_at_53.calls (k : Nat) (A0 : Option Addr) (c0 : Nat) (l0 : List (S62))  (r : Int) (w : World) {gF1 gF2 gF3 : Bool} (hG : GL gF1 gF2 gF3 w) (dn : Kd.C k62 w A0 l0.length l0) (d5 : l0.length ≤ c0) (h : impl_Name_65_at_53.f k l0 = some r) :
  Calls Tryz.prog 65 #[.slice A0 l0.length c0, .func (.func 53) #[] #[]] w fun e w' => e = .returned (.int .i64 r) ∧ Below w.heap.size w w' := by
 have HG := am hG;clear hG;have hu62 := Tryz.underlying62;have dM := am dn;have lr := am d5;clear dn d5;have HB := am (Below.refl w.heap.size w);have H : (impl_Name_65_at_53.l0 k l0 (l0.length : Int) 0) = some r := h;clear h;have H' := am H;clear H;go_enter Tryz.func65, Tryz.ntmps65;go_wp2
 go_loopg [8] k (fun kq v8 w' => ∃ (cI : Int), v8 = .int .i64 cI ∧ Aside0 (impl_Name_65_at_53.l0 kq l0 (l0.length : Int) cI = some r) ∧ Aside0 (kq ≤ k) ∧ Aside0 (Below w.heap.size w w'))
 case atStart => exact ⟨(0), au107, H', ⟨Nat.le_refl _⟩, ⟨by repeat (first | (with_reducible first | exact HB.out | apply below_alloc | apply pw_below_drewN | apply below_drew1) | exact HB.out)⟩⟩
 case round =>
  clear H'
  try clear p2
  obtain ⟨cI, rfl, HA, HK1, HB⟩ := hrel
  cases gk with
  | zero => exact absurd HA.out (by simp [impl_Name_65_at_53.l0])
  | succ k1 =>
   have H := HA.out;clear HA;simp only [impl_Name_65_at_53.l0] at H;by_cases c3 : cI < (l0.length : Int)
   ·
    rw [if_pos c3] at H;have c3b0 := dt c3;clear c3;by_cases c4 : 0 ≤ cI
    ·
     rw [if_pos c4] at H;have c4b0 := dt c4;clear c4;by_cases c5 : cI < (l0.length : Int)
     ·
      rw [if_pos c5] at H;have c5b0 := dt c5;clear c5;replace H := ob H;obtain ⟨mu, fF, H⟩ := H
      try dsimp only at H
      have A6 := am fF;clear fF;by_cases c7 : mu = true
      ·
       subst c7;replace H := (if_pos rfl).symm.trans H;obtain rfl := ojz H;have jE : 0 ≤ (cI : Int) := od au106;have jF : cI < (l0.length : Int) := od au106;obtain ⟨MG, Hf, Hg, yY, my, t8, ta, tb, tc, td⟩ := at_T62 dM.out cI jE jF
       cases yY
       replace my := bcl HB.out my;replace t8 := bcl HB.out t8;replace ta := bcl HB.out ta;replace tb := bcl HB.out tb;have CX := am td;have CY := am tc;clear td tc;replace jE := eq_true jE;replace jF := eq_true jF;go_wp2_with (first | ((with_reducible refine gate_tmp (t := 11) rfl ?_); refine goesLt_ (t := 11) (show _ = Value.func (.func 53) #[] #[] from rfl) (some 16) rfl rfl Tryz.func53 (by kernel_rfl) rfl #[.agg #[.slice Hf ((rd_T62 l0 cI).f0).length Hg, .string ((rd_T62 l0 cI).f1), .string ((rd_T62 l0 cI).f2), .string ((rd_T62 l0 cI).f3)]] rfl au50 ?_; (with_reducible refine (impl_areNames_1.calls (hG := au12) k1 _ _ ((rd_T62 l0 cI).f0) ((rd_T62 l0 cI).f1) ((rd_T62 l0 cI).f2) ((rd_T62 l0 cI).f3) true _ ?ax ?ay A6.out).mono ?_); (case ax => repeat (first | exact (Kd.C_below CX.out HB.out) | (with_reducible refine Kd.C_alloc ?_ _) | (with_reducible refine Kd.C_drewN ?_ _) | (with_reducible refine Kd.C_drew ?_))); (case ay => exact CY.out); rintro e w8 ⟨rfl, hb⟩; refine ⟨_, rfl, ?_⟩; replace HB := am (below_step au51 hb); (try clear hb)));go_ret;exact ax1
      ·
       replace c7 := Bool.eq_false_iff.mpr c7;subst c7;replace H := (if_neg (show ¬ (false = true) by decide)).symm.trans H;have H' := am H;clear H;have jE : 0 ≤ (cI : Int) := od au106;have jF : cI < (l0.length : Int) := od au106;obtain ⟨MG, Hf, Hg, yY, my, t8, ta, tb, tc, td⟩ := at_T62 dM.out cI jE jF
       cases yY
       replace my := bcl HB.out my;replace t8 := bcl HB.out t8;replace ta := bcl HB.out ta;replace tb := bcl HB.out tb;have CX := am td;have CY := am tc;clear td tc;replace jE := eq_true jE;replace jF := eq_true jF;go_wp2_with (first | ((with_reducible refine gate_tmp (t := 11) rfl ?_); refine goesLt_ (t := 11) (show _ = Value.func (.func 53) #[] #[] from rfl) (some 16) rfl rfl Tryz.func53 (by kernel_rfl) rfl #[.agg #[.slice Hf ((rd_T62 l0 cI).f0).length Hg, .string ((rd_T62 l0 cI).f1), .string ((rd_T62 l0 cI).f2), .string ((rd_T62 l0 cI).f3)]] rfl au50 ?_; (with_reducible refine (impl_areNames_1.calls (hG := au12) k1 _ _ ((rd_T62 l0 cI).f0) ((rd_T62 l0 cI).f1) ((rd_T62 l0 cI).f2) ((rd_T62 l0 cI).f3) false _ ?ax ?ay A6.out).mono ?_); (case ax => repeat (first | exact (Kd.C_below CX.out HB.out) | (with_reducible refine Kd.C_alloc ?_ _) | (with_reducible refine Kd.C_drewN ?_ _) | (with_reducible refine Kd.C_drew ?_))); (case ay => exact CY.out); rintro e w9 ⟨rfl, hb⟩; refine ⟨_, rfl, ?_⟩; replace HB := am (below_step au51 hb); (try clear hb)))
       go_roundg k1
       case measure => have := HK1.out; omega
       case rel => exact ⟨(wrap64 (cI + 1)), au107, H', ⟨by have := HK1.out; omega⟩, ⟨by repeat (first | (with_reducible first | exact HB.out | apply below_alloc | apply pw_below_drewN | apply below_drew1) | exact HB.out)⟩⟩
     · rw [if_neg c5] at H;exact absurd H (by simp)
    · rw [if_neg c4] at H;exact absurd H (by simp)
   · rw [if_neg c3] at H;have c3b0 := df c3;clear c3;obtain rfl := ojz H;go_wp2;go_ret;exact ax1
def impl_Name_52_at_53.f (k : Nat) (l0 : List (S62))  : Option (Bool) := (impl_Name_65_at_53.f k l0).bind fun ir => (some (decide (ir ≥ 0)))
theorem impl_Name_52_at_53.mono : ∀ a0 k, LeO (impl_Name_52_at_53.f k a0) (impl_Name_52_at_53.f (k + 1) a0) := by
 intro a0 k;unfold impl_Name_52_at_53.f
 repeat' first
   | (with_reducible exact impl_Name_65_at_53.mono _ _)
   | (with_reducible exact LeO.refl _)
   | (with_reducible exact LeO.none _)
   | (with_reducible refine LeO.ite ?_ ?_)
   | (with_reducible refine LeO.bind ?_ (fun _ => ?_))
   | exact impl_Name_65_at_53.mono _ _
   | exact LeO.none _
   | refine LeO.ite ?_ ?_
   | refine LeO.bind ?_ (fun _ => ?_)
set_option maxHeartbeats 8000000 in
set_option maxRecDepth 100000 in
theorem impl_Name_52_at_53.calls (k : Nat) (A0 : Option Addr) (c0 : Nat) (l0 : List (S62))  (r : Bool) (w : World) {gF1 gF2 gF3 : Bool} (hG : GL gF1 gF2 gF3 w) (dn : Kd.C k62 w A0 l0.length l0) (d5 : l0.length ≤ c0) (h : impl_Name_52_at_53.f k l0 = some r) :
  Calls Tryz.prog 52 #[.slice A0 l0.length c0, .func (.func 53) #[] #[]] w fun e w' => e = .returned (.bool r) ∧ Below w.heap.size w w' := by
 have HG := am hG;clear hG;have dM := am dn;have lr := am d5;clear dn d5;have HB := am (Below.refl w.heap.size w);have H : ((impl_Name_65_at_53.f k l0).bind fun ir => (some (decide (ir ≥ 0)))) = some r := h;clear h;replace H := ob H;obtain ⟨ir, d6, H⟩ := H
 try dsimp only at H
 have A3 := am d6;clear d6;obtain rfl := ojz H;go_enter Tryz.func52, Tryz.ntmps52;go_wp2_with (first | ((with_reducible refine gate_callee (f := 65) rfl ?_); refine goesL_ (some 7) rfl rfl Tryz.func65 (by kernel_rfl) rfl #[.slice A0 l0.length c0, .func (.func 53) #[] #[]] rfl au50 ?_; (with_reducible refine (impl_Name_65_at_53.calls (hG := au12) k _ _ l0  ir _ ?ax ?ay A3.out).mono ?_); (case ax => repeat (first | exact dM.out | (with_reducible refine Kd.C_alloc ?_ _) | (with_reducible refine Kd.C_drewN ?_ _) | (with_reducible refine Kd.C_drew ?_))); (case ay => exact lr.out); rintro e w4 ⟨rfl, hb⟩; refine ⟨_, rfl, ?_⟩; replace HB := am (below_step au51 hb); (try clear hb)));go_ret;exact ax1
def impl_areNames.f (k : Nat) (l0 : List (S62)) : Option (Bool) := if (l0.length : Int) ≤ 4 then ((impl_Name_52_at_53.f k l0).bind fun mw => (some (!mw))) else (some false)
theorem impl_areNames.mono : ∀ a0 k, LeO (impl_areNames.f k a0) (impl_areNames.f (k + 1) a0) := by
 intro a0 k;unfold impl_areNames.f
 repeat' first
   | (with_reducible exact impl_Name_52_at_53.mono _ _)
   | (with_reducible exact LeO.refl _)
   | (with_reducible exact LeO.none _)
   | (with_reducible refine LeO.ite ?_ ?_)
   | (with_reducible refine LeO.bind ?_ (fun _ => ?_))
   | exact impl_Name_52_at_53.mono _ _
   | exact LeO.none _
   | refine LeO.ite ?_ ?_
   | refine LeO.bind ?_ (fun _ => ?_)
set_option maxHeartbeats 8000000 in
set_option maxRecDepth 100000 in
theorem impl_areNames.calls (k : Nat) (A0 : Option Addr) (c0 : Nat) (l0 : List (S62)) (r : Bool) (w : World) {gF1 gF2 gF3 : Bool} (hG : GL gF1 gF2 gF3 w) (dn : Kd.C k62 w A0 l0.length l0) (d5 : l0.length ≤ c0) (h : impl_areNames.f k l0 = some r) :
  Calls Tryz.prog 37 #[.slice A0 l0.length c0] w fun e w' => e = .returned (.bool r) ∧ Below w.heap.size w w' := by
 have HG := am hG;clear hG;have dM := am dn;have lr := am d5;clear dn d5;have HB := am (Below.refl w.heap.size w);have H : (if (l0.length : Int) ≤ 4 then ((impl_Name_52_at_53.f k l0).bind fun mw => (some (!mw))) else (some false)) = some r := h;clear h;by_cases c2 : (l0.length : Int) ≤ 4
 ·
  rw [if_pos c2] at H;have c2b0 := dt c2;have c2b1 : decide (l0.length ≤ 4) = true := dt (by omega);clear c2;replace H := ob H;obtain ⟨mw, d6, H⟩ := H
  try dsimp only at H
  have A3 := am d6;clear d6;obtain rfl := ojz H;go_enter Tryz.func37, Tryz.ntmps37;go_wp2_with (first | (go_at_call 52; (with_reducible refine (impl_Name_52_at_53.calls (hG := au12) k _ _ l0  mw _ ?ax ?ay A3.out).mono ?_); (case ax => repeat (first | exact dM.out | (with_reducible refine Kd.C_alloc ?_ _) | (with_reducible refine Kd.C_drewN ?_ _) | (with_reducible refine Kd.C_drew ?_))); (case ay => exact lr.out); rintro e w4 ⟨rfl, hb⟩; replace HB := am (below_step au51 hb); (try clear hb)));go_ret;exact ax1
 · rw [if_neg c2] at H;have c2b0 := df c2;have c2b1 : decide (l0.length ≤ 4) = false := df (by omega);clear c2;obtain rfl := ojz H;go_enter Tryz.func37, Tryz.ntmps37;go_wp2;go_ret;exact ax1
def impl_daysInMonth.f (a0 : Int) (a1 : Int) : Option (Int) := if a1 = 2 then (if (Int.tmod a0 4) = 0 then (if (Int.tmod a0 100) = 0 then (if (Int.tmod a0 400) = 0 then (some 29) else (some 28)) else (some 29)) else (some 28)) else (if a1 = 4 then (some 30) else (if a1 = 6 then (some 30) else (if a1 = 9 then (some 30) else (if a1 = 11 then (some 30) else (some 31)))))
set_option maxHeartbeats 8000000 in
set_option maxRecDepth 100000 in
theorem impl_daysInMonth.calls (a0 : Int) (a1 : Int) (r : Int) (w : World) (h : impl_daysInMonth.f a0 a1 = some r) :
  Calls Tryz.prog 55 #[.int .i64 a0, .int .i64 a1] w fun e w' => e = .returned (.int .i64 r) ∧ Drawn0 w w' := by
 have H : (if a1 = 2 then (if (Int.tmod a0 4) = 0 then (if (Int.tmod a0 100) = 0 then (if (Int.tmod a0 400) = 0 then (some 29) else (some 28)) else (some 29)) else (some 28)) else (if a1 = 4 then (some 30) else (if a1 = 6 then (some 30) else (if a1 = 9 then (some 30) else (if a1 = 11 then (some 30) else (some 31)))))) = some r := h;clear h;by_cases c3 : a1 = 2
 ·
  rw [if_pos c3] at H;have c3b0 := qt c3;have c3b1 := bf c3;clear c3;by_cases c4 : (Int.tmod a0 4) = 0
  ·
   rw [if_pos c4] at H;have c4b0 := qt c4;have c4b1 := bf c4;clear c4;by_cases c5 : (Int.tmod a0 100) = 0
   ·
    rw [if_pos c5] at H;have c5b0 := qt c5;have c5b1 := bf c5;clear c5;by_cases c6 : (Int.tmod a0 400) = 0
    · rw [if_pos c6] at H;have c6b0 := qt c6;have c6b1 := bf c6;clear c6;obtain rfl := ojz H;go_enter Tryz.func55, Tryz.ntmps55;go_wp2;go_ret;exact ax0
    · rw [if_neg c6] at H;have c6b0 := qf c6;have c6b1 := bu c6;obtain rfl := ojz H;go_enter Tryz.func55, Tryz.ntmps55;go_wp2;go_ret;exact ax0
   · rw [if_neg c5] at H;have c5b0 := qf c5;have c5b1 := bu c5;obtain rfl := ojz H;go_enter Tryz.func55, Tryz.ntmps55;go_wp2;go_ret;exact ax0
  · rw [if_neg c4] at H;have c4b0 := qf c4;have c4b1 := bu c4;obtain rfl := ojz H;go_enter Tryz.func55, Tryz.ntmps55;go_wp2;go_ret;exact ax0
 ·
  rw [if_neg c3] at H;have c3b0 := qf c3;have c3b1 := bu c3;by_cases c7 : a1 = 4
  · rw [if_pos c7] at H;have c7b0 := qt c7;have c7b1 := bf c7;clear c7;obtain rfl := ojz H;go_enter Tryz.func55, Tryz.ntmps55;go_wp2;go_ret;exact ax0
  ·
   rw [if_neg c7] at H;have c7b0 := qf c7;have c7b1 := bu c7;by_cases c8 : a1 = 6
   · rw [if_pos c8] at H;have c8b0 := qt c8;have c8b1 := bf c8;clear c8;obtain rfl := ojz H;go_enter Tryz.func55, Tryz.ntmps55;go_wp2;go_ret;exact ax0
   ·
    rw [if_neg c8] at H;have c8b0 := qf c8;have c8b1 := bu c8;by_cases c9 : a1 = 9
    · rw [if_pos c9] at H;have c9b0 := qt c9;have c9b1 := bf c9;clear c9;obtain rfl := ojz H;go_enter Tryz.func55, Tryz.ntmps55;go_wp2;go_ret;exact ax0
    ·
     rw [if_neg c9] at H;have c9b0 := qf c9;have c9b1 := bu c9;by_cases c10 : a1 = 11
     · rw [if_pos c10] at H;have c10b0 := qt c10;have c10b1 := bf c10;clear c10;obtain rfl := ojz H;go_enter Tryz.func55, Tryz.ntmps55;go_wp2;go_ret;exact ax0
     · rw [if_neg c10] at H;have c10b0 := qf c10;have c10b1 := bu c10;obtain rfl := ojz H;go_enter Tryz.func55, Tryz.ntmps55;go_wp2;go_ret;exact ax0
end Go.Proofs.YthfbogcpjfledaaGreatDoor.G

namespace Go.Proofs.YthfbogcpjfledaaGreatDoor.G
open Go.RowKit Go.Proofs.YthfbogcpjfledaaGreatDoorW.PrintWords Go.Proofs.YthfbogcpjfledaaGreatDoorW.PrintLast Go.Proofs.YthfbogcpjfledaaGreatDoorW.PrintMore
open Go.Proofs.YthfbogcpjfledaaGreatDoor.Gl Go.Proofs.YthfbogcpjfledaaGreatDoor.Ext
attribute [local go_sem] max2_int min2_int max_two min_two max_three min_three max_four min_four   -- for this text's walks alone
set_option linter.unusedVariables false
set_option linter.unusedSimpArgs false
attribute [local go_sem high] eqA32
def impl_IsValidDate.j0 : Nat → Bool → Int → Int → Int → Bool → Option (Bool)
 | 0, _, _, _, _, _ => none
 | k + 1, X2, UR, KR, KS, aeC => if X2 = true then (some false) else (if KR = 0 then (some (KS == 0)) else ((impl_daysInMonth.f UR KR).bind fun eX => ((impl_inside.f KS 0 eX).bind fun jD => (some jD))))
def impl_IsValidDate.f (k : Nat) (ab : Int) (aa : Int) (aC : Int) (aA : Bool) : Option (Bool) := if (ab == 0 && (aa == 0 && (aC == 0 && (!aA)))) = true then (some true) else ((impl_inside.f ab 1 2999).bind fun jk => (if jk = true then ((impl_inside.f aa 0 12).bind fun pP => (if pP = true then (if aA = true then (impl_IsValidDate.j0 k (aa != 0) ab aa aC aA) else (impl_IsValidDate.j0 k false ab aa aC aA)) else (impl_IsValidDate.j0 k true ab aa aC aA))) else (impl_IsValidDate.j0 k true ab aa aC aA)))
theorem impl_IsValidDate.mono_l : ∀ k, (∀ y0 y1 y2 y3 y4, LeO (impl_IsValidDate.j0 k y0 y1 y2 y3 y4) (impl_IsValidDate.j0 (k + 1) y0 y1 y2 y3 y4))
 | 0 => fun _ _ _ _ _ r h => by simp [impl_IsValidDate.j0] at h
 | k + 1 => by
  have ih0 := impl_IsValidDate.mono_l k
  ·
   intro y0 y1 y2 y3 y4;unfold impl_IsValidDate.j0
   repeat' first
   | (with_reducible exact ih0 _ _ _ _ _)
   | (with_reducible exact LeO.refl _)
   | (with_reducible exact LeO.none _)
   | (with_reducible refine LeO.ite ?_ ?_)
   | (with_reducible refine LeO.bind ?_ (fun _ => ?_))
   | exact ih0 _ _ _ _ _
   | exact LeO.none _
   | refine LeO.ite ?_ ?_
   | refine LeO.bind ?_ (fun _ => ?_)
theorem impl_IsValidDate.mono : ∀ a0 a1 a2 a3 k, LeO (impl_IsValidDate.f k a0 a1 a2 a3) (impl_IsValidDate.f (k + 1) a0 a1 a2 a3) := by
 intro a0 a1 a2 a3 k;have ih0 := impl_IsValidDate.mono_l k;unfold impl_IsValidDate.f
 repeat' first
   | (with_reducible exact ih0 _ _ _ _ _)
   | (with_reducible exact LeO.refl _)
   | (with_reducible exact LeO.none _)
   | (with_reducible refine LeO.ite ?_ ?_)
   | (with_reducible refine LeO.bind ?_ (fun _ => ?_))
   | exact ih0 _ _ _ _ _
   | exact LeO.none _
   | refine LeO.ite ?_ ?_
   | refine LeO.bind ?_ (fun _ => ?_)
set_option maxRecDepth 100000 in
theorem impl_IsValidDate.L0 {P : Prop} (h : P := by
  go_wp2_with (first | (go_at_call 39; (with_reducible refine (impl_inside.calls ab 1 2999 _ _ A8.out).mono ?_); rintro e w' ⟨rfl, ⟨nd, rfl⟩⟩; (try first | exact ⟨rfl, _, World.drewN_drewN _ _ _⟩ | exact ⟨rfl, _, Eq.trans (World.drewN_drewN _ _ _) (congrArg (World.drewN _) (Nat.add_assoc _ _ _))⟩)) | (go_at_call 39; (with_reducible refine (impl_inside.calls aa 0 12 _ _ gB.out).mono ?_); rintro e w' ⟨rfl, ⟨nd, rfl⟩⟩; (try first | exact ⟨rfl, _, World.drewN_drewN _ _ _⟩ | exact ⟨rfl, _, Eq.trans (World.drewN_drewN _ _ _) (congrArg (World.drewN _) (Nat.add_assoc _ _ _))⟩)))
  repeat (go_quiet (first | (go_at_call 39; (with_reducible refine (impl_inside.calls ab 1 2999 _ _ A8.out).mono ?_); rintro e w' ⟨rfl, ⟨nd, rfl⟩⟩; (try first | exact ⟨rfl, _, World.drewN_drewN _ _ _⟩ | exact ⟨rfl, _, Eq.trans (World.drewN_drewN _ _ _) (congrArg (World.drewN _) (Nat.add_assoc _ _ _))⟩)) | (go_at_call 39; (with_reducible refine (impl_inside.calls aa 0 12 _ _ gB.out).mono ?_); rintro e w' ⟨rfl, ⟨nd, rfl⟩⟩; (try first | exact ⟨rfl, _, World.drewN_drewN _ _ _⟩ | exact ⟨rfl, _, Eq.trans (World.drewN_drewN _ _ _) (congrArg (World.drewN _) (Nat.add_assoc _ _ _))⟩))); try go_wp2_with (first | (go_at_call 39; (with_reducible refine (impl_inside.calls ab 1 2999 _ _ A8.out).mono ?_); rintro e w' ⟨rfl, ⟨nd, rfl⟩⟩; (try first | exact ⟨rfl, _, World.drewN_drewN _ _ _⟩ | exact ⟨rfl, _, Eq.trans (World.drewN_drewN _ _ _) (congrArg (World.drewN _) (Nat.add_assoc _ _ _))⟩)) | (go_at_call 39; (with_reducible refine (impl_inside.calls aa 0 12 _ _ gB.out).mono ?_); rintro e w' ⟨rfl, ⟨nd, rfl⟩⟩; (try first | exact ⟨rfl, _, World.drewN_drewN _ _ _⟩ | exact ⟨rfl, _, Eq.trans (World.drewN_drewN _ _ _) (congrArg (World.drewN _) (Nat.add_assoc _ _ _))⟩))))
  go_meet
  case rel => first | (exact ⟨_, ((aa != 0)), au107, H', ⟨by first | omega | exact Nat.le_refl _⟩, ⟨by (with_reducible repeat (first | refine blk_drewN ?_ _ | refine blk_drew ?_ | refine blk_alloc ?_ _)); exact eh.out⟩, ⟨by repeat (first | (with_reducible first | exact HB.out | apply below_alloc | apply pw_below_drewN | apply below_drew1 | refine below_set ?_ mG.out) | exact HB.out)⟩⟩) | (exact ⟨_, (false), au107, H', ⟨by first | omega | exact Nat.le_refl _⟩, ⟨by (with_reducible repeat (first | refine blk_drewN ?_ _ | refine blk_drew ?_ | refine blk_alloc ?_ _)); exact eh.out⟩, ⟨by repeat (first | (with_reducible first | exact HB.out | apply below_alloc | apply pw_below_drewN | apply below_drew1 | refine below_set ?_ mG.out) | exact HB.out)⟩⟩) | (exact ⟨_, (true), au107, H', ⟨by first | omega | exact Nat.le_refl _⟩, ⟨by (with_reducible repeat (first | refine blk_drewN ?_ _ | refine blk_drew ?_ | refine blk_alloc ?_ _)); exact eh.out⟩, ⟨by repeat (first | (with_reducible first | exact HB.out | apply below_alloc | apply pw_below_drewN | apply below_drew1 | refine below_set ?_ mG.out) | exact HB.out)⟩⟩)) : P := h
set_option maxHeartbeats 8000000 in
set_option maxRecDepth 100000 in
theorem impl_IsValidDate.calls (k : Nat) (ab : Int) (aa : Int) (aC : Int) (aA : Bool) (r : Bool) (w : World) (h : impl_IsValidDate.f k ab aa aC aA = some r) :
  Calls Tryz.prog 38 #[.agg #[.int .i64 ab, .int .i64 aa, .int .i64 aC, .bool aA]] w fun e w' => e = .returned (.bool r) ∧ Below w.heap.size w w' := by
 have hu32 := Tryz.underlying32;have HB := am (Below.refl w.heap.size w);have H : (if (ab == 0 && (aa == 0 && (aC == 0 && (!aA)))) = true then (some true) else ((impl_inside.f ab 1 2999).bind fun jk => (if jk = true then ((impl_inside.f aa 0 12).bind fun pP => (if pP = true then (if aA = true then (impl_IsValidDate.j0 k (aa != 0) ab aa aC aA) else (impl_IsValidDate.j0 k false ab aa aC aA)) else (impl_IsValidDate.j0 k true ab aa aC aA))) else (impl_IsValidDate.j0 k true ab aa aC aA)))) = some r := h;clear h;by_cases c2 : (ab == 0 && (aa == 0 && (aC == 0 && (!aA)))) = true
 ·
  rw [if_pos c2] at H;have c2b0 : (ab == 0 && (aa == 0 && (aC == 0 && (!aA)))) = true := c2
  (try (have c2b1 : decide (ab = 0 && (aa == 0 && (aC == 0 && (!aA)))) = true := by simpa using c2))
  (try (have c2b2 : (ab == 0 && (aa == 0 && (aC == 0 && (!aA)))) = true := by simpa using c2))
  clear c2;obtain rfl := ojz H;go_enter Tryz.func38, Tryz.ntmps38;go_wp2_with (first | ((with_reducible refine gate_dst (N := 1) rfl ?_); refine box_event ?hg (N := 1) ?hd (cs := #[.int .i64 ab, .int .i64 aa, .int .i64 aC, .bool aA]) (t := 32) ?hr ?_; (case hd => rfl); (case hg => rfl); (case hr => first | (go_simp; done) | (go_simp; rfl)); intro xx hg w3 hbox hb; have eh := am (hbox); have AW := am (bsz hg au51); have mG := am (bsz hg au51); replace HB := am (below_step au51 hb); clear hb hbox hg; obtain ⟨fU, fV, fW, fX, fY, fZ, ga, ge⟩ := blkc4 eh.out))
  repeat (go_quiet (first | ((with_reducible refine gate_dst (N := 1) rfl ?_); refine box_event ?hg (N := 1) ?hd (cs := #[.int .i64 ab, .int .i64 aa, .int .i64 aC, .bool aA]) (t := 32) ?hr ?_; (case hd => rfl); (case hg => rfl); (case hr => first | (go_simp; done) | (go_simp; rfl)); intro xx hg w3 hbox hb; have eh := am (hbox); have AW := am (bsz hg au51); have mG := am (bsz hg au51); replace HB := am (below_step au51 hb); clear hb hbox hg; obtain ⟨fU, fV, fW, fX, fY, fZ, ga, ge⟩ := blkc4 eh.out)); try go_wp2_with (first | ((with_reducible refine gate_dst (N := 1) rfl ?_); refine box_event ?hg (N := 1) ?hd (cs := #[.int .i64 ab, .int .i64 aa, .int .i64 aC, .bool aA]) (t := 32) ?hr ?_; (case hd => rfl); (case hg => rfl); (case hr => first | (go_simp; done) | (go_simp; rfl)); intro xx hg w3 hbox hb; have eh := am (hbox); have AW := am (bsz hg au51); have mG := am (bsz hg au51); replace HB := am (below_step au51 hb); clear hb hbox hg; obtain ⟨fU, fV, fW, fX, fY, fZ, ga, ge⟩ := blkc4 eh.out)))
  go_ret;exact ax7
 ·
  rw [if_neg c2] at H
  have c2b0 : (ab == 0 && (aa == 0 && (aC == 0 && (!aA)))) = false := by simpa using c2
  (try (have c2b1 : decide (ab = 0 && (aa == 0 && (aC == 0 && (!aA)))) = false := by simpa using c2))
  (try (have c2b2 : (ab == 0 && (aa == 0 && (aC == 0 && (!aA)))) = false := by simpa using c2))
  (try (have c2b3 : ¬ (ab = 0 && (aa == 0 && (aC == 0 && (!aA)))) := by simpa using c2))
  clear c2;have Gk := am H;clear H;go_enter Tryz.func38, Tryz.ntmps38
  go_upto_region 3 with (first | ((with_reducible refine gate_dst (N := 1) rfl ?_); refine box_event ?hg (N := 1) ?hd (cs := #[.int .i64 ab, .int .i64 aa, .int .i64 aC, .bool aA]) (t := 32) ?hr ?_; (case hd => rfl); (case hg => rfl); (case hr => first | (go_simp; done) | (go_simp; rfl)); intro xx hg w6 hbox hb; have eh := am (hbox); have AW := am (bsz hg au51); have mG := am (bsz hg au51); replace HB := am (below_step au51 hb); clear hb hbox hg; obtain ⟨jl, jm, jn, jo, jp, jq, jr, js⟩ := blkc4 eh.out))
  repeat (go_quiet (first | ((with_reducible refine gate_dst (N := 1) rfl ?_); refine box_event ?hg (N := 1) ?hd (cs := #[.int .i64 ab, .int .i64 aa, .int .i64 aC, .bool aA]) (t := 32) ?hr ?_; (case hd => rfl); (case hg => rfl); (case hr => first | (go_simp; done) | (go_simp; rfl)); intro xx hg w6 hbox hb; have eh := am (hbox); have AW := am (bsz hg au51); have mG := am (bsz hg au51); replace HB := am (below_step au51 hb); clear hb hbox hg; obtain ⟨jl, jm, jn, jo, jp, jq, jr, js⟩ := blkc4 eh.out)); go_upto_region 3 with (first | ((with_reducible refine gate_dst (N := 1) rfl ?_); refine box_event ?hg (N := 1) ?hd (cs := #[.int .i64 ab, .int .i64 aa, .int .i64 aC, .bool aA]) (t := 32) ?hr ?_; (case hd => rfl); (case hg => rfl); (case hr => first | (go_simp; done) | (go_simp; rfl)); intro xx hg w6 hbox hb; have eh := am (hbox); have AW := am (bsz hg au51); have mG := am (bsz hg au51); replace HB := am (below_step au51 hb); clear hb hbox hg; obtain ⟨jl, jm, jn, jo, jp, jq, jr, js⟩ := blkc4 eh.out)))
  (try simp only [Act.put, List.setIfInBounds_toArray, List.set_cons_zero, List.set_cons_succ])
  go_cut [24] (fun X5 wc => ∃ (kq : Nat) (Fy : Bool), X5 = .bool Fy ∧ Aside0 (impl_IsValidDate.j0 kq Fy ab aa aC aA = some r) ∧ Aside0 (kq ≤ k) ∧ Aside0 (wc.heap[xx]? = some (.cells #[.int .i64 ab, .int .i64 aa, .int .i64 aC, .bool aA] 32 (0, 0))) ∧ Aside0 (Below w.heap.size w wc))
  case first =>
   have H := Gk.out;clear Gk;replace H := ob H;obtain ⟨jk, jT, H⟩ := H
   try dsimp only at H
   have A8 := am jT;clear jT;by_cases c9 : jk = true
   ·
    subst c9;replace H := (if_pos rfl).symm.trans H;replace H := ob H;obtain ⟨pP, er, H⟩ := H
    try dsimp only at H
    have gB := am er;clear er;by_cases bH : pP = true
    ·
     subst bH;replace H := (if_pos rfl).symm.trans H;by_cases cu : aA = true
     · subst cu;replace H := (if_pos rfl).symm.trans H;have H' := am H;clear H;obtain ⟨lX, lY, lZ, m0, m4, m5, m6, m7⟩ := blkc4 eh.out;exact impl_IsValidDate.L0
     · replace cu := Bool.eq_false_iff.mpr cu;subst cu;replace H := (if_neg (show ¬ (false = true) by decide)).symm.trans H;have H' := am H;clear H;obtain ⟨lx, ly, lz, lB, lC, lD, lF, lG⟩ := blkc4 eh.out;exact impl_IsValidDate.L0
    · replace bH := Bool.eq_false_iff.mpr bH;subst bH;replace H := (if_neg (show ¬ (false = true) by decide)).symm.trans H;have H' := am H;clear H;obtain ⟨eK, eL, eM, eN, eO, eP, eQ, eR⟩ := blkc4 eh.out;exact impl_IsValidDate.L0
   ·
    replace c9 := Bool.eq_false_iff.mpr c9;subst c9;replace H := (if_neg (show ¬ (false = true) by decide)).symm.trans H;have H' := am H;clear H;obtain ⟨lH, lI, lJ, lK, lL, lM, lN, lO⟩ := blkc4 eh.out;go_wp2_with (first | (go_at_call 39; (with_reducible refine (impl_inside.calls ab 1 2999 _ _ A8.out).mono ?_); rintro e w' ⟨rfl, ⟨nd, rfl⟩⟩; (try first | exact ⟨rfl, _, World.drewN_drewN _ _ _⟩ | exact ⟨rfl, _, Eq.trans (World.drewN_drewN _ _ _) (congrArg (World.drewN _) (Nat.add_assoc _ _ _))⟩)))
    repeat (go_quiet (first | (go_at_call 39; (with_reducible refine (impl_inside.calls ab 1 2999 _ _ A8.out).mono ?_); rintro e w' ⟨rfl, ⟨nd, rfl⟩⟩; (try first | exact ⟨rfl, _, World.drewN_drewN _ _ _⟩ | exact ⟨rfl, _, Eq.trans (World.drewN_drewN _ _ _) (congrArg (World.drewN _) (Nat.add_assoc _ _ _))⟩))); try go_wp2_with (first | (go_at_call 39; (with_reducible refine (impl_inside.calls ab 1 2999 _ _ A8.out).mono ?_); rintro e w' ⟨rfl, ⟨nd, rfl⟩⟩; (try first | exact ⟨rfl, _, World.drewN_drewN _ _ _⟩ | exact ⟨rfl, _, Eq.trans (World.drewN_drewN _ _ _) (congrArg (World.drewN _) (Nat.add_assoc _ _ _))⟩))))
    go_meet
    case rel => exact ⟨_, (true), au107, H', ⟨by first | omega | exact Nat.le_refl _⟩, ⟨by (with_reducible repeat (first | refine blk_drewN ?_ _ | refine blk_drew ?_ | refine blk_alloc ?_ _)); exact eh.out⟩, ⟨by repeat (first | (with_reducible first | exact HB.out | apply below_alloc | apply pw_below_drewN | apply below_drew1 | refine below_set ?_ mG.out) | exact HB.out)⟩⟩
  case rest =>
   clear Gk
   try clear c1
   try clear c2
   try clear c2b0
   try clear c2b1
   try clear c2b2
   try clear p2
   try clear c3
   try clear c9
   try clear bH
   try clear cu
   try clear lX lY lZ m0 m4 m5 m6 m7
   try clear lx ly lz lB lC lD lF lG
   try clear eK eL eM eN eO eP eQ eR
   try clear lH lI lJ lK lL lM lN lO
   try clear fU fV fW fX fY fZ ga ge
   try clear jl jm jn jo jp jq jr js
   obtain ⟨kq, Fy, rfl, HA, HJ4, eh, HB⟩ := hcut
   cases kq with
   | zero => exact absurd HA.out (by simp [impl_IsValidDate.j0])
   | succ RD =>
    have H := HA.out;clear HA;simp only [impl_IsValidDate.j0] at H;by_cases eD : Fy = true
    ·
     subst eD;replace H := (if_pos rfl).symm.trans H;obtain rfl := ojz H;go_wp2
     repeat (go_quiet (fail); try go_wp2)
     go_ret;exact ax7
    ·
     replace eD := Bool.eq_false_iff.mpr eD;subst eD;replace H := (if_neg (show ¬ (false = true) by decide)).symm.trans H;by_cases eC : aa = 0
     ·
      rw [if_pos eC] at H;have c18b0 := qt eC;have c18b1 := bf eC;clear eC;obtain rfl := ojz H;obtain ⟨rq, rr, rt, ru, rv, rx, ry, rz⟩ := blkc4 eh.out;go_wp2
      repeat (go_quiet (fail); try go_wp2)
      go_ret;exact ax7
     ·
      rw [if_neg eC] at H;have c18b0 := qf eC;have c18b1 := bu eC;replace H := ob H;obtain ⟨eX, pi, H⟩ := H
      try dsimp only at H
      have dP := am pi;clear pi;replace H := ob H;obtain ⟨jD, kU, H⟩ := H
      try dsimp only at H
      have qQ := am kU;clear kU;obtain rfl := ojz H;obtain ⟨jJ, jK, jL, jM, jN, jO, jP, jQ⟩ := blkc4 eh.out;go_wp2_with (first | (go_at_call 55; (with_reducible refine (impl_daysInMonth.calls ab aa eX _ dP.out).mono ?_); rintro e w' ⟨rfl, ⟨nd, rfl⟩⟩; (try first | exact ⟨rfl, _, World.drewN_drewN _ _ _⟩ | exact ⟨rfl, _, Eq.trans (World.drewN_drewN _ _ _) (congrArg (World.drewN _) (Nat.add_assoc _ _ _))⟩)) | (go_at_call 39; (with_reducible refine (impl_inside.calls aC 0 eX jD _ qQ.out).mono ?_); rintro e w' ⟨rfl, ⟨nd, rfl⟩⟩; (try first | exact ⟨rfl, _, World.drewN_drewN _ _ _⟩ | exact ⟨rfl, _, Eq.trans (World.drewN_drewN _ _ _) (congrArg (World.drewN _) (Nat.add_assoc _ _ _))⟩)))
      repeat (go_quiet (first | (go_at_call 55; (with_reducible refine (impl_daysInMonth.calls ab aa eX _ dP.out).mono ?_); rintro e w' ⟨rfl, ⟨nd, rfl⟩⟩; (try first | exact ⟨rfl, _, World.drewN_drewN _ _ _⟩ | exact ⟨rfl, _, Eq.trans (World.drewN_drewN _ _ _) (congrArg (World.drewN _) (Nat.add_assoc _ _ _))⟩)) | (go_at_call 39; (with_reducible refine (impl_inside.calls aC 0 eX jD _ qQ.out).mono ?_); rintro e w' ⟨rfl, ⟨nd, rfl⟩⟩; (try first | exact ⟨rfl, _, World.drewN_drewN _ _ _⟩ | exact ⟨rfl, _, Eq.trans (World.drewN_drewN _ _ _) (congrArg (World.drewN _) (Nat.add_assoc _ _ _))⟩))); try go_wp2_with (first | (go_at_call 55; (with_reducible refine (impl_daysInMonth.calls ab aa eX _ dP.out).mono ?_); rintro e w' ⟨rfl, ⟨nd, rfl⟩⟩; (try first | exact ⟨rfl, _, World.drewN_drewN _ _ _⟩ | exact ⟨rfl, _, Eq.trans (World.drewN_drewN _ _ _) (congrArg (World.drewN _) (Nat.add_assoc _ _ _))⟩)) | (go_at_call 39; (with_reducible refine (impl_inside.calls aC 0 eX jD _ qQ.out).mono ?_); rintro e w' ⟨rfl, ⟨nd, rfl⟩⟩; (try first | exact ⟨rfl, _, World.drewN_drewN _ _ _⟩ | exact ⟨rfl, _, Eq.trans (World.drewN_drewN _ _ _) (congrArg (World.drewN _) (Nat.add_assoc _ _ _))⟩))))
      go_ret;exact ax7
end Go.Proofs.YthfbogcpjfledaaGreatDoor.G

namespace Go.Proofs.YthfbogcpjfledaaGreatDoor.G
open Go.RowKit Go.Proofs.YthfbogcpjfledaaGreatDoorW.PrintWords Go.Proofs.YthfbogcpjfledaaGreatDoorW.PrintLast Go.Proofs.YthfbogcpjfledaaGreatDoorW.PrintMore
open Go.Proofs.YthfbogcpjfledaaGreatDoor.Gl Go.Proofs.YthfbogcpjfledaaGreatDoor.Ext
attribute [local go_sem] max2_int min2_int max_two min_two max_three min_three max_four min_four   -- for this text's walks alone
set_option linter.unusedVariables false
set_option linter.unusedSimpArgs false
def strings_trimLeftByte.l0 : Nat → ByteArray → Int → Option (ByteArray)
 | 0, _, _ => none
 | k + 1, x0, x1 => if (x0.size : Int) > 0 then (if 0 < (x0.size : Int) then (if (bt x0 0) = x1 then (if 1 ≤ (x0.size : Int) then (strings_trimLeftByte.l0 k (x0.extract 1 x0.size) x1) else (none)) else (some x0)) else (none)) else (some x0)
def strings_trimLeftByte.f (k : Nat) (a0 : ByteArray) (a1 : Int) : Option (ByteArray) := strings_trimLeftByte.l0 k a0 a1
theorem strings_trimLeftByte.mono_l : ∀ k, (∀ y0 y1, LeO (strings_trimLeftByte.l0 k y0 y1) (strings_trimLeftByte.l0 (k + 1) y0 y1))
 | 0 => fun _ _ r h => by simp [strings_trimLeftByte.l0] at h
 | k + 1 => by
  have ih0 := strings_trimLeftByte.mono_l k
  ·
   intro y0 y1;unfold strings_trimLeftByte.l0
   repeat' first
   | (with_reducible exact ih0 _ _)
   | (with_reducible exact LeO.refl _)
   | (with_reducible exact LeO.none _)
   | (with_reducible refine LeO.ite ?_ ?_)
   | (with_reducible refine LeO.bind ?_ (fun _ => ?_))
   | exact ih0 _ _
   | exact LeO.none _
   | refine LeO.ite ?_ ?_
   | refine LeO.bind ?_ (fun _ => ?_)
theorem strings_trimLeftByte.mono : ∀ a0 a1 k, LeO (strings_trimLeftByte.f k a0 a1) (strings_trimLeftByte.f (k + 1) a0 a1) := by
 intro a0 a1 k;have ih0 := strings_trimLeftByte.mono_l k;unfold strings_trimLeftByte.f
 repeat' first
   | (with_reducible exact ih0 _ _)
   | (with_reducible exact LeO.refl _)
   | (with_reducible exact LeO.none _)
   | (with_reducible refine LeO.ite ?_ ?_)
   | (with_reducible refine LeO.bind ?_ (fun _ => ?_))
   | exact ih0 _ _
   | exact LeO.none _
   | refine LeO.ite ?_ ?_
   | refine LeO.bind ?_ (fun _ => ?_)
set_option maxHeartbeats 8000000 in
set_option maxRecDepth 100000 in
theorem strings_trimLeftByte.calls (k : Nat) (a0 : ByteArray) (a1 : Int) (r : ByteArray) (w : World) (h : strings_trimLeftByte.f k a0 a1 = some r) :
  Calls Tryz.prog 82 #[.string a0, .int .u8 a1] w fun e w' => e = .returned (.string r) ∧ Drawn0 w w' := by
 have H : (strings_trimLeftByte.l0 k a0 a1) = some r := h;clear h;have H' := am H;clear H;go_enter Tryz.func82, Tryz.ntmps82;go_wp2
 go_loopg [0] k (fun kq v0 w' => ∃ (bO : ByteArray), v0 = .string bO ∧ Aside0 (strings_trimLeftByte.l0 kq bO a1 = some r) ∧ Aside0 (kq ≤ k) ∧ Drawn0 w w')
 case atStart => exact ⟨(a0), au107, H', ⟨Nat.le_refl _⟩, by repeat (first | exact Drawn0.refl _ | apply Drawn0.step)⟩
 case round =>
  clear H'
  try clear p2
  obtain ⟨bO, rfl, HA, HK1, ⟨m1, rfl⟩⟩ := hrel
  cases gk with
  | zero => exact absurd HA.out (by simp [strings_trimLeftByte.l0])
  | succ k1 =>
   have H := HA.out;clear HA;simp only [strings_trimLeftByte.l0] at H;by_cases c3 : (bO.size : Int) > 0
   ·
    rw [if_pos c3] at H;have c3b0 := dt c3;have c3b1 : decide (0 < bO.size) = true := dt (by omega);clear c3;by_cases c4 : 0 < (bO.size : Int)
    ·
     rw [if_pos c4] at H;have c4b0 := dt c4;have c4b1 : decide (0 < bO.size) = true := dt (by omega);clear c4;by_cases c6 : (bt bO 0) = a1
     ·
      rw [if_pos c6] at H;have c6b0 := qt c6;have c6b1 := bf c6;clear c6;by_cases c7 : 1 ≤ (bO.size : Int)
      ·
       rw [if_pos c7] at H;have c7b0 := eq_true c7;have c7b1 := dt c7;clear c7;have H' := am H;clear H
       have p5 : 0 ≤ (0 : Int) := (by omega)
       have q5 : 0 < bO.size := (by have : (0 : Int) < (bO.size : Int) := od au106; omega)
       have NZ : ∀ h : 0 < bO.size, ((bO[0]'h).toNat : Int) = bt bO 0 := bt_at bO 0;clear p5;have qi5 : (0 < (bO.size : Int)) = True := eq_true (od au106);replace q5 := eq_true q5;go_wp2
       go_roundg k1
       case measure => have := HK1.out; omega
       case rel => exact ⟨(bO.extract 1 bO.size), au107, H', ⟨by have := HK1.out; omega⟩, by repeat (first | exact Drawn0.refl _ | apply Drawn0.step)⟩
      · rw [if_neg c7] at H;exact absurd H (by simp)
     ·
      rw [if_neg c6] at H;have c6b0 := qf c6;have c6b1 := bu c6;obtain rfl := ojz H
      have p5 : 0 ≤ (0 : Int) := (by omega)
      have q5 : 0 < bO.size := (by have : (0 : Int) < (bO.size : Int) := od au106; omega)
      have NZ : ∀ h : 0 < bO.size, ((bO[0]'h).toNat : Int) = bt bO 0 := bt_at bO 0;clear p5;have qi5 : (0 < (bO.size : Int)) = True := eq_true (od au106);replace q5 := eq_true q5;go_wp2;go_ret;exact ax0
    · rw [if_neg c4] at H;exact absurd H (by simp)
   · rw [if_neg c3] at H;have c3b0 := df c3;have c3b1 : decide (0 < bO.size) = false := df (by omega);clear c3;obtain rfl := ojz H;go_wp2;go_ret;exact ax0
def strings_trimRightByte.l0 : Nat → ByteArray → Int → Option (ByteArray)
 | 0, _, _ => none
 | k + 1, x0, x1 => if (x0.size : Int) > 0 then (if 0 ≤ (wrap64 ((x0.size : Int) - 1)) then (if (wrap64 ((x0.size : Int) - 1)) < (x0.size : Int) then (if (bt x0 (wrap64 ((x0.size : Int) - 1))) = x1 then (if (wrap64 ((x0.size : Int) - 1)) ≤ (x0.size : Int) then (strings_trimRightByte.l0 k (x0.extract 0 ((wrap64 ((x0.size : Int) - 1)) : Int).toNat) x1) else (none)) else (some x0)) else (none)) else (none)) else (some x0)
def strings_trimRightByte.f (k : Nat) (a0 : ByteArray) (a1 : Int) : Option (ByteArray) := strings_trimRightByte.l0 k a0 a1
theorem strings_trimRightByte.mono_l : ∀ k, (∀ y0 y1, LeO (strings_trimRightByte.l0 k y0 y1) (strings_trimRightByte.l0 (k + 1) y0 y1))
 | 0 => fun _ _ r h => by simp [strings_trimRightByte.l0] at h
 | k + 1 => by
  have ih0 := strings_trimRightByte.mono_l k
  ·
   intro y0 y1;unfold strings_trimRightByte.l0
   repeat' first
   | (with_reducible exact ih0 _ _)
   | (with_reducible exact LeO.refl _)
   | (with_reducible exact LeO.none _)
   | (with_reducible refine LeO.ite ?_ ?_)
   | (with_reducible refine LeO.bind ?_ (fun _ => ?_))
   | exact ih0 _ _
   | exact LeO.none _
   | refine LeO.ite ?_ ?_
   | refine LeO.bind ?_ (fun _ => ?_)
theorem strings_trimRightByte.mono : ∀ a0 a1 k, LeO (strings_trimRightByte.f k a0 a1) (strings_trimRightByte.f (k + 1) a0 a1) := by
 intro a0 a1 k;have ih0 := strings_trimRightByte.mono_l k;unfold strings_trimRightByte.f
 repeat' first
   | (with_reducible exact ih0 _ _)
   | (with_reducible exact LeO.refl _)
   | (with_reducible exact LeO.none _)
   | (with_reducible refine LeO.ite ?_ ?_)
   | (with_reducible refine LeO.bind ?_ (fun _ => ?_))
   | exact ih0 _ _
   | exact LeO.none _
   | refine LeO.ite ?_ ?_
   | refine LeO.bind ?_ (fun _ => ?_)
set_option maxHeartbeats 8000000 in
set_option maxRecDepth 100000 in
theorem strings_trimRightByte.calls (k : Nat) (a0 : ByteArray) (a1 : Int) (r : ByteArray) (w : World) (h : strings_trimRightByte.f k a0 a1 = some r) :
  Calls Tryz.prog 83 #[.string a0, .int .u8 a1] w fun e w' => e = .returned (.string r) ∧ Drawn0 w w' := by
 have H : (strings_trimRightByte.l0 k a0 a1) = some r := h;clear h;have H' := am H;clear H;go_enter Tryz.func83, Tryz.ntmps83;go_wp2
 go_loopg [0] k (fun kq v0 w' => ∃ (bO : ByteArray), v0 = .string bO ∧ Aside0 (strings_trimRightByte.l0 kq bO a1 = some r) ∧ Aside0 (kq ≤ k) ∧ Drawn0 w w')
 case atStart => exact ⟨(a0), au107, H', ⟨Nat.le_refl _⟩, by repeat (first | exact Drawn0.refl _ | apply Drawn0.step)⟩
 case round =>
  clear H'
  try clear p2
  obtain ⟨bO, rfl, HA, HK1, ⟨m1, rfl⟩⟩ := hrel
  cases gk with
  | zero => exact absurd HA.out (by simp [strings_trimRightByte.l0])
  | succ k1 =>
   have H := HA.out;clear HA;simp only [strings_trimRightByte.l0] at H;by_cases c3 : (bO.size : Int) > 0
   ·
    rw [if_pos c3] at H;have c3b0 := dt c3;have c3b1 : decide (0 < bO.size) = true := dt (by omega);clear c3
    obtain ⟨lu, Hh⟩ : ∃ j_ : Int, (wrap64 ((bO.size : Int) - 1)) = j_ := ⟨_, rfl⟩
    replace H : (if 0 ≤ (lu) then (if (lu) < (bO.size : Int) then (if (bt bO (lu)) = a1 then (if (lu) ≤ (bO.size : Int) then (strings_trimRightByte.l0 k1 (bO.extract 0 ((lu) : Int).toNat) a1) else (none)) else (some bO)) else (none)) else (none)) = some r := by first | (rw [Hh] at H; exact H) | (simp only [Hh] at H ⊢; exact H)
    have hji4w : (IntKind.i64.wrap ((bO.size : Int) - 1)) = lu := (i64_w _).trans Hh;by_cases c5 : 0 ≤ (lu)
    ·
     rw [if_pos c5] at H;have c5b0 := dt c5;clear c5;by_cases c6 : (lu) < (bO.size : Int)
     ·
      rw [if_pos c6] at H;have c6b0 := dt c6;clear c6;by_cases c8 : (bt bO (lu)) = a1
      ·
       rw [if_pos c8] at H;have c8b0 := qt c8;have c8b1 := bf c8;clear c8;have c9b0 := eq_true (od au106 : 0 ≤ (lu));by_cases c10 : (lu) ≤ (bO.size : Int)
       ·
        rw [if_pos c10] at H;have c10b0 := eq_true c10;have c10b1 := dt c10;clear c10;have H' := am H;clear H;have p7 : 0 ≤ ((lu) : Int) := od au106;have q7 : (lu) < (bO.size : Int) := od au106;have NX := bt_at bO (lu);replace p7 := eq_true p7;replace q7 := eq_true q7;go_wp2
        go_roundg k1
        case measure => have := HK1.out; omega
        case rel => exact ⟨(bO.extract 0 ((lu) : Int).toNat), (by first | rfl | (simp; done) | (simp only [← Hh] <;> (first | rfl | simp)) | (simp [*]; done)), H', ⟨by have := HK1.out; omega⟩, by repeat (first | exact Drawn0.refl _ | apply Drawn0.step)⟩
       · rw [if_neg c10] at H;exact absurd H (by simp)
      · rw [if_neg c8] at H;have c8b0 := qf c8;have c8b1 := bu c8;obtain rfl := ojz H;have p7 : 0 ≤ ((lu) : Int) := od au106;have q7 : (lu) < (bO.size : Int) := od au106;have NX := bt_at bO (lu);replace p7 := eq_true p7;replace q7 := eq_true q7;go_wp2;go_ret;exact ⟨by first | rfl | (simp; done) | (simp only [← Hh] <;> (first | rfl | simp)) | (simp [*]; done), by repeat (first | exact Drawn0.refl _ | apply Drawn0.step)⟩
     · rw [if_neg c6] at H;exact absurd H (by simp)
    · rw [if_neg c5] at H;exact absurd H (by simp)
   · rw [if_neg c3] at H;have c3b0 := df c3;have c3b1 : decide (0 < bO.size) = false := df (by omega);clear c3;obtain rfl := ojz H;go_wp2;go_ret;exact ax0
mutual
def strings_Trim.j0 : Nat → ByteArray → ByteArray → Bool → Option (ByteArray)
 | 0, _, _, _ => none
 | k + 1, x0, x1, He => if He = true then (some x0) else (if (x1.size : Int) = 1 then (if 0 < (x1.size : Int) then (strings_Trim.j1 k x0 x1 (decide ((bt x1 0) < 128))) else (none)) else (strings_Trim.j1 k x0 x1 false))
def strings_Trim.j1 : Nat → ByteArray → ByteArray → Bool → Option (ByteArray)
 | 0, _, _, _ => none
 | k + 1, x0, x1, XB => if XB = true then (if 0 < (x1.size : Int) then ((strings_trimRightByte.f k x0 (bt x1 0)).bind fun vt => ((strings_trimLeftByte.f k vt (bt x1 0)).bind fun pQ => (some pQ))) else (none)) else (none)
end
def strings_Trim.f (k : Nat) (a0 : ByteArray) (a1 : ByteArray) : Option (ByteArray) := if a0.toList = ([] : List UInt8) then (strings_Trim.j0 k a0 a1 true) else (strings_Trim.j0 k a0 a1 (a1.toList == ([] : List UInt8)))
theorem strings_Trim.mono_l : ∀ k, (∀ y0 y1 y2, LeO (strings_Trim.j0 k y0 y1 y2) (strings_Trim.j0 (k + 1) y0 y1 y2)) ∧ (∀ y0 y1 y2, LeO (strings_Trim.j1 k y0 y1 y2) (strings_Trim.j1 (k + 1) y0 y1 y2))
 | 0 => ⟨fun _ _ _ r h => by simp [strings_Trim.j0] at h, fun _ _ _ r h => by simp [strings_Trim.j1] at h⟩
 | k + 1 => by
  obtain ⟨ih0, ih1⟩ := strings_Trim.mono_l k;refine ⟨?_, ?_⟩
  ·
   intro y0 y1 y2;unfold strings_Trim.j0
   repeat' first
   | (with_reducible exact ih0 _ _ _)
   | (with_reducible exact ih1 _ _ _)
   | (with_reducible exact strings_trimLeftByte.mono _ _ _)
   | (with_reducible exact strings_trimRightByte.mono _ _ _)
   | (with_reducible exact LeO.refl _)
   | (with_reducible exact LeO.none _)
   | (with_reducible refine LeO.ite ?_ ?_)
   | (with_reducible refine LeO.bind ?_ (fun _ => ?_))
   | exact ih0 _ _ _
   | exact ih1 _ _ _
   | exact strings_trimLeftByte.mono _ _ _
   | exact strings_trimRightByte.mono _ _ _
   | exact LeO.none _
   | refine LeO.ite ?_ ?_
   | refine LeO.bind ?_ (fun _ => ?_)
  ·
   intro y0 y1 y2;unfold strings_Trim.j1
   repeat' first
   | (with_reducible exact ih0 _ _ _)
   | (with_reducible exact ih1 _ _ _)
   | (with_reducible exact strings_trimLeftByte.mono _ _ _)
   | (with_reducible exact strings_trimRightByte.mono _ _ _)
   | (with_reducible exact LeO.refl _)
   | (with_reducible exact LeO.none _)
   | (with_reducible refine LeO.ite ?_ ?_)
   | (with_reducible refine LeO.bind ?_ (fun _ => ?_))
   | exact ih0 _ _ _
   | exact ih1 _ _ _
   | exact strings_trimLeftByte.mono _ _ _
   | exact strings_trimRightByte.mono _ _ _
   | exact LeO.none _
   | refine LeO.ite ?_ ?_
   | refine LeO.bind ?_ (fun _ => ?_)
theorem strings_Trim.mono : ∀ a0 a1 k, LeO (strings_Trim.f k a0 a1) (strings_Trim.f (k + 1) a0 a1) := by
 intro a0 a1 k;obtain ⟨ih0, ih1⟩ := strings_Trim.mono_l k;unfold strings_Trim.f
 repeat' first
   | (with_reducible exact ih0 _ _ _)
   | (with_reducible exact ih1 _ _ _)
   | (with_reducible exact strings_trimLeftByte.mono _ _ _)
   | (with_reducible exact strings_trimRightByte.mono _ _ _)
   | (with_reducible exact LeO.refl _)
   | (with_reducible exact LeO.none _)
   | (with_reducible refine LeO.ite ?_ ?_)
   | (with_reducible refine LeO.bind ?_ (fun _ => ?_))
   | exact ih0 _ _ _
   | exact ih1 _ _ _
   | exact strings_trimLeftByte.mono _ _ _
   | exact strings_trimRightByte.mono _ _ _
   | exact LeO.none _
   | refine LeO.ite ?_ ?_
   | refine LeO.bind ?_ (fun _ => ?_)
set_option maxHeartbeats 8000000 in
set_option maxRecDepth 100000 in
theorem strings_Trim.calls (k : Nat) (a0 : ByteArray) (a1 : ByteArray) (r : ByteArray) (w : World) (h : strings_Trim.f k a0 a1 = some r) :
  Calls Tryz.prog 71 #[.string a0, .string a1] w fun e w' => e = .returned (.string r) ∧ Below w.heap.size w w' := by
 have HB := am (Below.refl w.heap.size w);have H : (if a0.toList = ([] : List UInt8) then (strings_Trim.j0 k a0 a1 true) else (strings_Trim.j0 k a0 a1 (a1.toList == ([] : List UInt8)))) = some r := h;clear h;have pK := am H;clear H;go_enter Tryz.func71, Tryz.ntmps71
 go_upto_region 1 with (fail)
 repeat (go_quiet (fail); go_upto_region 1 with (fail))
 go_cut [12] (fun v12 wc => ∃ (kq : Nat) (Fz : Bool), v12 = .bool Fz ∧ Aside0 (strings_Trim.j0 kq a0 a1 Fz = some r) ∧ Aside0 (kq ≤ k) ∧ Aside0 (Below w.heap.size w wc))
 case first =>
  have H := pK.out;clear pK;by_cases c4 : a0.toList = ([] : List UInt8)
  ·
   rw [if_pos c4] at H;have c4b0 := qt c4;have c4b1 := bf c4;clear c4
   (first | rw [c4b0] | (simp only [i64_w, i32_w]; rw [c4b0]) | skip)
   have H' := am H;clear H;go_wp2
   repeat (go_quiet (fail); try go_wp2)
   go_meet
   case rel => exact ⟨_, (true), au107, H', ⟨by first | omega | exact Nat.le_refl _⟩, ⟨by repeat (first | (with_reducible first | exact HB.out | apply below_alloc | apply pw_below_drewN | apply below_drew1) | exact HB.out)⟩⟩
  ·
   rw [if_neg c4] at H;have c4b0 := qf c4;have c4b1 := bu c4
   (first | rw [c4b0] | (simp only [i64_w, i32_w]; rw [c4b0]) | skip)
   have H' := am H;clear H;go_wp2
   repeat (go_quiet (fail); try go_wp2)
   go_meet
   case rel => exact ⟨_, ((a1.toList == ([] : List UInt8))), au107, H', ⟨by first | omega | exact Nat.le_refl _⟩, ⟨by repeat (first | (with_reducible first | exact HB.out | apply below_alloc | apply pw_below_drewN | apply below_drew1) | exact HB.out)⟩⟩
 case rest =>
  clear pK
  try clear p2
  try clear c4
  try clear c4b0
  try clear c4b1
  obtain ⟨kq, Fz, rfl, HA, xH, HB⟩ := hcut
  cases kq with
  | zero => exact absurd HA.out (by simp [strings_Trim.j0])
  | succ GK =>
   have H := HA.out;clear HA;simp only [strings_Trim.j0] at H;by_cases c5 : Fz = true
   ·
    subst c5;replace H := (if_pos rfl).symm.trans H;obtain rfl := ojz H;go_wp2
    repeat (go_quiet (fail); try go_wp2)
    go_ret;exact ax1
   ·
    replace c5 := Bool.eq_false_iff.mpr c5;subst c5;replace H := (if_neg (show ¬ (false = true) by decide)).symm.trans H;have uX := am H;clear H
    go_upto_region 3 with (fail)
    repeat (go_quiet (fail); go_upto_region 3 with (fail))
    go_cut [21] (fun v21 wc => ∃ (kq : Nat) (FA : Bool), v21 = .bool FA ∧ Aside0 (strings_Trim.j1 kq a0 a1 FA = some r) ∧ Aside0 (kq ≤ GK) ∧ Aside0 (Below w.heap.size w wc))
    case first =>
     have H := uX.out;clear uX;by_cases c7 : (a1.size : Int) = 1
     ·
      rw [if_pos c7] at H;have c7b0 := qt c7;have c7b1 := bf c7;clear c7
      (first | rw [c7b0] | (simp only [i64_w, i32_w]; rw [c7b0]) | skip)
      by_cases c8 : 0 < (a1.size : Int)
      ·
       rw [if_pos c8] at H;have c8b0 := dt c8;have c8b1 : decide (0 < a1.size) = true := dt (by omega);clear c8;have H' := am H;clear H
       have p9 : 0 ≤ (0 : Int) := (by omega)
       have q9 : 0 < a1.size := (by have : (0 : Int) < (a1.size : Int) := od au106; omega)
       have hx9 : ∀ h : 0 < a1.size, ((a1[0]'h).toNat : Int) = bt a1 0 := bt_at a1 0;clear p9;have qi9 : (0 < (a1.size : Int)) = True := eq_true (od au106);replace q9 := eq_true q9;go_wp2
       repeat (go_quiet (fail); try go_wp2)
       go_meet
       case rel => exact ⟨_, (decide ((bt a1 0) < 128)), au107, H', ⟨by have := xH.out; first | omega | exact Nat.le_refl _⟩, ⟨by repeat (first | (with_reducible first | exact HB.out | apply below_alloc | apply pw_below_drewN | apply below_drew1) | exact HB.out)⟩⟩
      · rw [if_neg c8] at H;exact absurd H (by simp)
     ·
      rw [if_neg c7] at H;have c7b0 := qf c7;have c7b1 := bu c7
      (first | rw [c7b0] | (simp only [i64_w, i32_w]; rw [c7b0]) | skip)
      have H' := am H;clear H;go_wp2
      repeat (go_quiet (fail); try go_wp2)
      go_meet
      case rel => exact ⟨_, (false), au107, H', ⟨by have := xH.out; first | omega | exact Nat.le_refl _⟩, ⟨by repeat (first | (with_reducible first | exact HB.out | apply below_alloc | apply pw_below_drewN | apply below_drew1) | exact HB.out)⟩⟩
    case rest =>
     clear uX
     try clear p2
     try clear c4
     try clear c4b0
     try clear c4b1
     try clear c5
     try clear c7
     try clear c7b0
     try clear c7b1
     try clear c8
     try clear c8b0
     try clear c8b1
     try clear p9
     try clear q9
     try clear hx9
     try clear qi9
     try clear p2
     try clear p9
     try clear q9
     obtain ⟨kq, FA, rfl, HA, HJ5, HB⟩ := hcut
     cases kq with
     | zero => exact absurd HA.out (by simp [strings_Trim.j1])
     | succ uz =>
      have H := HA.out;clear HA;simp only [strings_Trim.j1] at H;by_cases c10 : FA = true
      ·
       subst c10;replace H := (if_pos rfl).symm.trans H;by_cases bH : 0 < (a1.size : Int)
       ·
        rw [if_pos bH] at H;have c11b0 := dt bH;have c11b1 : decide (0 < a1.size) = true := dt (by omega);clear bH;replace H := ob H;obtain ⟨vt, kS, H⟩ := H
        try dsimp only at H
        have uH := am kS;clear kS;replace H := ob H;obtain ⟨pQ, pc, H⟩ := H
        try dsimp only at H
        have qO := am pc;clear pc;obtain rfl := ojz H
        have qa : 0 ≤ (0 : Int) := (by omega)
        have nf : 0 < a1.size := (by have : (0 : Int) < (a1.size : Int) := od au106; omega)
        have Bv : ∀ h : 0 < a1.size, ((a1[0]'h).toNat : Int) = bt a1 0 := bt_at a1 0;clear qa;have Qi : (0 < (a1.size : Int)) = True := eq_true (od au106);replace nf := eq_true nf;go_wp2_with (first | (go_at_call 83; (with_reducible refine (strings_trimRightByte.calls uz a0 (bt a1 0) vt _ uH.out).mono ?_); rintro e w' ⟨rfl, ⟨nd, rfl⟩⟩; (try first | exact ⟨rfl, _, World.drewN_drewN _ _ _⟩ | exact ⟨rfl, _, Eq.trans (World.drewN_drewN _ _ _) (congrArg (World.drewN _) (Nat.add_assoc _ _ _))⟩); have gy : 0 ≤ (0 : Int) := (by omega); have fG : 0 < a1.size := (by have : (0 : Int) < (a1.size : Int) := od au106; omega); have tG : ∀ h : 0 < a1.size, ((a1[0]'h).toNat : Int) = bt a1 0 := bt_at a1 0; clear gy; have Y6 : (0 < (a1.size : Int)) = True := eq_true (od au106); replace fG := eq_true fG) | (go_at_call 82; (with_reducible refine (strings_trimLeftByte.calls uz vt (bt a1 0) pQ _ qO.out).mono ?_); rintro e w' ⟨rfl, ⟨nd, rfl⟩⟩; (try first | exact ⟨rfl, _, World.drewN_drewN _ _ _⟩ | exact ⟨rfl, _, Eq.trans (World.drewN_drewN _ _ _) (congrArg (World.drewN _) (Nat.add_assoc _ _ _))⟩)))
        repeat (go_quiet (first | (go_at_call 83; (with_reducible refine (strings_trimRightByte.calls uz a0 (bt a1 0) vt _ uH.out).mono ?_); rintro e w' ⟨rfl, ⟨nd, rfl⟩⟩; (try first | exact ⟨rfl, _, World.drewN_drewN _ _ _⟩ | exact ⟨rfl, _, Eq.trans (World.drewN_drewN _ _ _) (congrArg (World.drewN _) (Nat.add_assoc _ _ _))⟩); have gy : 0 ≤ (0 : Int) := (by omega); have fG : 0 < a1.size := (by have : (0 : Int) < (a1.size : Int) := od au106; omega); have tG : ∀ h : 0 < a1.size, ((a1[0]'h).toNat : Int) = bt a1 0 := bt_at a1 0; clear gy; have Y6 : (0 < (a1.size : Int)) = True := eq_true (od au106); replace fG := eq_true fG) | (go_at_call 82; (with_reducible refine (strings_trimLeftByte.calls uz vt (bt a1 0) pQ _ qO.out).mono ?_); rintro e w' ⟨rfl, ⟨nd, rfl⟩⟩; (try first | exact ⟨rfl, _, World.drewN_drewN _ _ _⟩ | exact ⟨rfl, _, Eq.trans (World.drewN_drewN _ _ _) (congrArg (World.drewN _) (Nat.add_assoc _ _ _))⟩))); try go_wp2_with (first | (go_at_call 83; (with_reducible refine (strings_trimRightByte.calls uz a0 (bt a1 0) vt _ uH.out).mono ?_); rintro e w' ⟨rfl, ⟨nd, rfl⟩⟩; (try first | exact ⟨rfl, _, World.drewN_drewN _ _ _⟩ | exact ⟨rfl, _, Eq.trans (World.drewN_drewN _ _ _) (congrArg (World.drewN _) (Nat.add_assoc _ _ _))⟩); have gy : 0 ≤ (0 : Int) := (by omega); have fG : 0 < a1.size := (by have : (0 : Int) < (a1.size : Int) := od au106; omega); have tG : ∀ h : 0 < a1.size, ((a1[0]'h).toNat : Int) = bt a1 0 := bt_at a1 0; clear gy; have Y6 : (0 < (a1.size : Int)) = True := eq_true (od au106); replace fG := eq_true fG) | (go_at_call 82; (with_reducible refine (strings_trimLeftByte.calls uz vt (bt a1 0) pQ _ qO.out).mono ?_); rintro e w' ⟨rfl, ⟨nd, rfl⟩⟩; (try first | exact ⟨rfl, _, World.drewN_drewN _ _ _⟩ | exact ⟨rfl, _, Eq.trans (World.drewN_drewN _ _ _) (congrArg (World.drewN _) (Nat.add_assoc _ _ _))⟩))))
        go_ret;exact ax1
       · rw [if_neg bH] at H;exact absurd H (by simp)
      · replace c10 := Bool.eq_false_iff.mpr c10;subst c10;replace H := (if_neg (show ¬ (false = true) by decide)).symm.trans H;exact absurd H (by simp)
def impl_isPrintable.l0 : Nat → ByteArray → Int → Option (Bool)
 | 0, _, _ => none
 | k + 1, x0, x3 => if x3 < (x0.size : Int) then (if 0 ≤ x3 then (if (bt x0 x3) < 32 then (some false) else (if (bt x0 x3) > 126 then (some false) else (impl_isPrintable.l0 k x0 (wrap64 (x3 + 1))))) else (none)) else ((strings_Trim.f k x0 (⟨#[32]⟩ : ByteArray)).bind fun Qk => (some (Qk.toList == x0.toList)))
def impl_isPrintable.f (k : Nat) (a0 : ByteArray) : Option (Bool) := impl_isPrintable.l0 k a0 0
theorem impl_isPrintable.mono_l : ∀ k, (∀ y0 y1, LeO (impl_isPrintable.l0 k y0 y1) (impl_isPrintable.l0 (k + 1) y0 y1))
 | 0 => fun _ _ r h => by simp [impl_isPrintable.l0] at h
 | k + 1 => by
  have ih0 := impl_isPrintable.mono_l k
  ·
   intro y0 y1;unfold impl_isPrintable.l0
   repeat' first
   | (with_reducible exact ih0 _ _)
   | (with_reducible exact strings_Trim.mono _ _ _)
   | (with_reducible exact LeO.refl _)
   | (with_reducible exact LeO.none _)
   | (with_reducible refine LeO.ite ?_ ?_)
   | (with_reducible refine LeO.bind ?_ (fun _ => ?_))
   | exact ih0 _ _
   | exact strings_Trim.mono _ _ _
   | exact LeO.none _
   | refine LeO.ite ?_ ?_
   | refine LeO.bind ?_ (fun _ => ?_)
theorem impl_isPrintable.mono : ∀ a0 k, LeO (impl_isPrintable.f k a0) (impl_isPrintable.f (k + 1) a0) := by
 intro a0 k;have ih0 := impl_isPrintable.mono_l k;unfold impl_isPrintable.f
 repeat' first
   | (with_reducible exact ih0 _ _)
   | (with_reducible exact strings_Trim.mono _ _ _)
   | (with_reducible exact LeO.refl _)
   | (with_reducible exact LeO.none _)
   | (with_reducible refine LeO.ite ?_ ?_)
   | (with_reducible refine LeO.bind ?_ (fun _ => ?_))
   | exact ih0 _ _
   | exact strings_Trim.mono _ _ _
   | exact LeO.none _
   | refine LeO.ite ?_ ?_
   | refine LeO.bind ?_ (fun _ => ?_)
set_option maxHeartbeats 8000000 in
set_option maxRecDepth 100000 in
theorem impl_isPrintable.calls (k : Nat) (a0 : ByteArray) (r : Bool) (w : World) (h : impl_isPrintable.f k a0 = some r) :
  Calls Tryz.prog 56 #[.string a0] w fun e w' => e = .returned (.bool r) ∧ Below w.heap.size w w' := by
 have HB := am (Below.refl w.heap.size w);have H : (impl_isPrintable.l0 k a0 0) = some r := h;clear h;have H' := am H;clear H;go_enter Tryz.func56, Tryz.ntmps56;go_wp2
 go_loopg [3] k (fun kq v3 w' => ∃ (aJ : Int), v3 = .int .i64 aJ ∧ Aside0 (impl_isPrintable.l0 kq a0 aJ = some r) ∧ Aside0 (kq ≤ k) ∧ Aside0 (Below w.heap.size w w'))
 case atStart => exact ⟨(0), au107, H', ⟨Nat.le_refl _⟩, ⟨by repeat (first | (with_reducible first | exact HB.out | apply below_alloc | apply pw_below_drewN | apply below_drew1) | exact HB.out)⟩⟩
 case round =>
  clear H';obtain ⟨aJ, rfl, HA, HK1, HB⟩ := hrel
  cases gk with
  | zero => exact absurd HA.out (by simp [impl_isPrintable.l0])
  | succ k1 =>
   have H := HA.out;clear HA;simp only [impl_isPrintable.l0] at H;by_cases c2 : aJ < (a0.size : Int)
   ·
    rw [if_pos c2] at H;have c2b0 := dt c2;clear c2;by_cases c3 : 0 ≤ aJ
    ·
     rw [if_pos c3] at H;have c3b0 := dt c3;clear c3;by_cases c5 : (bt a0 aJ) < 32
     · rw [if_pos c5] at H;have c5b0 := dt c5;clear c5;obtain rfl := ojz H;have p4 : 0 ≤ (aJ : Int) := od au106;have q4 : aJ < (a0.size : Int) := od au106;have hx4 := bt_at a0 aJ;replace p4 := eq_true p4;replace q4 := eq_true q4;go_wp2;go_ret;exact ax1
     ·
      rw [if_neg c5] at H;have c5b0 := df c5;clear c5;by_cases c7 : (bt a0 aJ) > 126
      · rw [if_pos c7] at H;have c7b0 := dt c7;clear c7;obtain rfl := ojz H;have p4 : 0 ≤ (aJ : Int) := od au106;have q4 : aJ < (a0.size : Int) := od au106;have hx4 := bt_at a0 aJ;replace p4 := eq_true p4;replace q4 := eq_true q4;have p6 : 0 ≤ (aJ : Int) := od au106;have q6 : aJ < (a0.size : Int) := od au106;have uD := bt_at a0 aJ;replace p6 := eq_true p6;replace q6 := eq_true q6;go_wp2;go_ret;exact ax1
      ·
       rw [if_neg c7] at H;have c7b0 := df c7;clear c7;have H' := am H;clear H;have p4 : 0 ≤ (aJ : Int) := od au106;have q4 : aJ < (a0.size : Int) := od au106;have hx4 := bt_at a0 aJ;replace p4 := eq_true p4;replace q4 := eq_true q4;have p6 : 0 ≤ (aJ : Int) := od au106;have q6 : aJ < (a0.size : Int) := od au106;have uD := bt_at a0 aJ;replace p6 := eq_true p6;replace q6 := eq_true q6;go_wp2
       go_roundg k1
       case measure => have := HK1.out; omega
       case rel => exact ⟨(wrap64 (aJ + 1)), au107, H', ⟨by have := HK1.out; omega⟩, ⟨by repeat (first | (with_reducible first | exact HB.out | apply below_alloc | apply pw_below_drewN | apply below_drew1) | exact HB.out)⟩⟩
    · rw [if_neg c3] at H;exact absurd H (by simp)
   ·
    rw [if_neg c2] at H;have c2b0 := df c2;clear c2;replace H := ob H;obtain ⟨Qk, jT, H⟩ := H
    try dsimp only at H
    have A8 := am jT;clear jT;obtain rfl := ojz H;go_wp2_with (first | ((with_reducible refine gate_callee (f := 71) rfl ?_); refine goesL_ (some 21) rfl rfl Tryz.func71 (by kernel_rfl) rfl #[.string a0, .string (⟨#[32]⟩ : ByteArray)] rfl au50 ?_; (with_reducible refine (strings_Trim.calls k1 a0 (⟨#[32]⟩ : ByteArray) Qk _ A8.out).mono ?_); rintro e w9 ⟨rfl, hb⟩; refine ⟨_, rfl, ?_⟩; replace HB := am (below_step au51 hb); (try clear hb)));go_ret;exact ax1
def impl_isText.f (k : Nat) (a0 : ByteArray) : Option (Bool) := if (a0.size : Int) ≤ 40 then ((impl_isPrintable.f k a0).bind fun Hi => (some Hi)) else (some false)
theorem impl_isText.mono : ∀ a0 k, LeO (impl_isText.f k a0) (impl_isText.f (k + 1) a0) := by
 intro a0 k;unfold impl_isText.f
 repeat' first
   | (with_reducible exact impl_isPrintable.mono _ _)
   | (with_reducible exact LeO.refl _)
   | (with_reducible exact LeO.none _)
   | (with_reducible refine LeO.ite ?_ ?_)
   | (with_reducible refine LeO.bind ?_ (fun _ => ?_))
   | exact impl_isPrintable.mono _ _
   | exact LeO.none _
   | refine LeO.ite ?_ ?_
   | refine LeO.bind ?_ (fun _ => ?_)
set_option maxHeartbeats 8000000 in
set_option maxRecDepth 100000 in
theorem impl_isText.calls (k : Nat) (a0 : ByteArray) (r : Bool) (w : World) (h : impl_isText.f k a0 = some r) :
  Calls Tryz.prog 40 #[.string a0] w fun e w' => e = .returned (.bool r) ∧ Below w.heap.size w w' := by
 have HB := am (Below.refl w.heap.size w);have H : (if (a0.size : Int) ≤ 40 then ((impl_isPrintable.f k a0).bind fun Hi => (some Hi)) else (some false)) = some r := h;clear h;by_cases c2 : (a0.size : Int) ≤ 40
 ·
  rw [if_pos c2] at H;have c2b0 := dt c2;have c2b1 : decide (a0.size ≤ 40) = true := dt (by omega);clear c2;replace H := ob H;obtain ⟨Hi, d6, H⟩ := H
  try dsimp only at H
  have A3 := am d6;clear d6;obtain rfl := ojz H;go_enter Tryz.func40, Tryz.ntmps40;go_wp2_with (first | (go_at_call 56; (with_reducible refine (impl_isPrintable.calls k a0 Hi _ A3.out).mono ?_); rintro e w4 ⟨rfl, hb⟩; replace HB := am (below_step au51 hb); (try clear hb)));go_ret;exact ax1
 · rw [if_neg c2] at H;have c2b0 := df c2;have c2b1 : decide (a0.size ≤ 40) = false := df (by omega);clear c2;obtain rfl := ojz H;go_enter Tryz.func40, Tryz.ntmps40;go_wp2;go_ret;exact ax1
def impl_IsValidEntry.j0 : Nat → Bool → ByteArray → Int → List (S62) → List (S62) → ByteArray → ByteArray → ByteArray → Int → Int → Int → Bool → Int → ByteArray → ByteArray → Option (Bool)
 | 0, _, _, _, _, _, _, _, _, _, _, _, _, _, _, _ => none
 | k + 1, x36, US, aeD, aeE, aeF, UT, UU, UV, aeG, aeH, aeI, aeJ, aeK, UW, CZ => if x36 = true then (some false) else ((impl_isText.f k UT).bind fun Ql => (if Ql = true then ((impl_isText.f k UU).bind fun Qm => (if Qm = true then ((impl_isText.f k UV).bind fun Qn => (if Qn = true then ((impl_isText.f k UW).bind fun Qo => (if Qo = true then (if CZ.toList = ([] : List UInt8) then (some true) else ((impl_isKey.f k CZ).bind fun Qp => (if Qp = true then (some (CZ.toList != US.toList)) else (some false)))) else (some false))) else (some false))) else (some false))) else (some false)))
def impl_IsValidEntry.f (k : Nat) (ab : ByteArray) (aa : Int) (ai : List (S62)) (aj : List (S62)) (ak : ByteArray) (an : ByteArray) (ap : ByteArray) (ar : Int) (av : Int) (aw : Int) (af : Bool) (ac : Int) (ae : ByteArray) (ag : ByteArray) : Option (Bool) := (impl_isKey.f k ab).bind fun Hj => (if Hj = true then ((impl_isKind.f aa).bind fun Hk => (if Hk = true then ((impl_areNames.f k ai).bind fun Hl => (if Hl = true then ((impl_areNames.f k aj).bind fun Hm => (if Hm = true then ((impl_IsValidDate.f k ar av aw af).bind fun Hn => (if Hn = true then ((impl_inside.f ac 0 9999).bind fun D1 => (impl_IsValidEntry.j0 k (!D1) ab aa ai aj ak an ap ar av aw af ac ae ag)) else (impl_IsValidEntry.j0 k true ab aa ai aj ak an ap ar av aw af ac ae ag))) else (impl_IsValidEntry.j0 k true ab aa ai aj ak an ap ar av aw af ac ae ag))) else (impl_IsValidEntry.j0 k true ab aa ai aj ak an ap ar av aw af ac ae ag))) else (impl_IsValidEntry.j0 k true ab aa ai aj ak an ap ar av aw af ac ae ag))) else (impl_IsValidEntry.j0 k true ab aa ai aj ak an ap ar av aw af ac ae ag))
theorem impl_IsValidEntry.mono_l : ∀ k, (∀ y0 y1 y2 y3 y4 y5 y6 y7 y8 y9 dZ e7 e8 e9 ea, LeO (impl_IsValidEntry.j0 k y0 y1 y2 y3 y4 y5 y6 y7 y8 y9 dZ e7 e8 e9 ea) (impl_IsValidEntry.j0 (k + 1) y0 y1 y2 y3 y4 y5 y6 y7 y8 y9 dZ e7 e8 e9 ea))
 | 0 => fun _ _ _ _ _ _ _ _ _ _ _ _ _ _ _ r h => by simp [impl_IsValidEntry.j0] at h
 | k + 1 => by
  have ih0 := impl_IsValidEntry.mono_l k
  ·
   intro y0 y1 y2 y3 y4 y5 y6 y7 y8 y9 dZ e7 e8 e9 ea;unfold impl_IsValidEntry.j0
   repeat' first
   | (with_reducible exact ih0 _ _ _ _ _ _ _ _ _ _ _ _ _ _ _)
   | (with_reducible exact impl_IsValidDate.mono _ _ _ _ _)
   | (with_reducible exact impl_areNames.mono _ _)
   | (with_reducible exact impl_isKey.mono _ _)
   | (with_reducible exact impl_isText.mono _ _)
   | (with_reducible exact LeO.refl _)
   | (with_reducible exact LeO.none _)
   | (with_reducible refine LeO.ite ?_ ?_)
   | (with_reducible refine LeO.bind ?_ (fun _ => ?_))
   | exact ih0 _ _ _ _ _ _ _ _ _ _ _ _ _ _ _
   | exact impl_IsValidDate.mono _ _ _ _ _
   | exact impl_areNames.mono _ _
   | exact impl_isKey.mono _ _
   | exact impl_isText.mono _ _
   | exact LeO.none _
   | refine LeO.ite ?_ ?_
   | refine LeO.bind ?_ (fun _ => ?_)
theorem impl_IsValidEntry.mono : ∀ a0 a1 a2 a3 a4 a5 a6 a7 a8 a9 cP cQ cR cS k, LeO (impl_IsValidEntry.f k a0 a1 a2 a3 a4 a5 a6 a7 a8 a9 cP cQ cR cS) (impl_IsValidEntry.f (k + 1) a0 a1 a2 a3 a4 a5 a6 a7 a8 a9 cP cQ cR cS) := by
 intro a0 a1 a2 a3 a4 a5 a6 a7 a8 a9 cP cQ cR cS k;have ih0 := impl_IsValidEntry.mono_l k;unfold impl_IsValidEntry.f
 repeat' first
   | (with_reducible exact ih0 _ _ _ _ _ _ _ _ _ _ _ _ _ _ _)
   | (with_reducible exact impl_IsValidDate.mono _ _ _ _ _)
   | (with_reducible exact impl_areNames.mono _ _)
   | (with_reducible exact impl_isKey.mono _ _)
   | (with_reducible exact impl_isText.mono _ _)
   | (with_reducible exact LeO.refl _)
   | (with_reducible exact LeO.none _)
   | (with_reducible refine LeO.ite ?_ ?_)
   | (with_reducible refine LeO.bind ?_ (fun _ => ?_))
   | exact ih0 _ _ _ _ _ _ _ _ _ _ _ _ _ _ _
   | exact impl_IsValidDate.mono _ _ _ _ _
   | exact impl_areNames.mono _ _
   | exact impl_isKey.mono _ _
   | exact impl_isText.mono _ _
   | exact LeO.none _
   | refine LeO.ite ?_ ?_
   | refine LeO.bind ?_ (fun _ => ?_)
set_option maxRecDepth 100000 in
theorem impl_IsValidEntry.L0 {P : Prop} (h : P := by
  go_wp2_with (first | ((with_reducible refine gate_callee (f := 35) rfl ?_); refine goesL_ (some 5) rfl rfl Tryz.func35 (by kernel_rfl) rfl #[.string ab] rfl au50 ?_; (with_reducible refine (impl_isKey.calls k ab _ _ A4.out).mono ?_); rintro e w' ⟨rfl, ⟨nd, rfl⟩⟩; refine ⟨_, rfl, ?_⟩) | (go_at_call 36; (with_reducible refine (impl_isKind.calls aa _ _ A6.out).mono ?_); rintro e w' ⟨rfl, ⟨nd, rfl⟩⟩) | (go_at_call 37; (with_reducible refine (impl_areNames.calls (hG := au12) k _ _ ai _ _ ?ax ?ay A8.out).mono ?_); (case ax => repeat (first | exact (Kd.C_below ck.out au38) | (with_reducible refine Kd.C_alloc ?_ _) | (with_reducible refine Kd.C_drewN ?_ _) | (with_reducible refine Kd.C_drew ?_))); (case ay => exact cn.out); rintro e O1 ⟨rfl, hb⟩; replace bN := am (blk_below (g := dV) au68 hb); replace HB := am (below_step au38 hb); (try clear hb); obtain ⟨ft, fu, fv, fw, iL, iO, iP, iQ, iR, iT, gE, gF, gG, gH, fx, fy, fz, fA, iU, iV, iW, iX, iZ, j3, gI, gJ, gK, gL⟩ := blkc14 bN.out) | (go_at_call 37; (with_reducible refine (impl_areNames.calls (hG := au12) k _ _ aj _ _ ?ax ?ay gB.out).mono ?_); (case ax => repeat (first | exact (Kd.C_below cz.out HB.out) | (with_reducible refine Kd.C_alloc ?_ _) | (with_reducible refine Kd.C_drewN ?_ _) | (with_reducible refine Kd.C_drew ?_))); (case ay => exact cA.out); rintro e K3 ⟨rfl, hb⟩; replace bN := am (blk_below (g := dV) au68 hb); replace HB := am (below_step au38 hb); (try clear hb); obtain ⟨rq, rr, rt, ru, KC, KD, KE, KF, KG, KH, H4, H5, H6, H7, rv, rx, ry, rz, KI, KJ, KL, KM, KN, KO, H8, H9, Ha, Hb⟩ := blkc14 bN.out) | (go_at_call 38; (with_reducible refine (impl_IsValidDate.calls k ar av aw af _ _ pZ.out).mono ?_); rintro e w20 ⟨rfl, hb⟩; replace bN := am (blk_below (g := dV) au68 hb); replace HB := am (below_step au38 hb); (try clear hb); obtain ⟨sT, sU, sV, sW, D2, D3, D4, D5, D6, D7, yZ, z1, z6, z7, sX, sZ, t6, t7, D8, D9, Da, Db, Dc, Dd, z8, za, zb, zc⟩ := blkc14 bN.out) | (go_at_call 39; (with_reducible refine (impl_inside.calls ac 0 9999 D1 _ xG.out).mono ?_); rintro e w' ⟨rfl, ⟨nd, rfl⟩⟩));go_meet
  case rel => first | (exact ⟨_, (!D1), au107, H', ⟨by first | omega | exact Nat.le_refl _⟩, ⟨by (with_reducible repeat (first | refine blk_drewN ?_ _ | refine blk_drew ?_ | refine blk_alloc ?_ _)); exact bN.out⟩, ⟨by repeat (first | (with_reducible first | exact HB.out | apply below_alloc | apply pw_below_drewN | apply below_drew1 | refine below_set ?_ tv.out) | exact HB.out)⟩⟩) | (exact ⟨_, (true), au107, H', ⟨by first | omega | exact Nat.le_refl _⟩, ⟨by (with_reducible repeat (first | refine blk_drewN ?_ _ | refine blk_drew ?_ | refine blk_alloc ?_ _)); exact bN.out⟩, ⟨by repeat (first | (with_reducible first | exact HB.out | apply below_alloc | apply pw_below_drewN | apply below_drew1 | refine below_set ?_ tv.out) | exact HB.out)⟩⟩)) : P := h
set_option maxRecDepth 100000 in
theorem impl_IsValidEntry.L1 {P : Prop} (h : P := by
  go_wp2_with (first | ((with_reducible refine gate_callee (f := 40) rfl ?_); refine goesL_ (some 39) rfl rfl Tryz.func40 (by kernel_rfl) rfl #[.string ak] rfl au50 ?_; (with_reducible refine (impl_isText.calls dT ak _ _ GV.out).mono ?_); rintro e w58 ⟨rfl, hb⟩; refine ⟨_, rfl, ?_⟩; replace bN := am (blk_below (g := dV) au68 hb); replace HB := am (below_step au38 hb); (try clear hb); obtain ⟨aeL, aeM, aeN, aeO, aeP, aeQ, aeR, aeS, aeT, aeU, a5o, a5p, a5q, a5r, aeV, aeW, aeX, aeY, aeZ, af0, af1, af2, af3, af4, a5s, a5t, a5u, a5v⟩ := blkc14 bN.out) | (go_at_call 40; (with_reducible refine (impl_isText.calls dT an _ _ RY.out).mono ?_); rintro e w60 ⟨rfl, hb⟩; replace bN := am (blk_below (g := dV) au68 hb); replace HB := am (below_step au38 hb); (try clear hb); obtain ⟨Ut, Uu, Uv, Uw, Ux, Uy, Uz, UA, UB, UC, PZ, Q0, Q1, Q2, UD, UE, UF, UG, UH, UI, UJ, UK, UL, UM, Q3, Q4, Q5, Q6⟩ := blkc14 bN.out) | (go_at_call 40; (with_reducible refine (impl_isText.calls dT ap _ _ O0.out).mono ?_); rintro e w62 ⟨rfl, hb⟩; replace bN := am (blk_below (g := dV) au68 hb); replace HB := am (below_step au38 hb); (try clear hb); obtain ⟨T7, Ta, Tb, Tc, Td, Te, Tf, Tg, Ti, Tj, Pm, Pn, Po, Pp, Tk, Tl, Tm, Tn, To, Tp, Tq, Tr, Ts, Tt, Pq, Pr, Ps, Pt⟩ := blkc14 bN.out) | (go_at_call 40; (with_reducible refine (impl_isText.calls dT ae _ _ A43.out).mono ?_); rintro e w64 ⟨rfl, hb⟩; replace bN := am (blk_below (g := dV) au68 hb); replace HB := am (below_step au38 hb); (try clear hb); obtain ⟨af5, af6, af7, af8, af9, afa, afb, afc, afd, afe, a5w, a5x, a5y, a5z, aff, afg, afh, afi, afj, afk, afl, afm, afn, afo, a5A, a5B, a5C, a5D⟩ := blkc14 bN.out) | (go_at_call 35; (with_reducible refine (impl_isKey.calls dT ag _ _ A55.out).mono ?_); rintro e w' ⟨rfl, ⟨nd, rfl⟩⟩));go_ret
  exact ax8) : P := h
set_option maxHeartbeats 8000000 in
set_option maxRecDepth 100000 in
theorem impl_IsValidEntry.calls (k : Nat) (ab : ByteArray) (aa : Int) (bj : Option Addr) (bl : Nat) (ai : List (S62)) (bm : Option Addr) (bn : Nat) (aj : List (S62)) (ak : ByteArray) (an : ByteArray) (ap : ByteArray) (ar : Int) (av : Int) (aw : Int) (af : Bool) (ac : Int) (ae : ByteArray) (ag : ByteArray) (r : Bool) (w : World) {gF1 gF2 gF3 : Bool} (hG : GL gF1 gF2 gF3 w) (cV : Kd.C k62 w bj ai.length ai) (cL : ai.length ≤ bl) (cW : Kd.C k62 w bm aj.length aj) (cM : aj.length ≤ bn) (h : impl_IsValidEntry.f k ab aa ai aj ak an ap ar av aw af ac ae ag = some r) :
  Calls Tryz.prog 19 #[.agg #[.string ab, .int .i64 aa, .slice bj ai.length bl, .slice bm aj.length bn, .string ak, .string an, .string ap, .int .i64 ar, .int .i64 av, .int .i64 aw, .bool af, .int .i64 ac, .string ae, .string ag]] w fun e w' => e = .returned (.bool r) ∧ Below w.heap.size w w' := by
 have HG := am hG;clear hG;have hu34 := Tryz.underlying34;have hu32 := Tryz.underlying32;have ck := am cV;have cn := am cL;clear cV cL;have cz := am cW;have cA := am cM;clear cW cM;have HB := am (Below.refl w.heap.size w);have H : ((impl_isKey.f k ab).bind fun Hj => (if Hj = true then ((impl_isKind.f aa).bind fun Hk => (if Hk = true then ((impl_areNames.f k ai).bind fun Hl => (if Hl = true then ((impl_areNames.f k aj).bind fun Hm => (if Hm = true then ((impl_IsValidDate.f k ar av aw af).bind fun Hn => (if Hn = true then ((impl_inside.f ac 0 9999).bind fun D1 => (impl_IsValidEntry.j0 k (!D1) ab aa ai aj ak an ap ar av aw af ac ae ag)) else (impl_IsValidEntry.j0 k true ab aa ai aj ak an ap ar av aw af ac ae ag))) else (impl_IsValidEntry.j0 k true ab aa ai aj ak an ap ar av aw af ac ae ag))) else (impl_IsValidEntry.j0 k true ab aa ai aj ak an ap ar av aw af ac ae ag))) else (impl_IsValidEntry.j0 k true ab aa ai aj ak an ap ar av aw af ac ae ag))) else (impl_IsValidEntry.j0 k true ab aa ai aj ak an ap ar av aw af ac ae ag))) = some r := h;clear h;have eV := am H;clear H;go_enter Tryz.func19, Tryz.ntmps19
 go_upto_region 1 with (first | ((with_reducible refine gate_dst (N := 1) rfl ?_); refine box_event ?hg (N := 1) ?hd (cs := #[.string ab, .int .i64 aa, .slice bj ai.length bl, .slice bm aj.length bn, .string ak, .string an, .string ap, .int .i64 ar, .int .i64 av, .int .i64 aw, .bool af, .int .i64 ac, .string ae, .string ag]) (t := 34) ?hr ?_; (case hd => rfl); (case hg => rfl); (case hr => first | (go_simp; done) | (go_simp; rfl)); intro dV hg w3 hbox hb; have bN := am (hbox); have aml := am (bsz hg au51); have tv := am (bsz hg au51); replace HB := am (below_step au51 hb); clear hb hbox hg))
 (try simp only [Act.put, List.setIfInBounds_toArray, List.set_cons_zero, List.set_cons_succ])
 go_cut [36] (fun v36 wc => ∃ (kq : Nat) (FB : Bool), v36 = .bool FB ∧ Aside0 (impl_IsValidEntry.j0 kq FB ab aa ai aj ak an ap ar av aw af ac ae ag = some r) ∧ Aside0 (kq ≤ k) ∧ Aside0 (wc.heap[dV]? = some (.cells #[.string ab, .int .i64 aa, (.slice bj ai.length bl), (.slice bm aj.length bn), .string ak, .string an, .string ap, .int .i64 ar, .int .i64 av, .int .i64 aw, .bool af, .int .i64 ac, .string ae, .string ag] 34 (0, 0))) ∧ Aside0 (Below w.heap.size w wc))
 case first =>
  have H := eV.out;clear eV;replace H := ob H;obtain ⟨Hj, i8, H⟩ := H
  try dsimp only at H
  have A4 := am i8;clear i8;by_cases c5 : Hj = true
  ·
   subst c5;replace H := (if_pos rfl).symm.trans H;replace H := ob H;obtain ⟨Hk, fF, H⟩ := H
   try dsimp only at H
   have A6 := am fF;clear fF;by_cases c7 : Hk = true
   ·
    subst c7;replace H := (if_pos rfl).symm.trans H;replace H := ob H;obtain ⟨Hl, jT, H⟩ := H
    try dsimp only at H
    have A8 := am jT;clear jT;by_cases c9 : Hl = true
    ·
     subst c9;replace H := (if_pos rfl).symm.trans H;replace H := ob H;obtain ⟨Hm, er, H⟩ := H
     try dsimp only at H
     have gB := am er;clear er;by_cases bH : Hm = true
     ·
      subst bH;replace H := (if_pos rfl).symm.trans H;replace H := ob H;obtain ⟨Hn, oY, H⟩ := H
      try dsimp only at H
      have pZ := am oY;clear oY;by_cases bW : Hn = true
      ·
       subst bW;replace H := (if_pos rfl).symm.trans H;replace H := ob H;obtain ⟨D1, kW, H⟩ := H
       try dsimp only at H
       have xG := am kW;clear kW;have H' := am H;clear H;obtain ⟨eK, eL, eM, eN, jV, jW, jX, jY, jZ, k0, ie, ig, ii, ij, eO, eP, eQ, eR, k3, k4, k5, k6, k7, k8, ik, il, im, io⟩ := blkc14 bN.out;exact impl_IsValidEntry.L0
      ·
       replace bW := Bool.eq_false_iff.mpr bW;subst bW;replace H := (if_neg (show ¬ (false = true) by decide)).symm.trans H;have H' := am H;clear H;obtain ⟨jJ, jK, jL, jM, qB, qC, qD, qF, qG, qH, oO, oP, oQ, oS, jN, jO, jP, jQ, qI, qJ, qK, qL, qM, qN, oT, oU, oV, oW⟩ := blkc14 bN.out;go_wp2_with (first | ((with_reducible refine gate_callee (f := 35) rfl ?_); refine goesL_ (some 5) rfl rfl Tryz.func35 (by kernel_rfl) rfl #[.string ab] rfl au50 ?_; (with_reducible refine (impl_isKey.calls k ab _ _ A4.out).mono ?_); rintro e w' ⟨rfl, ⟨nd, rfl⟩⟩; refine ⟨_, rfl, ?_⟩) | (go_at_call 36; (with_reducible refine (impl_isKind.calls aa _ _ A6.out).mono ?_); rintro e w' ⟨rfl, ⟨nd, rfl⟩⟩) | (go_at_call 37; (with_reducible refine (impl_areNames.calls (hG := au12) k _ _ ai _ _ ?ax ?ay A8.out).mono ?_); (case ax => repeat (first | exact (Kd.C_below ck.out au38) | (with_reducible refine Kd.C_alloc ?_ _) | (with_reducible refine Kd.C_drewN ?_ _) | (with_reducible refine Kd.C_drew ?_))); (case ay => exact cn.out); rintro e w23 ⟨rfl, hb⟩; replace bN := am (blk_below (g := dV) au68 hb); replace HB := am (below_step au38 hb); (try clear hb); obtain ⟨nq, nr, nt, nu, vV, vW, vX, vY, vZ, wa, tx, tz, tA, tB, nv, nw, nx, nz, wb, wd, we, wg, wh, wi, tC, tD, tE, tF⟩ := blkc14 bN.out) | (go_at_call 37; (with_reducible refine (impl_areNames.calls (hG := au12) k _ _ aj _ _ ?ax ?ay gB.out).mono ?_); (case ax => repeat (first | exact (Kd.C_below cz.out HB.out) | (with_reducible refine Kd.C_alloc ?_ _) | (with_reducible refine Kd.C_drewN ?_ _) | (with_reducible refine Kd.C_drew ?_))); (case ay => exact cA.out); rintro e RV ⟨rfl, hb⟩; replace bN := am (blk_below (g := dV) au68 hb); replace HB := am (below_step au38 hb); (try clear hb); obtain ⟨sG, sH, sI, sJ, De, Df, Dg, Dh, Di, Dj, zd, ze, zf, zg, sK, sL, sN, sO, Dk, Dl, Dm, Dn, Dp, Dq, zh, zi, zj, zk⟩ := blkc14 bN.out) | (go_at_call 38; (with_reducible refine (impl_IsValidDate.calls k ar av aw af _ _ pZ.out).mono ?_); rintro e w27 ⟨rfl, hb⟩; replace bN := am (blk_below (g := dV) au68 hb); replace HB := am (below_step au38 hb); (try clear hb)));go_meet
       case rel => exact ⟨_, (true), au107, H', ⟨by first | omega | exact Nat.le_refl _⟩, ⟨by (with_reducible repeat (first | refine blk_drewN ?_ _ | refine blk_drew ?_ | refine blk_alloc ?_ _)); exact bN.out⟩, ⟨by repeat (first | (with_reducible first | exact HB.out | apply below_alloc | apply pw_below_drewN | apply below_drew1 | refine below_set ?_ tv.out) | exact HB.out)⟩⟩
     ·
      replace bH := Bool.eq_false_iff.mpr bH;subst bH;replace H := (if_neg (show ¬ (false = true) by decide)).symm.trans H;have H' := am H;clear H;obtain ⟨qR, qS, qT, qU, ww, wx, wy, wz, wA, wB, tK, tL, tM, tN, qV, qW, qX, qY, wC, wD, wE, wF, wG, wH, tO, tP, tQ, tR⟩ := blkc14 bN.out;go_wp2_with (first | ((with_reducible refine gate_callee (f := 35) rfl ?_); refine goesL_ (some 5) rfl rfl Tryz.func35 (by kernel_rfl) rfl #[.string ab] rfl au50 ?_; (with_reducible refine (impl_isKey.calls k ab _ _ A4.out).mono ?_); rintro e w' ⟨rfl, ⟨nd, rfl⟩⟩; refine ⟨_, rfl, ?_⟩) | (go_at_call 36; (with_reducible refine (impl_isKind.calls aa _ _ A6.out).mono ?_); rintro e w' ⟨rfl, ⟨nd, rfl⟩⟩) | (go_at_call 37; (with_reducible refine (impl_areNames.calls (hG := au12) k _ _ ai _ _ ?ax ?ay A8.out).mono ?_); (case ax => repeat (first | exact (Kd.C_below ck.out au38) | (with_reducible refine Kd.C_alloc ?_ _) | (with_reducible refine Kd.C_drewN ?_ _) | (with_reducible refine Kd.C_drew ?_))); (case ay => exact cn.out); rintro e Rz ⟨rfl, hb⟩; replace bN := am (blk_below (g := dV) au68 hb); replace HB := am (below_step au38 hb); (try clear hb); obtain ⟨lP, lQ, lR, lS, rX, rY, rZ, sa, sb, sc, pt, pu, pv, pw, lT, lU, lV, lW, sd, se, si, sj, sk, sl, px, pz, pA, pB⟩ := blkc14 bN.out) | (go_at_call 37; (with_reducible refine (impl_areNames.calls (hG := au12) k _ _ aj _ _ ?ax ?ay gB.out).mono ?_); (case ax => repeat (first | exact (Kd.C_below cz.out HB.out) | (with_reducible refine Kd.C_alloc ?_ _) | (with_reducible refine Kd.C_drewN ?_ _) | (with_reducible refine Kd.C_drew ?_))); (case ay => exact cA.out); rintro e w31 ⟨rfl, hb⟩; replace bN := am (blk_below (g := dV) au68 hb); replace HB := am (below_step au38 hb); (try clear hb)));go_meet
      case rel => exact ⟨_, (true), au107, H', ⟨by first | omega | exact Nat.le_refl _⟩, ⟨by (with_reducible repeat (first | refine blk_drewN ?_ _ | refine blk_drew ?_ | refine blk_alloc ?_ _)); exact bN.out⟩, ⟨by repeat (first | (with_reducible first | exact HB.out | apply below_alloc | apply pw_below_drewN | apply below_drew1 | refine below_set ?_ tv.out) | exact HB.out)⟩⟩
    ·
     replace c9 := Bool.eq_false_iff.mpr c9;subst c9;replace H := (if_neg (show ¬ (false = true) by decide)).symm.trans H;have H' := am H;clear H;obtain ⟨Cx, Cy, Cz, CB, UX, UY, UZ, V0, V1, V2, Qq, Qr, Qs, Qt, CC, CE, CF, CG, V3, V4, V5, V6, V7, V8, Qu, Qv, Qw, Qx⟩ := blkc14 bN.out;go_wp2_with (first | ((with_reducible refine gate_callee (f := 35) rfl ?_); refine goesL_ (some 5) rfl rfl Tryz.func35 (by kernel_rfl) rfl #[.string ab] rfl au50 ?_; (with_reducible refine (impl_isKey.calls k ab _ _ A4.out).mono ?_); rintro e w' ⟨rfl, ⟨nd, rfl⟩⟩; refine ⟨_, rfl, ?_⟩) | (go_at_call 36; (with_reducible refine (impl_isKind.calls aa _ _ A6.out).mono ?_); rintro e w' ⟨rfl, ⟨nd, rfl⟩⟩) | (go_at_call 37; (with_reducible refine (impl_areNames.calls (hG := au12) k _ _ ai _ _ ?ax ?ay A8.out).mono ?_); (case ax => repeat (first | exact (Kd.C_below ck.out au38) | (with_reducible refine Kd.C_alloc ?_ _) | (with_reducible refine Kd.C_drewN ?_ _) | (with_reducible refine Kd.C_drew ?_))); (case ay => exact cn.out); rintro e Y7 ⟨rfl, hb⟩; replace bN := am (blk_below (g := dV) au68 hb); replace HB := am (below_step au38 hb); (try clear hb)));go_meet
     case rel => exact ⟨_, (true), au107, H', ⟨by first | omega | exact Nat.le_refl _⟩, ⟨by (with_reducible repeat (first | refine blk_drewN ?_ _ | refine blk_drew ?_ | refine blk_alloc ?_ _)); exact bN.out⟩, ⟨by repeat (first | (with_reducible first | exact HB.out | apply below_alloc | apply pw_below_drewN | apply below_drew1 | refine below_set ?_ tv.out) | exact HB.out)⟩⟩
   · replace c7 := Bool.eq_false_iff.mpr c7;subst c7;replace H := (if_neg (show ¬ (false = true) by decide)).symm.trans H;have H' := am H;clear H;obtain ⟨qZ, r0, ra, rb, Dr, Ds, Dt, Du, Dv, Dw, zl, zm, zn, zo, rc, re, rf, rh, Dx, Dy, Dz, DC, DD, DF, zp, zq, zs, zt⟩ := blkc14 bN.out;exact impl_IsValidEntry.L0
  · replace c5 := Bool.eq_false_iff.mpr c5;subst c5;replace H := (if_neg (show ¬ (false = true) by decide)).symm.trans H;have H' := am H;clear H;obtain ⟨KT, KU, KV, KW, KX, KY, KZ, L3, L4, L5, Ho, Hp, Hq, Hr, L6, L8, L9, La, Lb, Lc, Ld, Le, Lf, Lg, Hs, Ht, Hu, Hv⟩ := blkc14 bN.out;exact impl_IsValidEntry.L0
 case rest =>
  clear eV
  try clear c1
  try clear p2
  try clear c3
  try clear c5
  try clear c7
  try clear c9
  try clear bH
  try clear bW
  try clear dp
  try clear xF
  try clear eK eL ie ig ii ij eM eN jV jW jX jY jZ k0 eO eP ik il im io eQ eR k3 k4 k5 k6 k7 k8
  try clear ft fu gE gF gG gH fv fw iL iO iP iQ iR iT fx fy gI gJ gK gL fz fA iU iV iW iX iZ j3
  try clear rq rr H4 H5 H6 H7 rt ru KC KD KE KF KG KH rv rx H8 H9 Ha Hb ry rz KI KJ KL KM KN KO
  try clear sT sU yZ z1 z6 z7 sV sW D2 D3 D4 D5 D6 D7 sX sZ z8 za zb zc t6 t7 D8 D9 Da Db Dc Dd
  try clear jJ jK oO oP oQ oS jL jM qB qC qD qF qG qH jN jO oT oU oV oW jP jQ qI qJ qK qL qM qN
  try clear nq nr tx tz tA tB nt nu vV vW vX vY vZ wa nv nw tC tD tE tF nx nz wb wd we wg wh wi
  try clear sG sH zd ze zf zg sI sJ De Df Dg Dh Di Dj sK sL zh zi zj zk sN sO Dk Dl Dm Dn Dp Dq
  try clear qR qS tK tL tM tN qT qU ww wx wy wz wA wB qV qW tO tP tQ tR qX qY wC wD wE wF wG wH
  try clear lP lQ pt pu pv pw lR lS rX rY rZ sa sb sc lT lU px pz pA pB lV lW sd se si sj sk sl
  try clear Cx Cy Qq Qr Qs Qt Cz CB UX UY UZ V0 V1 V2 CC CE Qu Qv Qw Qx CF CG V3 V4 V5 V6 V7 V8
  try clear qZ r0 zl zm zn zo ra rb Dr Ds Dt Du Dv Dw rc re zp zq zs zt rf rh Dx Dy Dz DC DD DF
  try clear KT KU Ho Hp Hq Hr KV KW KX KY KZ L3 L4 L5 L6 L8 Hs Ht Hu Hv L9 La Lb Lc Ld Le Lf Lg
  obtain ⟨kq, FB, rfl, HA, eW, bN, HB⟩ := hcut
  cases kq with
  | zero => exact absurd HA.out (by simp [impl_IsValidEntry.j0])
  | succ dT =>
   have H := HA.out;clear HA;simp only [impl_IsValidEntry.j0] at H;by_cases Ay : FB = true
   · subst Ay;replace H := (if_pos rfl).symm.trans H;obtain rfl := ojz H;exact impl_IsValidEntry.L1
   ·
    replace Ay := Bool.eq_false_iff.mpr Ay;subst Ay;replace H := (if_neg (show ¬ (false = true) by decide)).symm.trans H;replace H := ob H;obtain ⟨Ql, GU, H⟩ := H
    try dsimp only at H
    have GV := am GU;clear GU;by_cases kI : Ql = true
    ·
     subst kI;replace H := (if_pos rfl).symm.trans H;replace H := ob H;obtain ⟨Qm, Y8, H⟩ := H
     try dsimp only at H
     have RY := am Y8;clear Y8;by_cases RZ : Qm = true
     ·
      subst RZ;replace H := (if_pos rfl).symm.trans H;replace H := ob H;obtain ⟨Qn, GA, H⟩ := H
      try dsimp only at H
      have O0 := am GA;clear GA;by_cases Az : Qn = true
      ·
       subst Az;replace H := (if_pos rfl).symm.trans H;replace H := ob H;obtain ⟨Qo, Y9, H⟩ := H
       try dsimp only at H
       have A43 := am Y9;clear Y9;by_cases qc : Qo = true
       ·
        subst qc;replace H := (if_pos rfl).symm.trans H;by_cases lf : ag.toList = ([] : List UInt8)
        · rw [if_pos lf] at H;have c45b0 := qt lf;have c45b1 := bf lf;clear lf;obtain rfl := ojz H;obtain ⟨Cc, Cd, Ce, Cf, Cg, Ch, Ci, Cj, Ck, Cl, yB, yC, yD, yE, Cm, Cn, Co, Cp, Cq, Cr, Cs, Ct, Cu, Cv, yF, yG, yH, yI⟩ := blkc14 bN.out;exact impl_IsValidEntry.L1
        ·
         rw [if_neg lf] at H;have c45b0 := qf lf;have c45b1 := bu lf;replace H := ob H;obtain ⟨Qp, Ya, H⟩ := H
         try dsimp only at H
         have A55 := am Ya;clear Ya;by_cases S0 : Qp = true
         · subst S0;replace H := (if_pos rfl).symm.trans H;obtain rfl := ojz H;obtain ⟨afp, afq, afr, afs, aft, afu, afv, afw, afx, afy, a5E, a5F, a5G, a5H, afz, afA, afB, afC, afD, afE, afF, afG, afH, afI, a5I, a5J, a5K, a5L⟩ := blkc14 bN.out;exact impl_IsValidEntry.L1
         · replace S0 := Bool.eq_false_iff.mpr S0;subst S0;replace H := (if_neg (show ¬ (false = true) by decide)).symm.trans H;obtain rfl := ojz H;obtain ⟨afJ, afK, afL, afM, afN, afO, afP, afQ, afR, afS, a5M, a5N, a5O, a5P, afT, afU, afV, afW, afX, afY, afZ, ag0, ag1, ag2, a5Q, a5R, a5S, a5T⟩ := blkc14 bN.out;exact impl_IsValidEntry.L1
       · replace qc := Bool.eq_false_iff.mpr qc;subst qc;replace H := (if_neg (show ¬ (false = true) by decide)).symm.trans H;obtain rfl := ojz H;obtain ⟨ag3, ag4, ag5, ag6, ag7, ag8, ag9, aga, agb, agc, a5U, a5V, a5W, a5X, agd, age, agf, agh, agi, agj, agk, agl, agm, agn, a5Y, a5Z, a60, a61⟩ := blkc14 bN.out;go_wp2_with (first | ((with_reducible refine gate_callee (f := 40) rfl ?_); refine goesL_ (some 39) rfl rfl Tryz.func40 (by kernel_rfl) rfl #[.string ak] rfl au50 ?_; (with_reducible refine (impl_isText.calls dT ak _ _ GV.out).mono ?_); rintro e w76 ⟨rfl, hb⟩; refine ⟨_, rfl, ?_⟩; replace bN := am (blk_below (g := dV) au68 hb); replace HB := am (below_step au38 hb); (try clear hb); obtain ⟨V9, Va, Vb, Vd, Ve, Vf, Vg, Vh, Vi, Vj, Qy, Qz, QA, QB, Vk, Vl, Vm, Vn, Vo, Vp, Vq, Vr, Vs, Vt, QC, QD, QE, QF⟩ := blkc14 bN.out) | (go_at_call 40; (with_reducible refine (impl_isText.calls dT an _ _ RY.out).mono ?_); rintro e w78 ⟨rfl, hb⟩; replace bN := am (blk_below (g := dV) au68 hb); replace HB := am (below_step au38 hb); (try clear hb); obtain ⟨Vu, Vv, Vw, Vx, Vy, Vz, VA, VB, VC, VD, QG, QH, QI, QJ, VE, VF, VG, VH, VI, VJ, VK, VL, VM, VN, QK, QL, QM, QN⟩ := blkc14 bN.out) | (go_at_call 40; (with_reducible refine (impl_isText.calls dT ap _ _ O0.out).mono ?_); rintro e w80 ⟨rfl, hb⟩; replace bN := am (blk_below (g := dV) au68 hb); replace HB := am (below_step au38 hb); (try clear hb); obtain ⟨ago, agp, agq, agr, ags, agt, agu, agv, agw, agx, a62, a63, a64, a65, agy, agz, agA, agB, agC, agD, agE, agF, agG, agH, a66, a67, a68, a69⟩ := blkc14 bN.out) | (go_at_call 40; (with_reducible refine (impl_isText.calls dT ae _ _ A43.out).mono ?_); rintro e w82 ⟨rfl, hb⟩; replace bN := am (blk_below (g := dV) au68 hb); replace HB := am (below_step au38 hb); (try clear hb)));go_ret;exact ax8
      · replace Az := Bool.eq_false_iff.mpr Az;subst Az;replace H := (if_neg (show ¬ (false = true) by decide)).symm.trans H;obtain rfl := ojz H;obtain ⟨VO, VP, VQ, VR, VS, VT, VU, VV, VW, VX, QO, QP, QQ, QR, VY, VZ, W0, W3, W4, W5, W6, W7, W8, W9, QS, QT, QU, QV⟩ := blkc14 bN.out;go_wp2_with (first | ((with_reducible refine gate_callee (f := 40) rfl ?_); refine goesL_ (some 39) rfl rfl Tryz.func40 (by kernel_rfl) rfl #[.string ak] rfl au50 ?_; (with_reducible refine (impl_isText.calls dT ak _ _ GV.out).mono ?_); rintro e w84 ⟨rfl, hb⟩; refine ⟨_, rfl, ?_⟩; replace bN := am (blk_below (g := dV) au68 hb); replace HB := am (below_step au38 hb); (try clear hb); obtain ⟨agI, agJ, agK, agL, agM, agN, agO, agP, agQ, agR, a6a, a6b, a6c, a6d, agS, agT, agU, agV, agW, agX, agY, agZ, ah0, ah1, a6e, a6f, a6g, a6h⟩ := blkc14 bN.out) | (go_at_call 40; (with_reducible refine (impl_isText.calls dT an _ _ RY.out).mono ?_); rintro e w86 ⟨rfl, hb⟩; replace bN := am (blk_below (g := dV) au68 hb); replace HB := am (below_step au38 hb); (try clear hb); obtain ⟨ah2, ah3, ah4, ah5, ah6, ah7, ah8, ah9, aha, ahb, a6i, a6j, a6k, a6l, ahc, ahe, ahf, ahg, ahh, ahi, ahj, ahk, ahl, ahm, a6m, a6n, a6o, a6p⟩ := blkc14 bN.out) | (go_at_call 40; (with_reducible refine (impl_isText.calls dT ap _ _ O0.out).mono ?_); rintro e w88 ⟨rfl, hb⟩; replace bN := am (blk_below (g := dV) au68 hb); replace HB := am (below_step au38 hb); (try clear hb)));go_ret;exact ax8
     · replace RZ := Bool.eq_false_iff.mpr RZ;subst RZ;replace H := (if_neg (show ¬ (false = true) by decide)).symm.trans H;obtain rfl := ojz H;obtain ⟨DG, DI, DJ, DK, DL, DN, DR, DT, DU, DV, zu, zv, zw, zx, DW, DX, DY, DZ, E0, E1, E2, E3, E4, E5, zy, zz, zA, zB⟩ := blkc14 bN.out;go_wp2_with (first | ((with_reducible refine gate_callee (f := 40) rfl ?_); refine goesL_ (some 39) rfl rfl Tryz.func40 (by kernel_rfl) rfl #[.string ak] rfl au50 ?_; (with_reducible refine (impl_isText.calls dT ak _ _ GV.out).mono ?_); rintro e w90 ⟨rfl, hb⟩; refine ⟨_, rfl, ?_⟩; replace bN := am (blk_below (g := dV) au68 hb); replace HB := am (below_step au38 hb); (try clear hb); obtain ⟨ahn, aho, ahp, ahq, ahr, ahs, aht, ahu, ahv, ahw, a6q, a6r, a6s, a6t, ahx, ahy, ahz, ahA, ahB, ahC, ahD, ahE, ahF, ahG, a6u, a6v, a6w, a6x⟩ := blkc14 bN.out) | (go_at_call 40; (with_reducible refine (impl_isText.calls dT an _ _ RY.out).mono ?_); rintro e w92 ⟨rfl, hb⟩; replace bN := am (blk_below (g := dV) au68 hb); replace HB := am (below_step au38 hb); (try clear hb)));go_ret;exact ax8
    · replace kI := Bool.eq_false_iff.mpr kI;subst kI;replace H := (if_neg (show ¬ (false = true) by decide)).symm.trans H;obtain rfl := ojz H;obtain ⟨E6, E7, E8, E9, Ea, Eb, Ec, Ed, Ee, Ef, zC, zE, zF, zG, Eg, Eh, Ei, Ej, Ek, El, Em, En, Eo, Ep, zH, zI, zJ, zK⟩ := blkc14 bN.out;go_wp2_with (first | ((with_reducible refine gate_callee (f := 40) rfl ?_); refine goesL_ (some 39) rfl rfl Tryz.func40 (by kernel_rfl) rfl #[.string ak] rfl au50 ?_; (with_reducible refine (impl_isText.calls dT ak _ _ GV.out).mono ?_); rintro e w94 ⟨rfl, hb⟩; refine ⟨_, rfl, ?_⟩; replace bN := am (blk_below (g := dV) au68 hb); replace HB := am (below_step au38 hb); (try clear hb)));go_ret;exact ax8
def strings_Join.f (l0 : List ByteArray) (a1 : ByteArray) : Option ByteArray :=
 if l0.length ≤ 140737488355328 ∧ (Lib.join (l0.map (·.data.toList)) a1.data.toList).length ≤ 140737488355328 then some ⟨(Lib.join (l0.map (·.data.toList)) a1.data.toList).toArray⟩ else none
theorem strings_Join.calls (A0 : Option Addr) (c0 : Nat) (l0 : List ByteArray) (a1 : ByteArray) (r : ByteArray) (w : World) (dn : Kd.C Kd.string w A0 l0.length l0) (d5 : l0.length ≤ c0) (h : strings_Join.f l0 a1 = some r) :
  Calls Tryz.prog 73 #[.slice A0 l0.length c0, .string a1] w fun e w' => e = .returned (.string r) ∧ Below w.heap.size w w' := by
 unfold strings_Join.f at h;by_cases hg : l0.length ≤ 140737488355328 ∧ (Lib.join (l0.map (·.data.toList)) a1.data.toList).length ≤ 140737488355328
 ·
  rw [if_pos hg] at h;obtain rfl := ojz h
  cases l0 with
  | nil =>
   refine (Tryz.strings_Join_none A0 c0 a1 w).mono ?_;rintro e w' ⟨rfl, rfl⟩;exact ⟨rfl, Below.refl _ _⟩
  | cons x xs =>
   obtain ⟨b, o, rfl, hb, hcell⟩ := Go.Proofs.YthfbogcpjfledaaGreatDoor.Ext.strs_read dn (by simp);refine (Tryz.strings_Join b o c0 (x :: xs) a1 w hcell hb hg.1 d5 hg.2).mono ?_;rintro e w' ⟨rfl, hb⟩;exact ⟨rfl, hb⟩
 · rw [if_neg hg] at h; cases h
def impl_spaced.f (l0 : List ByteArray) : Option ByteArray := if 1 ≤ l0.length ∧ l0.length ≤ 1000 then strings_Join.f (l0.filter fun x => !decide (x.size = 0)) (⟨#[32]⟩ : ByteArray) else none
theorem impl_spaced.pred (x : ByteArray) (W : World) : FnGives Tryz.prog 100 #[] #[Value.string x] (.bool (decide (x.size = 0))) W := by
 show Calls Tryz.prog 100 #[.string x] W _
 have e : (x.toList == ([] : List UInt8)) = decide (x.size = 0) := by
  rw [Lib.toList_data, Lib.size_eq]
  cases x.data.toList <;> simp
 go_enter Tryz.func100, Tryz.ntmps100;go_wp2
 all_goals (go_ret; exact ⟨by first | (rw [← e]; rfl) | simp_all, 0, rfl⟩)
set_option maxHeartbeats 8000000 in
set_option maxRecDepth 100000 in
theorem impl_spaced.calls (P0_ : Nat → Prop) (u0 : Value) (l0 : List ByteArray) (r : ByteArray) (w0 w : World) (hB : Below w0.heap.size w0 w) (ho0 : Kd.R Kd.string 9 w w0.heap.size P0_ u0 l0) (h : impl_spaced.f l0 = some r) :
  Calls Tryz.prog 89 #[u0] w fun e w' => e = .returned (.string r) ∧ Below w0.heap.size w0 w' ∧ Kept w w' (fun k_ => P0_ k_) := by
 unfold impl_spaced.f at h;by_cases hg : 1 ≤ l0.length ∧ l0.length ≤ 1000
 ·
  rw [if_pos hg] at h;have hok := ho0.1;obtain ⟨_, hcase⟩ := Kd.own_of_R ho0
  rcases hcase with ⟨_, hz⟩ | ⟨g, cap, cur, rfl, hbase, hcur, hcap, _, hsz, htake⟩
  · omega
  have hPg : P0_ g := hok g rfl;have hlt : g < w.heap.size := blk_lt hcur
  have hget : ∀ (j : Nat) x, l0[j]? = some x → w.cell? ⟨g, j, none⟩ = some (.string x) := by
   intro j x hj;obtain ⟨hjl, _⟩ := List.getElem?_eq_some_iff.1 hj;have h1 := congrArg (fun z => z[j]?) htake;simp only [List.getElem?_take, encs, List.getElem?_map, hj, Option.map_some] at h1;rw [if_pos (by omega)] at h1;rw [blk_cell hcur]
   simpa using h1
  have hH : Sort.Holds Value.string w g 0 l0.toArray := fun j hj => by
   have hj' : j < l0.length := by simpa using hj
   refine ⟨?_, by rw [Nat.zero_add]; exact blk_frozen hcur j⟩;rw [Nat.zero_add, hget j l0[j] (List.getElem?_eq_getElem hj'), getElem!_pos l0.toArray j hj];simp
  have hdel := Tryz.slices_DeleteFunc Value.string (fun _ => rfl) (fun x => decide (x.size = 0)) 100 #[] (enters_of Tryz.func100 (by kernel_rfl) rfl) ByteArray.empty Tryz.zeroValue9 g 0 cap l0.toArray w
   (fun W x _ => impl_spaced.pred x W) (fun n os dk x _ => impl_spaced.pred x _) hH (by simp; omega) (by simpa using hcap)
  have e0 : l0.toArray.toList = l0 := by simp
  have e1 : l0.toArray.size = l0.length := by simp
  rw [e0, e1] at hdel
  obtain ⟨kp, hkp⟩ : ∃ kp, kp = l0.filter fun x => !decide (x.size = 0) := ⟨_, rfl⟩
  rw [← hkp] at hdel h
  have hkl : kp.length ≤ l0.length := by rw [hkp]; exact List.length_filter_le _ _
  obtain ⟨w2f, xI⟩ : ∃ w2f : Nat → World, w2f = fun q => Sort.putRow Value.string (Sort.ahead w q) g 0 (kp ++ List.replicate (l0.length - kp.length) ByteArray.empty).toArray := ⟨_, rfl⟩
  have hread : ∀ q (j : Nat) x, kp[j]? = some x → (w2f q).cell? ⟨g, 0 + j, none⟩ = some (.string x) := by
   intro q j x hj;obtain ⟨hjl, hx⟩ := List.getElem?_eq_some_iff.1 hj
   have hs : (kp ++ List.replicate (l0.length - kp.length) ByteArray.empty).toArray.size = l0.toArray.size := by simp; omega
   have := (Sort.holds_putRow Value.string (Sort.ahead w q) g 0 l0.toArray _ hH hs) j (by rw [hs]; simp; omega);rw [xI, this.1, getElem!_pos _ j (by rw [hs]; simp; omega)];simp [List.getElem_append_left hjl, hx]
  have hsize : ∀ q, (w2f q).heap.size = w.heap.size := fun q => by rw [xI]; simp [Sort.ahead]
  have hold : ∀ q k, k ≠ g → (w2f q).heap[k]? = w.heap[k]? := fun q k hk => by
   rw [xI]; simp only [Sort.putRow, Sort.mapBlock, Sort.ahead, Array.getElem?_modify]; rw [if_neg (Ne.symm hk)]
  have hb2 : ∀ q, Below w0.heap.size w0 (w2f q) := fun q => hB.trans ⟨by rw [xI]; rfl, by rw [xI]; rfl, by rw [xI]; rfl, Nat.le_of_eq (hsize q).symm, fun k hk => hold q k (by omega)⟩
  have hjoin : ∀ q, Calls Tryz.prog 73 #[.slice (some ⟨g, 0, none⟩) kp.length cap, .string (⟨#[32]⟩ : ByteArray)] (w2f q) fun e w' => e = .returned (.string r) ∧ Below (w2f q).heap.size (w2f q) w' := by
   intro q;unfold strings_Join.f at h;by_cases hj : kp.length ≤ 140737488355328 ∧ (Lib.join (kp.map (·.data.toList)) (⟨#[32]⟩ : ByteArray).data.toList).length ≤ 140737488355328
   ·
    rw [if_pos hj] at h;obtain rfl := ojz h;by_cases hn : kp = []
    · subst hn;refine (Tryz.strings_Join_none (some ⟨g, 0, none⟩) cap _ (w2f q)).mono ?_;rintro e w' ⟨rfl, rfl⟩;exact ⟨rfl, Below.refl _ _⟩
    · refine (Tryz.strings_Join g 0 cap kp _ (w2f q) (hread q) (by rw [hsize]; exact hlt) hj.1 (by omega) hj.2).mono ?_;rintro e w' ⟨rfl, hb⟩;exact ⟨rfl, hb⟩
   · rw [if_neg hj] at h; cases h
  have hdel2 : Calls Tryz.prog 99 #[.slice (some ⟨g, 0, none⟩) l0.length cap, .func (.func 100) #[] #[]] w fun e w' => e = .returned (.slice (some ⟨g, 0, none⟩) kp.length cap) ∧ ∃ q, w' = w2f q := by
   refine hdel.mono ?_;rintro e w' ⟨he, q, hw⟩;exact ⟨he, q, by rw [xI]; exact hw⟩
  have fin : ∀ q w', Below (w2f q).heap.size (w2f q) w' → Below w0.heap.size w0 w' ∧ Kept w w' (fun k_ => P0_ k_) := by
   intro q w' hb;refine ⟨below_step (hb2 q) hb, by have := hb.size; rw [hsize] at this; exact this, fun i hi hP => ?_⟩
   have hne : i ≠ g := fun e => hP (by rw [e]; exact hPg)
   rw [hb.block i (by rw [hsize]; exact hi), hold q i hne]
  clear hread hH hget htake hdel hold hb2 hsize xI hok;go_enter Tryz.func89, Tryz.ntmps89;clear hkp;go_wp2_with (first | (go_at_call 73; refine (hjoin _).mono ?_; rintro e w' ⟨rfl, hb⟩) | (go_at_call 99; refine hdel2.mono ?_; rintro e w' ⟨rfl, q, rfl⟩));go_ret;exact ⟨rfl, fin _ _ hb⟩
 · rw [if_neg hg] at h; cases h
def impl_inverseForm.j0 : Nat → ByteArray → Bool → List ByteArray → ByteArray → ByteArray → ByteArray → Option (ByteArray)
 | 0, _, _, _, _, _, _ => none
 | k + 1, x3, X8, Wa, ahH, ahI, kJ => if X8 = true then ((strings_Join.f Wa (⟨#[32]⟩ : ByteArray)).bind fun jG => (if 2 + jG.size ≤ 9223372036854775807 then (if x3.size + ((⟨#[44, 32]⟩ : ByteArray) ++ jG).size ≤ 9223372036854775807 then (if kJ.toList = ([] : List UInt8) then (some (x3 ++ ((⟨#[44, 32]⟩ : ByteArray) ++ jG))) else (if 2 + kJ.size ≤ 9223372036854775807 then (if (x3 ++ ((⟨#[44, 32]⟩ : ByteArray) ++ jG)).size + ((⟨#[44, 32]⟩ : ByteArray) ++ kJ).size ≤ 9223372036854775807 then (some ((x3 ++ ((⟨#[44, 32]⟩ : ByteArray) ++ jG)) ++ ((⟨#[44, 32]⟩ : ByteArray) ++ kJ))) else (none)) else (none))) else (none)) else (none))) else (if kJ.toList = ([] : List UInt8) then (some x3) else (if 2 + kJ.size ≤ 9223372036854775807 then (if x3.size + ((⟨#[44, 32]⟩ : ByteArray) ++ kJ).size ≤ 9223372036854775807 then (some (x3 ++ ((⟨#[44, 32]⟩ : ByteArray) ++ kJ))) else (none)) else (none)))
def impl_inverseForm.f (k : Nat) (aV : List ByteArray) (aa : ByteArray) (aC : ByteArray) (aA : ByteArray) : Option (ByteArray) := (impl_spaced.f (([aa, aC] : List ByteArray))).bind fun gx => (if (aV.length : Int) > 0 then (impl_inverseForm.j0 k gx true aV aa aC aA) else (impl_inverseForm.j0 k gx (aA.toList != ([] : List UInt8)) aV aa aC aA))
theorem impl_inverseForm.mono_l : ∀ k, (∀ y0 y1 y2 y3 y4 y5, LeO (impl_inverseForm.j0 k y0 y1 y2 y3 y4 y5) (impl_inverseForm.j0 (k + 1) y0 y1 y2 y3 y4 y5))
 | 0 => fun _ _ _ _ _ _ r h => by simp [impl_inverseForm.j0] at h
 | k + 1 => by
  have ih0 := impl_inverseForm.mono_l k
  ·
   intro y0 y1 y2 y3 y4 y5;unfold impl_inverseForm.j0
   repeat' first
   | (with_reducible exact ih0 _ _ _ _ _ _)
   | (with_reducible exact LeO.refl _)
   | (with_reducible exact LeO.none _)
   | (with_reducible refine LeO.ite ?_ ?_)
   | (with_reducible refine LeO.bind ?_ (fun _ => ?_))
   | exact ih0 _ _ _ _ _ _
   | exact LeO.none _
   | refine LeO.ite ?_ ?_
   | refine LeO.bind ?_ (fun _ => ?_)
theorem impl_inverseForm.mono : ∀ a0 a1 a2 a3 k, LeO (impl_inverseForm.f k a0 a1 a2 a3) (impl_inverseForm.f (k + 1) a0 a1 a2 a3) := by
 intro a0 a1 a2 a3 k;have ih0 := impl_inverseForm.mono_l k;unfold impl_inverseForm.f
 repeat' first
   | (with_reducible exact ih0 _ _ _ _ _ _)
   | (with_reducible exact LeO.refl _)
   | (with_reducible exact LeO.none _)
   | (with_reducible refine LeO.ite ?_ ?_)
   | (with_reducible refine LeO.bind ?_ (fun _ => ?_))
   | exact ih0 _ _ _ _ _ _
   | exact LeO.none _
   | refine LeO.ite ?_ ?_
   | refine LeO.bind ?_ (fun _ => ?_)
set_option maxRecDepth 100000 in
theorem impl_inverseForm.L0 {P : Prop} (h : P := by
  go_wp2_with (first | ((with_reducible refine gate_callee (f := 73) rfl ?_); refine goesL_ (some 22) rfl rfl Tryz.func73 (by kernel_rfl) rfl #[.slice cC aV.length cD, .string (⟨#[32]⟩ : ByteArray)] rfl au50 ?_; (with_reducible refine (strings_Join.calls _ _ aV (⟨#[32]⟩ : ByteArray) jG _ ?ax ?ay xG.out).mono ?_); (case ax => repeat (first | exact (Kd.C_below el.out HB.out) | (with_reducible refine Kd.C_alloc ?_ _) | (with_reducible refine Kd.C_drewN ?_ _) | (with_reducible refine Kd.C_drew ?_))); (case ay => exact fP.out); rintro e Rt ⟨rfl, hb⟩; refine ⟨_, rfl, ?_⟩; replace fD := am (blk_below (g := MJ) au69 hb); replace HB := am (below_step au39 hb); (try clear hb); obtain ⟨vN, vO, vP, vQ, vR, vS, vT, vU⟩ := blkc4 fD.out));go_ret
  exact ⟨by first | rfl | (simp [errW_none, errW_some] <;> rfl) | (simp [*, errW_none, errW_some] <;> rfl), by repeat (first | (with_reducible first | exact HB.out | apply below_alloc | apply pw_below_drewN | apply below_drew1 | refine below_set ?_ Ak.out) | exact HB.out)⟩) : P := h
set_option maxHeartbeats 8000000 in
set_option maxRecDepth 100000 in
theorem impl_inverseForm.calls (k : Nat) (cC : Option Addr) (cD : Nat) (aV : List ByteArray) (aa : ByteArray) (aC : ByteArray) (aA : ByteArray) (r : ByteArray) (w : World) (dN : Kd.C Kd.string w cC aV.length aV) (dA : aV.length ≤ cD) (h : impl_inverseForm.f k aV aa aC aA = some r) :
  Calls Tryz.prog 72 #[.agg #[.slice cC aV.length cD, .string aa, .string aC, .string aA]] w fun e w' => e = .returned (.string r) ∧ Below w.heap.size w w' := by
 have hu62 := Tryz.underlying62;have el := am dN;have fP := am dA;clear dN dA;have HB := am (Below.refl w.heap.size w);have H : ((impl_spaced.f (([aa, aC] : List ByteArray))).bind fun gx => (if (aV.length : Int) > 0 then (impl_inverseForm.j0 k gx true aV aa aC aA) else (impl_inverseForm.j0 k gx (aA.toList != ([] : List UInt8)) aV aa aC aA))) = some r := h;clear h
 obtain ⟨Hw, AX⟩ : ∃ y_ : List ByteArray, y_ = (([aa, aC] : List ByteArray)) := ⟨_, rfl⟩
 replace H : ((impl_spaced.f Hw).bind fun gx => (if (aV.length : Int) > 0 then (impl_inverseForm.j0 k gx true aV aa aC aA) else (impl_inverseForm.j0 k gx (aA.toList != ([] : List UInt8)) aV aa aC aA))) = some r := by first | (rw [AX]; with_reducible exact H) | (have H2_ := (Option.bind_some _ _).symm.trans H; rw [AX]; with_reducible exact H2_) | (have H2_ := (Option.bind_some _ _).symm.trans H; with_reducible exact H2_) | with_reducible exact H | (rw [AX]; exact H) | exact H
 have S1 := am AX;clear AX;replace H := ob H;obtain ⟨gx, dP, H⟩ := H
 try dsimp only at H
 have A2 := am dP;clear dP;have pK := am H;clear H;go_enter Tryz.func72, Tryz.ntmps72
 go_upto_region 2 with (first | ((with_reducible refine gate_dst (N := 1) rfl ?_); refine box_event ?hg (N := 1) ?hd (cs := #[.slice cC aV.length cD, .string aa, .string aC, .string aA]) (t := 62) ?hr ?_; (case hd => rfl); (case hg => rfl); (case hr => first | (go_simp; done) | (go_simp; rfl)); intro MJ hg w4 hbox hb; have fD := am (hbox); have amm := am (bsz hg au51); have Ak := am (bsz hg au51); replace HB := am (below_step au51 hb); clear hb hbox hg; obtain ⟨uO, uP, uQ, uR, uS, uT, uU, uV⟩ := blkc4 fD.out) | ((with_reducible refine gate_dst (N := 8) rfl ?_); refine Kd.R_lit Kd.string _ 9 ?hg (N := 8) ?hd (xs := ([aa, aC] : List ByteArray)) (inner := [.string aa, .string aC]) (ok := fun _ => True) (okp := fun _ => True) ?hr ?hp (fun _ hk => hk) trivial (Below.refl _ _) (Nat.le_refl _) (by simp) ?_; (case hd => rfl); (case hg => rfl); (case hr => first | (go_simp; done) | (go_simp; rfl)); (case hp => exact (Reps.one (show Kd.M Kd.string _ _ _ aa [.string aa] from rfl) (Reps.one (show Kd.M Kd.string _ _ _ aC [.string aC] from rfl) (Reps.none _ _)))); intro aob w6 ho7 hb hg_ hnew_; clear hg_ hnew_; (first | rw [← S1.out] at ho7 | (simp only [Int.reduceToNat] at ho7; rw [← S1.out] at ho7)); have FC := am (Kd.R_lower ho7 (below_size au39)); replace fD := am (blk_below (g := MJ) au69 hb); replace HB := am (below_step au39 hb); clear hb ho7; obtain ⟨O2, O3, X9⟩ := Kd.R_slice FC.out; subst X9) | ((with_reducible refine gate_callee (f := 89) rfl ?_); refine goesL_ (some 9) rfl rfl Tryz.func89 (by kernel_rfl) rfl #[.slice O2 Hw.length O3] rfl au50 ?_; (with_reducible refine (impl_spaced.calls (fun k_ => some k_ = (.slice O2 Hw.length O3 : Value).ownBlock) (.slice O2 Hw.length O3) Hw gx w _ ?ax ?ay A2.out).mono ?_); (case ax => repeat (first | (with_reducible first | exact HB.out | apply below_alloc | apply pw_below_drewN | apply below_drew1 | refine below_set ?_ Ak.out) | exact HB.out)); (case ay => exact Kd.R_tight rfl FC.out); rintro e w9 ⟨rfl, hb, hkp⟩; refine ⟨_, rfl, ?_⟩; have cZ := am (blk_kept au69 hkp (fun hs_ => (fun e_ => (Kd.R_ne FC.out fD.out (by decide)) e_) hs_)); have d0 := am (hb); clear fD; clear HB; clear FC; have fD := cZ; have HB := d0; clear cZ d0; (try clear hb); (try clear hkp)))
 (try simp only [Act.put, List.setIfInBounds_toArray, List.set_cons_zero, List.set_cons_succ])
 go_cut [18] (fun Xa wc => ∃ (kq : Nat) (ni : Bool), Xa = .bool ni ∧ Aside0 (impl_inverseForm.j0 kq gx ni aV aa aC aA = some r) ∧ Aside0 (kq ≤ k) ∧ Aside0 (wc.heap[MJ]? = some (.cells #[(.slice cC aV.length cD), .string aa, .string aC, .string aA] 62 (0, 0))) ∧ Aside0 (Below w.heap.size w wc))
 case first =>
  have H := pK.out;clear pK;by_cases c10 : (aV.length : Int) > 0
  ·
   rw [if_pos c10] at H;have c10b0 := dt c10;have c10b1 : decide (0 < aV.length) = true := dt (by omega);clear c10
   (first | rw [c10b0] | (simp only [i64_w, i32_w]; rw [c10b0]) | skip)
   have H' := am H;clear H;obtain ⟨fi, fj, fk, fl, fm, fo, fp, fq⟩ := blkc4 fD.out;go_wp2;go_meet
   case rel => exact ⟨_, (true), au107, H', ⟨by first | omega | exact Nat.le_refl _⟩, ⟨by (with_reducible repeat (first | refine blk_drewN ?_ _ | refine blk_drew ?_ | refine blk_alloc ?_ _)); exact fD.out⟩, ⟨by repeat (first | (with_reducible first | exact HB.out | apply below_alloc | apply pw_below_drewN | apply below_drew1 | refine below_set ?_ Ak.out) | exact HB.out)⟩⟩
  ·
   rw [if_neg c10] at H;have c10b0 := df c10;have c10b1 : decide (0 < aV.length) = false := df (by omega);clear c10
   (first | rw [c10b0] | (simp only [i64_w, i32_w]; rw [c10b0]) | skip)
   have H' := am H;clear H;obtain ⟨gQ, gR, gS, gT, gU, gV, gW, gX⟩ := blkc4 fD.out;go_wp2;go_meet
   case rel => exact ⟨_, ((aA.toList != ([] : List UInt8))), (by first | rfl | (simp; done) | (simp [*]; done) | (simp; exact (show ∀ l_ : List UInt8, l_.isEmpty = !(l_ != ([] : List UInt8)) from fun l_ => by cases l_ <;> rfl) _)), H', ⟨by first | omega | exact Nat.le_refl _⟩, ⟨by (with_reducible repeat (first | refine blk_drewN ?_ _ | refine blk_drew ?_ | refine blk_alloc ?_ _)); exact fD.out⟩, ⟨by repeat (first | (with_reducible first | exact HB.out | apply below_alloc | apply pw_below_drewN | apply below_drew1 | refine below_set ?_ Ak.out) | exact HB.out)⟩⟩
 case rest =>
  clear pK
  try clear c1
  try clear p2
  try clear c7
  try clear c8
  try clear c10
  try clear c10b0
  try clear c10b1
  try clear fi fj fk fl fm fo fp fq
  try clear gQ gR gS gT gU gV gW gX
  try clear uO uP uQ uR uS uT uU uV
  obtain ⟨kq, ni, rfl, HA, xH, fD, HB⟩ := hcut
  cases kq with
  | zero => exact absurd HA.out (by simp [impl_inverseForm.j0])
  | succ GK =>
   have H := HA.out;clear HA;simp only [impl_inverseForm.j0] at H;by_cases bW : ni = true
   ·
    subst bW;replace H := (if_pos rfl).symm.trans H;replace H := ob H;obtain ⟨jG, kW, H⟩ := H
    try dsimp only at H
    have xG := am kW;clear kW;by_cases bV : 2 + jG.size ≤ 9223372036854775807
    ·
     rw [if_pos bV] at H;have c15b0 := eq_true bV;have c15b1 := dt bV
     try have c15b2 : (9223372036854775807 < 2 + jG.size) = False := eq_false (Nat.not_lt.2 bV)
     by_cases cb : gx.size + ((⟨#[44, 32]⟩ : ByteArray) ++ jG).size ≤ 9223372036854775807
     ·
      rw [if_pos cb] at H;have c16b0 := eq_true cb;have c16b1 := dt cb
      try have c16b2 : (9223372036854775807 < gx.size + ((⟨#[44, 32]⟩ : ByteArray) ++ jG).size) = False := eq_false (Nat.not_lt.2 cb)
      try have c16x : (9223372036854775807 < gx.size + (2 + jG.size)) = False := eq_false (by have z_ := cb; simp only [ByteArray.size_append] at z_; have kV : (⟨#[44, 32]⟩ : ByteArray).size = 2 := rfl; omega)
      by_cases eD : aA.toList = ([] : List UInt8)
      · rw [if_pos eD] at H;have c17b0 := qt eD;have c17b1 := bf eD;clear eD;obtain rfl := ojz H;obtain ⟨wl, wm, wn, wo, wq, wt, wu, wv⟩ := blkc4 fD.out;exact impl_inverseForm.L0
      ·
       rw [if_neg eD] at H;have c17b0 := qf eD;have c17b1 := bu eD;by_cases ew : 2 + aA.size ≤ 9223372036854775807
       ·
        rw [if_pos ew] at H;have c21b0 := eq_true ew;have c21b1 := dt ew
        try have c21b2 : (9223372036854775807 < 2 + aA.size) = False := eq_false (Nat.not_lt.2 ew)
        by_cases dy : (gx ++ ((⟨#[44, 32]⟩ : ByteArray) ++ jG)).size + ((⟨#[44, 32]⟩ : ByteArray) ++ aA).size ≤ 9223372036854775807
        ·
         rw [if_pos dy] at H;have c22b0 := eq_true dy;have c22b1 := dt dy
         try have c22b2 : (9223372036854775807 < (gx ++ ((⟨#[44, 32]⟩ : ByteArray) ++ jG)).size + ((⟨#[44, 32]⟩ : ByteArray) ++ aA).size) = False := eq_false (Nat.not_lt.2 dy)
         try have c22x : (9223372036854775807 < gx.size + 2 + (jG.size) + (2 + aA.size)) = False := eq_false (by have z_ := dy; simp only [ByteArray.size_append] at z_; have kV : (⟨#[44, 32]⟩ : ByteArray).size = 2 := rfl; omega)
         obtain rfl := ojz H;obtain ⟨mi, mj, ml, mm, mn, mo, mq, mr⟩ := blkc4 fD.out;exact impl_inverseForm.L0
        · rw [if_neg dy] at H;exact absurd H (by simp)
       · rw [if_neg ew] at H;exact absurd H (by simp)
     · rw [if_neg cb] at H;exact absurd H (by simp)
    · rw [if_neg bV] at H;exact absurd H (by simp)
   ·
    replace bW := Bool.eq_false_iff.mpr bW;subst bW;replace H := (if_neg (show ¬ (false = true) by decide)).symm.trans H;by_cases fe : aA.toList = ([] : List UInt8)
    · rw [if_pos fe] at H;have c26b0 := qt fe;have c26b1 := bf fe;clear fe;obtain rfl := ojz H;obtain ⟨Wb, Wc, Wd, We, Wg, Wh, Wi, Wj⟩ := blkc4 fD.out;exact impl_inverseForm.L0
    ·
     rw [if_neg fe] at H;have c26b0 := qf fe;have c26b1 := bu fe;by_cases fM : 2 + aA.size ≤ 9223372036854775807
     ·
      rw [if_pos fM] at H;have c28b0 := eq_true fM;have c28b1 := dt fM
      try have c28b2 : (9223372036854775807 < 2 + aA.size) = False := eq_false (Nat.not_lt.2 fM)
      by_cases fL : gx.size + ((⟨#[44, 32]⟩ : ByteArray) ++ aA).size ≤ 9223372036854775807
      ·
       rw [if_pos fL] at H;have c29b0 := eq_true fL;have c29b1 := dt fL
       try have c29b2 : (9223372036854775807 < gx.size + ((⟨#[44, 32]⟩ : ByteArray) ++ aA).size) = False := eq_false (Nat.not_lt.2 fL)
       try have c29x : (9223372036854775807 < gx.size + (2 + aA.size)) = False := eq_false (by have z_ := fL; simp only [ByteArray.size_append] at z_; have kV : (⟨#[44, 32]⟩ : ByteArray).size = 2 := rfl; omega)
       obtain rfl := ojz H;obtain ⟨lP, lQ, lR, lS, lT, lU, lV, lW⟩ := blkc4 fD.out;exact impl_inverseForm.L0
      · rw [if_neg fL] at H;exact absurd H (by simp)
     · rw [if_neg fM] at H;exact absurd H (by simp)
def impl_namesText.l0 : Nat → List ByteArray → List (S62) → Int → Int → Option (ByteArray)
 | 0, _, _, _, _ => none
 | k + 1, x3, x7, x8, x9 => if x9 < x8 then (if 0 ≤ x9 then (if x9 < (x7.length : Int) then ((impl_inverseForm.f k ((rd_T62 x7 x9).f0) ((rd_T62 x7 x9).f1) ((rd_T62 x7 x9).f2) ((rd_T62 x7 x9).f3)).bind fun Er => (if x3.length < 8796093022208 then (impl_namesText.l0 k (x3 ++ [Er]) x7 x8 (wrap64 (x9 + 1))) else (none))) else (none)) else (none)) else ((strings_Join.f x3 (⟨#[59, 32]⟩ : ByteArray)).bind fun QW => (some QW))
def impl_namesText.f (k : Nat) (l0 : List (S62)) : Option (ByteArray) := impl_namesText.l0 k (([] : List ByteArray)) l0 (l0.length : Int) 0
theorem impl_namesText.mono_l : ∀ k, (∀ y0 y1 y2 y3, LeO (impl_namesText.l0 k y0 y1 y2 y3) (impl_namesText.l0 (k + 1) y0 y1 y2 y3))
 | 0 => fun _ _ _ _ r h => by simp [impl_namesText.l0] at h
 | k + 1 => by
  have ih0 := impl_namesText.mono_l k
  ·
   intro y0 y1 y2 y3;unfold impl_namesText.l0
   repeat' first
   | (with_reducible exact ih0 _ _ _ _)
   | (with_reducible exact impl_inverseForm.mono _ _ _ _ _)
   | (with_reducible exact LeO.refl _)
   | (with_reducible exact LeO.none _)
   | (with_reducible refine LeO.ite ?_ ?_)
   | (with_reducible refine LeO.bind ?_ (fun _ => ?_))
   | exact ih0 _ _ _ _
   | exact impl_inverseForm.mono _ _ _ _ _
   | exact LeO.none _
   | refine LeO.ite ?_ ?_
   | refine LeO.bind ?_ (fun _ => ?_)
theorem impl_namesText.mono : ∀ a0 k, LeO (impl_namesText.f k a0) (impl_namesText.f (k + 1) a0) := by
 intro a0 k;have ih0 := impl_namesText.mono_l k;unfold impl_namesText.f
 repeat' first
   | (with_reducible exact ih0 _ _ _ _)
   | (with_reducible exact impl_inverseForm.mono _ _ _ _ _)
   | (with_reducible exact LeO.refl _)
   | (with_reducible exact LeO.none _)
   | (with_reducible refine LeO.ite ?_ ?_)
   | (with_reducible refine LeO.bind ?_ (fun _ => ?_))
   | exact ih0 _ _ _ _
   | exact impl_inverseForm.mono _ _ _ _ _
   | exact LeO.none _
   | refine LeO.ite ?_ ?_
   | refine LeO.bind ?_ (fun _ => ?_)
set_option maxHeartbeats 8000000 in
set_option maxRecDepth 100000 in
theorem impl_namesText.calls (k : Nat) (A0 : Option Addr) (c0 : Nat) (l0 : List (S62)) (r : ByteArray) (w : World) (dn : Kd.C k62 w A0 l0.length l0) (d5 : l0.length ≤ c0) (h : impl_namesText.f k l0 = some r) :
  Calls Tryz.prog 57 #[.slice A0 l0.length c0] w fun e w' => e = .returned (.string r) ∧ Below w.heap.size w w' := by
 have hu62 := Tryz.underlying62;have dM := am dn;have lr := am d5;clear dn d5;have HB := am (Below.refl w.heap.size w);have H : (impl_namesText.l0 k (([] : List ByteArray)) l0 (l0.length : Int) 0) = some r := h;clear h
 obtain ⟨Yb, AY⟩ : ∃ y_ : List ByteArray, y_ = (([] : List ByteArray)) := ⟨_, rfl⟩
 replace H : (impl_namesText.l0 k Yb l0 (l0.length : Int) 0) = some r := by first | (rw [AY]; with_reducible exact H) | (have H2_ := (Option.bind_some _ _).symm.trans H; rw [AY]; with_reducible exact H2_) | (have H2_ := (Option.bind_some _ _).symm.trans H; with_reducible exact H2_) | with_reducible exact H | (rw [AY]; exact H) | exact H
 have S3 := am AY;clear AY;have H' := am H;clear H;go_enter Tryz.func57, Tryz.ntmps57;go_wp2_with (first | ((with_reducible refine gate_dst (N := 6) rfl ?_); refine Kd.R_lit Kd.string _ 9 ?hg (N := 6) ?hd (xs := ([] : List ByteArray)) (inner := []) (ok := fun _ => True) (okp := fun _ => True) ?hr ?hp (fun _ hk => hk) trivial (Below.refl _ _) (Nat.le_refl _) (by simp) ?_; (case hd => rfl); (case hg => rfl); (case hr => first | (go_simp; done) | (go_simp; rfl)); (case hp => exact (Reps.none _ _)); intro aoc w2 ho3 hb hg_ hnew_; clear hg_ hnew_; (first | rw [← S3.out] at ho3 | (simp only [Int.reduceToNat] at ho3; rw [← S3.out] at ho3)); have a0w := am (Kd.R_lower ho3 (below_size au51)); replace HB := am (below_step au51 hb); clear hb ho3))
 go_loopg [3, 9] k (fun kq v3 v9 w' => ∃ (aJ : List ByteArray) (dm : Int), v9 = .int .i64 dm ∧ Aside0 (impl_namesText.l0 kq aJ l0 (l0.length : Int) dm = some r) ∧ Aside0 (kq ≤ k) ∧ Aside0 (Kd.R Kd.string 9 w' w.heap.size (fun _ => True) v3 aJ) ∧ Aside0 (Below w.heap.size w w'))
 case atStart => exact ⟨(Yb), (0), au107, H', ⟨Nat.le_refl _⟩, ⟨by (with_reducible repeat (first | apply Kd.R_alloc | apply Kd.R_drewN | apply Kd.R_drew)); exact a0w.out⟩, ⟨by repeat (first | (with_reducible first | exact HB.out | apply below_alloc | apply pw_below_drewN | apply below_drew1) | exact HB.out)⟩⟩
 case round =>
  clear H'
  try clear p2
  obtain ⟨aJ, dm, rfl, HA, HK1, cj, HB⟩ := hrel
  cases gk with
  | zero => exact absurd HA.out (by simp [impl_namesText.l0])
  | succ k1 =>
   have H := HA.out;clear HA;simp only [impl_namesText.l0] at H;by_cases c4 : dm < (l0.length : Int)
   ·
    rw [if_pos c4] at H;have c4b0 := dt c4;clear c4;by_cases c5 : 0 ≤ dm
    ·
     rw [if_pos c5] at H;have c5b0 := dt c5;clear c5;by_cases c6 : dm < (l0.length : Int)
     ·
      rw [if_pos c6] at H;have c6b0 := dt c6;clear c6;replace H := ob H;obtain ⟨Er, fK, H⟩ := H
      try dsimp only at H
      have A7 := am fK;clear fK;by_cases c8 : aJ.length < 8796093022208
      ·
       rw [if_pos c8] at H;have a6y := am c8;clear c8
       obtain ⟨Yc, AZ⟩ : ∃ y_ : List ByteArray, y_ = (aJ ++ [Er]) := ⟨_, rfl⟩
       replace H : (impl_namesText.l0 k1 Yc l0 (l0.length : Int) (wrap64 (dm + 1))) = some r := by first | (rw [AZ]; with_reducible exact H) | (have H2_ := (Option.bind_some _ _).symm.trans H; rw [AZ]; with_reducible exact H2_) | (have H2_ := (Option.bind_some _ _).symm.trans H; with_reducible exact H2_) | with_reducible exact H | (rw [AZ]; exact H) | exact H
       have a0x := am AZ;clear AZ;have H' := am H;clear H;have QX : 0 ≤ (dm : Int) := od au106;have QY : dm < (l0.length : Int) := od au106;obtain ⟨amn, pR, pS, a6z, Lh, Li, Lj, Lk, Ll, Lm⟩ := at_T62 dM.out dm QX QY
       cases a6z
       replace Lh := bcl HB.out Lh;replace Li := bcl HB.out Li;replace Lj := bcl HB.out Lj;replace Lk := bcl HB.out Lk;have Wk := am Lm;have Wl := am Ll;clear Lm Ll;replace QX := eq_true QX;replace QY := eq_true QY;go_wp2_with (first | ((with_reducible refine gate_dst (N := 5) rfl ?_); refine box_event ?hg (N := 5) ?hd (cs := #[.slice none 0 0, .string (⟨#[]⟩ : ByteArray), .string (⟨#[]⟩ : ByteArray), .string (⟨#[]⟩ : ByteArray)]) (t := 62) ?hr ?_; (case hd => rfl); (case hg => rfl); (case hr => first | (go_simp; done) | (go_simp; rfl)); intro xy hg w9 hbox hb; replace cj := am (Kd.R_below au104 hb); have qe := am (hbox); have amo := am (bsz hg au51); have Ri := am (bsz hg au51); replace HB := am (below_step au51 hb); clear hb hbox hg; obtain ⟨k9, ka, kb, kc, ke, kf, kg, kh⟩ := blkc4 qe.out) | ((with_reducible refine gate_callee (f := 72) rfl ?_); refine goesL_ (some 15) rfl rfl Tryz.func72 (by kernel_rfl) rfl #[.agg #[.slice pR ((rd_T62 l0 dm).f0).length pS, .string ((rd_T62 l0 dm).f1), .string ((rd_T62 l0 dm).f2), .string ((rd_T62 l0 dm).f3)]] rfl au50 ?_; (with_reducible refine (impl_inverseForm.calls k1 _ _ ((rd_T62 l0 dm).f0) ((rd_T62 l0 dm).f1) ((rd_T62 l0 dm).f2) ((rd_T62 l0 dm).f3) Er _ ?ax ?ay A7.out).mono ?_); (case ax => exact Kd.C_below Wk.out au40); (case ay => exact Wl.out); rintro e ls ⟨rfl, hb⟩; refine ⟨_, rfl, ?_⟩; replace cj := am (Kd.R_below (by (with_reducible repeat (first | apply Kd.R_alloc | apply Kd.R_drewN | apply Kd.R_drew)); exact (Kd.R_mono (Kd.R_far (p := ⟨xy, 3, none⟩) (Kd.R_far (p := ⟨xy, 2, none⟩) (Kd.R_far (p := ⟨xy, 1, none⟩) (Kd.R_far (p := ⟨xy, 0, none⟩) (Kd.R_types cj.out qe.out (by decide)) (fun _ hk => hk.2) (.slice pR ((rd_T62 l0 dm).f0).length pS)) (fun _ hk => hk.2) (.string ((rd_T62 l0 dm).f1))) (fun _ hk => hk.2) (.string ((rd_T62 l0 dm).f2))) (fun _ hk => hk.2) (.string ((rd_T62 l0 dm).f3))) (fun _ h_ => h_.1))) hb); replace qe := am (blk_below (g := xy) (o := .cells #[.slice pR ((rd_T62 l0 dm).f0).length pS, .string ((rd_T62 l0 dm).f1), .string ((rd_T62 l0 dm).f2), .string ((rd_T62 l0 dm).f3)] 62 (0, 0)) (by (with_reducible repeat (first | refine blk_drewN ?_ _ | refine blk_drew ?_ | refine blk_alloc ?_ _)); refine blk_put (cs := #[.slice pR ((rd_T62 l0 dm).f0).length pS, .string ((rd_T62 l0 dm).f1), .string ((rd_T62 l0 dm).f2), .string (⟨#[]⟩ : ByteArray)]) ?_ 3 _ rfl; (with_reducible repeat (first | refine blk_drewN ?_ _ | refine blk_drew ?_ | refine blk_alloc ?_ _)); refine blk_put (cs := #[.slice pR ((rd_T62 l0 dm).f0).length pS, .string ((rd_T62 l0 dm).f1), .string (⟨#[]⟩ : ByteArray), .string (⟨#[]⟩ : ByteArray)]) ?_ 2 _ rfl; (with_reducible repeat (first | refine blk_drewN ?_ _ | refine blk_drew ?_ | refine blk_alloc ?_ _)); refine blk_put (cs := #[.slice pR ((rd_T62 l0 dm).f0).length pS, .string (⟨#[]⟩ : ByteArray), .string (⟨#[]⟩ : ByteArray), .string (⟨#[]⟩ : ByteArray)]) ?_ 1 _ rfl; (with_reducible repeat (first | refine blk_drewN ?_ _ | refine blk_drew ?_ | refine blk_alloc ?_ _)); refine blk_put (cs := #[.slice none 0 0, .string (⟨#[]⟩ : ByteArray), .string (⟨#[]⟩ : ByteArray), .string (⟨#[]⟩ : ByteArray)]) ?_ 0 _ rfl; (with_reducible repeat (first | refine blk_drewN ?_ _ | refine blk_drew ?_ | refine blk_alloc ?_ _)); exact qe.out) hb); replace HB := am (below_step au40 hb); (try clear hb)) | ((with_reducible refine gate_builtin (b := .append) (xs := #[.tmp 13, .tmp 16]) rfl ?_); at_builtin; refine Kd.R_append Kd.string (w0 := w) w.heap.size rfl (.tmp 13) (.tmp 16) 28 9 (.string ⟨#[]⟩) 16 rfl Tryz.underlying28 info9 rfl (by decide) (by omega) u3 aJ Er [.string Er] (fun _ => True) (fun _ => False) rfl rfl ?aP (fun _ hk => hk.elim) ?aF ?aO ?aB ?aS ?aL ?_; (case aP => exact rfl); (case aB => exact au40); (case aF => exact (fun _ _ => trivial)); (case aO => exact au104); (case aS => exact (below_size au40)); (case aL => have := a6y.out; omega); intro aod Aw ho hb hg hat; rw [← a0x.out] at ho; have cZ := am (blk_grown (g := xy) (o := .cells #[.slice pR ((rd_T62 l0 dm).f0).length pS, .string ((rd_T62 l0 dm).f1), .string ((rd_T62 l0 dm).f2), .string ((rd_T62 l0 dm).f3)] 62 (0, 0)) (by (with_reducible repeat (first | refine blk_drewN ?_ _ | refine blk_drew ?_ | refine blk_alloc ?_ _)); exact qe.out) hg (Kd.R_ne cj.out qe.out (by decide))); have d0 := am (hb); have dQ := am (ho); clear qe; clear HB; clear cj; have qe := cZ; have HB := d0; have a0y := dQ; clear cZ d0 dQ; clear ho hb hg hat))
       go_roundg k1
       case measure => have := HK1.out; omega
       case rel => exact ⟨(Yc), (wrap64 (dm + 1)), au107, H', ⟨by have := HK1.out; omega⟩, ⟨by (with_reducible repeat (first | apply Kd.R_alloc | apply Kd.R_drewN | apply Kd.R_drew)); exact a0y.out⟩, ⟨by repeat (first | (with_reducible first | exact HB.out | apply below_alloc | apply pw_below_drewN | apply below_drew1 | refine below_set ?_ Ri.out) | exact HB.out)⟩⟩
      · rw [if_neg c8] at H;exact absurd H (by simp)
     · rw [if_neg c6] at H;exact absurd H (by simp)
    · rw [if_neg c5] at H;exact absurd H (by simp)
   ·
    rw [if_neg c4] at H;have c4b0 := df c4;clear c4;replace H := ob H;obtain ⟨QW, kS, H⟩ := H
    try dsimp only at H
    have uH := am kS;clear kS;obtain rfl := ojz H;obtain ⟨eS, eT, Qf⟩ := Kd.R_slice cj.out;subst Qf;go_wp2_with (first | ((with_reducible refine gate_callee (f := 73) rfl ?_); refine goesL_ (some 20) rfl rfl Tryz.func73 (by kernel_rfl) rfl #[.slice eS aJ.length eT, .string (⟨#[59, 32]⟩ : ByteArray)] rfl au50 ?_; (with_reducible refine (strings_Join.calls _ _ aJ (⟨#[59, 32]⟩ : ByteArray) QW _ ?ax ?ay uH.out).mono ?_); (case ax => repeat (first | exact (Kd.R_reads' cj.out).2.2 | (with_reducible refine Kd.C_alloc ?_ _) | (with_reducible refine Kd.C_drewN ?_ _) | (with_reducible refine Kd.C_drew ?_))); (case ay => exact (Kd.R_reads' cj.out).2.1); rintro e w15 ⟨rfl, hb⟩; refine ⟨_, rfl, ?_⟩; replace cj := am (Kd.R_below au104 hb); replace HB := am (below_step au51 hb); (try clear hb)));go_ret;exact ax1
def strconv_Itoa.f (a0 : Int) : Option ByteArray := if -9223372036854775808 ≤ a0 ∧ a0 ≤ 9223372036854775807 then some ⟨(Lib.itoa a0).toArray⟩ else none
theorem strconv_Itoa.calls (a0 : Int) (r : ByteArray) (w : World) {gF2 gF3 : Bool} (hG : GL true gF2 gF3 w) (h : strconv_Itoa.f a0 = some r) :
  Calls Tryz.prog 59 #[.int .i64 a0] w fun e w' => e = .returned (.string r) ∧ Below w.heap.size w w' := by
 unfold strconv_Itoa.f at h;by_cases hg : -9223372036854775808 ≤ a0 ∧ a0 ≤ 9223372036854775807
 · rw [if_pos hg] at h;obtain rfl := ojz h;refine (Tryz.strconv_Itoa a0 hg.1 hg.2 w (hG.tab rfl)).mono ?_;rintro e w' ⟨rfl, k, os, rfl⟩;exact ⟨rfl, (show Below w.heap.size w (w.drewN k) from (Drawn0.below ⟨k, rfl⟩)).trans ⟨rfl, rfl, rfl, by simp, fun i hi => Go.Sort.heap_grow_old _ _ hi⟩⟩
 · rw [if_neg hg] at h; cases h
def impl_digits.l0 : Nat → Int → ByteArray → Option (ByteArray)
 | 0, _, _ => none
 | k + 1, x1, x5 => if (x5.size : Int) < x1 then (if 1 + x5.size ≤ 9223372036854775807 then (impl_digits.l0 k x1 ((⟨#[48]⟩ : ByteArray) ++ x5)) else (none)) else (some x5)
def impl_digits.f (k : Nat) (a0 : Int) (a1 : Int) : Option (ByteArray) := (strconv_Itoa.f a0).bind fun Es => (impl_digits.l0 k a1 Es)
theorem impl_digits.mono_l : ∀ k, (∀ y0 y1, LeO (impl_digits.l0 k y0 y1) (impl_digits.l0 (k + 1) y0 y1))
 | 0 => fun _ _ r h => by simp [impl_digits.l0] at h
 | k + 1 => by
  have ih0 := impl_digits.mono_l k
  ·
   intro y0 y1;unfold impl_digits.l0
   repeat' first
   | (with_reducible exact ih0 _ _)
   | (with_reducible exact LeO.refl _)
   | (with_reducible exact LeO.none _)
   | (with_reducible refine LeO.ite ?_ ?_)
   | (with_reducible refine LeO.bind ?_ (fun _ => ?_))
   | exact ih0 _ _
   | exact LeO.none _
   | refine LeO.ite ?_ ?_
   | refine LeO.bind ?_ (fun _ => ?_)
theorem impl_digits.mono : ∀ a0 a1 k, LeO (impl_digits.f k a0 a1) (impl_digits.f (k + 1) a0 a1) := by
 intro a0 a1 k;have ih0 := impl_digits.mono_l k;unfold impl_digits.f
 repeat' first
   | (with_reducible exact ih0 _ _)
   | (with_reducible exact LeO.refl _)
   | (with_reducible exact LeO.none _)
   | (with_reducible refine LeO.ite ?_ ?_)
   | (with_reducible refine LeO.bind ?_ (fun _ => ?_))
   | exact ih0 _ _
   | exact LeO.none _
   | refine LeO.ite ?_ ?_
   | refine LeO.bind ?_ (fun _ => ?_)
set_option maxHeartbeats 8000000 in
set_option maxRecDepth 100000 in
theorem impl_digits.calls (k : Nat) (a0 : Int) (a1 : Int) (r : ByteArray) (w : World) {gF2 gF3 : Bool} (hG : GL true gF2 gF3 w) (h : impl_digits.f k a0 a1 = some r) :
  Calls Tryz.prog 74 #[.int .i64 a0, .int .i64 a1] w fun e w' => e = .returned (.string r) ∧ Below w.heap.size w w' := by
 have HG := am hG;clear hG;have HB := am (Below.refl w.heap.size w);have H : ((strconv_Itoa.f a0).bind fun Es => (impl_digits.l0 k a1 Es)) = some r := h;clear h;replace H := ob H;obtain ⟨Es, d6, H⟩ := H
 try dsimp only at H
 have A3 := am d6;clear d6;have H' := am H;clear H;go_enter Tryz.func74, Tryz.ntmps74;go_wp2_with (first | ((with_reducible refine gate_callee (f := 59) rfl ?_); refine goesL_ (some 7) rfl rfl Tryz.func59 (by kernel_rfl) rfl #[.int .i64 a0] rfl au50 ?_; (with_reducible refine (strconv_Itoa.calls (hG := au12) a0 Es _ A3.out).mono ?_); rintro e w4 ⟨rfl, hb⟩; refine ⟨_, rfl, ?_⟩; replace HB := am (below_step au51 hb); (try clear hb)))
 go_loopg [5] k (fun kq v5 w' => ∃ (az : ByteArray), v5 = .string az ∧ Aside0 (impl_digits.l0 kq a1 az = some r) ∧ Aside0 (kq ≤ k) ∧ Aside0 (Below w.heap.size w w'))
 case atStart => exact ⟨(Es), au107, H', ⟨Nat.le_refl _⟩, ⟨by repeat (first | (with_reducible first | exact HB.out | apply below_alloc | apply pw_below_drewN | apply below_drew1) | exact HB.out)⟩⟩
 case round =>
  clear H'
  try clear p2
  obtain ⟨az, rfl, HA, HK1, HB⟩ := hrel
  cases gk with
  | zero => exact absurd HA.out (by simp [impl_digits.l0])
  | succ k1 =>
   have H := HA.out;clear HA;simp only [impl_digits.l0] at H;by_cases c5 : (az.size : Int) < a1
   ·
    rw [if_pos c5] at H;have c5b0 := dt c5;clear c5;by_cases c6 : 1 + az.size ≤ 9223372036854775807
    ·
     rw [if_pos c6] at H;have c6b0 := eq_true c6;have c6b1 := dt c6
     try have c6b2 : (9223372036854775807 < 1 + az.size) = False := eq_false (Nat.not_lt.2 c6)
     have H' := am H;clear H;go_wp2
     go_roundg k1
     case measure => have := HK1.out; omega
     case rel => exact ⟨((⟨#[48]⟩ : ByteArray) ++ az), au107, H', ⟨by have := HK1.out; omega⟩, ⟨by repeat (first | (with_reducible first | exact HB.out | apply below_alloc | apply pw_below_drewN | apply below_drew1) | exact HB.out)⟩⟩
    · rw [if_neg c6] at H;exact absurd H (by simp)
   · rw [if_neg c5] at H;have c5b0 := df c5;clear c5;obtain rfl := ojz H;go_wp2;go_ret;exact ax1
def impl_formatDate.j0 : Nat → ByteArray → Int → Int → Int → Bool → Option (ByteArray)
 | 0, _, _, _, _, _ => none
 | k + 1, x3, ahJ, Ln, xz, ahK => if Ln > 0 then ((impl_digits.f k Ln 2).bind fun jH => (if 1 + jH.size ≤ 9223372036854775807 then (if x3.size + ((⟨#[45]⟩ : ByteArray) ++ jH).size ≤ 9223372036854775807 then (if xz > 0 then ((impl_digits.f k xz 2).bind fun ql => (if 1 + ql.size ≤ 9223372036854775807 then (if (x3 ++ ((⟨#[45]⟩ : ByteArray) ++ jH)).size + ((⟨#[45]⟩ : ByteArray) ++ ql).size ≤ 9223372036854775807 then (some ((x3 ++ ((⟨#[45]⟩ : ByteArray) ++ jH)) ++ ((⟨#[45]⟩ : ByteArray) ++ ql))) else (none)) else (none))) else (some (x3 ++ ((⟨#[45]⟩ : ByteArray) ++ jH)))) else (none)) else (none))) else (if xz > 0 then ((impl_digits.f k xz 2).bind fun qm => (if 1 + qm.size ≤ 9223372036854775807 then (if x3.size + ((⟨#[45]⟩ : ByteArray) ++ qm).size ≤ 9223372036854775807 then (some (x3 ++ ((⟨#[45]⟩ : ByteArray) ++ qm))) else (none)) else (none))) else (some x3))
def impl_formatDate.f (k : Nat) (ab : Int) (aa : Int) (aC : Int) (aA : Bool) : Option (ByteArray) := if ab = 0 then (some (⟨#[117, 110, 107, 110, 111, 119, 110]⟩ : ByteArray)) else ((impl_digits.f k ab 4).bind fun mz => (if aA = true then (if 1 + mz.size ≤ 9223372036854775807 then (impl_formatDate.j0 k ((⟨#[99]⟩ : ByteArray) ++ mz) ab aa aC aA) else (none)) else (impl_formatDate.j0 k mz ab aa aC aA)))
theorem impl_formatDate.mono_l : ∀ k, (∀ y0 y1 y2 y3 y4, LeO (impl_formatDate.j0 k y0 y1 y2 y3 y4) (impl_formatDate.j0 (k + 1) y0 y1 y2 y3 y4))
 | 0 => fun _ _ _ _ _ r h => by simp [impl_formatDate.j0] at h
 | k + 1 => by
  have ih0 := impl_formatDate.mono_l k
  ·
   intro y0 y1 y2 y3 y4;unfold impl_formatDate.j0
   repeat' first
   | (with_reducible exact ih0 _ _ _ _ _)
   | (with_reducible exact impl_digits.mono _ _ _)
   | (with_reducible exact LeO.refl _)
   | (with_reducible exact LeO.none _)
   | (with_reducible refine LeO.ite ?_ ?_)
   | (with_reducible refine LeO.bind ?_ (fun _ => ?_))
   | exact ih0 _ _ _ _ _
   | exact impl_digits.mono _ _ _
   | exact LeO.none _
   | refine LeO.ite ?_ ?_
   | refine LeO.bind ?_ (fun _ => ?_)
theorem impl_formatDate.mono : ∀ a0 a1 a2 a3 k, LeO (impl_formatDate.f k a0 a1 a2 a3) (impl_formatDate.f (k + 1) a0 a1 a2 a3) := by
 intro a0 a1 a2 a3 k;have ih0 := impl_formatDate.mono_l k;unfold impl_formatDate.f
 repeat' first
   | (with_reducible exact ih0 _ _ _ _ _)
   | (with_reducible exact impl_digits.mono _ _ _)
   | (with_reducible exact LeO.refl _)
   | (with_reducible exact LeO.none _)
   | (with_reducible refine LeO.ite ?_ ?_)
   | (with_reducible refine LeO.bind ?_ (fun _ => ?_))
   | exact ih0 _ _ _ _ _
   | exact impl_digits.mono _ _ _
   | exact LeO.none _
   | refine LeO.ite ?_ ?_
   | refine LeO.bind ?_ (fun _ => ?_)
set_option maxRecDepth 100000 in
theorem impl_formatDate.L0 {P : Prop} (h : P := by
  go_wp2_with (first | ((with_reducible refine gate_callee (f := 74) rfl ?_); refine goesL_ (some 20) rfl rfl Tryz.func74 (by kernel_rfl) rfl #[.int .i64 aa, .int .i64 2] rfl au50 ?_; (with_reducible refine (impl_digits.calls (hG := au12) uz aa 2 jH _ xG.out).mono ?_); rintro e w22 ⟨rfl, hb⟩; refine ⟨_, rfl, ?_⟩; replace fE := am (blk_below (g := xA) au70 hb); replace HB := am (below_step au41 hb); (try clear hb); obtain ⟨mi, mj, ml, mm, mn, mo, mq, mr⟩ := blkc4 fE.out) | ((with_reducible refine gate_callee (f := 74) rfl ?_); refine goesL_ (some 29) rfl rfl Tryz.func74 (by kernel_rfl) rfl #[.int .i64 aC, .int .i64 2] rfl au50 ?_; (with_reducible refine (impl_digits.calls (hG := au12) uz aC 2 ql _ kQ.out).mono ?_); rintro e w24 ⟨rfl, hb⟩; refine ⟨_, rfl, ?_⟩; replace fE := am (blk_below (g := xA) au70 hb); replace HB := am (below_step au41 hb); (try clear hb)));go_ret
  exact ax9) : P := h
set_option maxHeartbeats 8000000 in
set_option maxRecDepth 100000 in
theorem impl_formatDate.calls (k : Nat) (ab : Int) (aa : Int) (aC : Int) (aA : Bool) (r : ByteArray) (w : World) {gF2 gF3 : Bool} (hG : GL true gF2 gF3 w) (h : impl_formatDate.f k ab aa aC aA = some r) :
  Calls Tryz.prog 58 #[.agg #[.int .i64 ab, .int .i64 aa, .int .i64 aC, .bool aA]] w fun e w' => e = .returned (.string r) ∧ Below w.heap.size w w' := by
 have HG := am hG;clear hG;have hu32 := Tryz.underlying32;have HB := am (Below.refl w.heap.size w);have H : (if ab = 0 then (some (⟨#[117, 110, 107, 110, 111, 119, 110]⟩ : ByteArray)) else ((impl_digits.f k ab 4).bind fun mz => (if aA = true then (if 1 + mz.size ≤ 9223372036854775807 then (impl_formatDate.j0 k ((⟨#[99]⟩ : ByteArray) ++ mz) ab aa aC aA) else (none)) else (impl_formatDate.j0 k mz ab aa aC aA)))) = some r := h;clear h;by_cases c2 : ab = 0
 · rw [if_pos c2] at H;have c2b0 := qt c2;have c2b1 := bf c2;clear c2;obtain rfl := ojz H;go_enter Tryz.func58, Tryz.ntmps58;go_wp2_with (first | ((with_reducible refine gate_dst (N := 1) rfl ?_); refine box_event ?hg (N := 1) ?hd (cs := #[.int .i64 ab, .int .i64 aa, .int .i64 aC, .bool aA]) (t := 32) ?hr ?_; (case hd => rfl); (case hg => rfl); (case hr => first | (go_simp; done) | (go_simp; rfl)); intro xA hg w3 hbox hb; have fE := am (hbox); have a0z := am (bsz hg au51); have Al := am (bsz hg au51); replace HB := am (below_step au51 hb); clear hb hbox hg; obtain ⟨fU, fV, fW, fX, fY, fZ, ga, ge⟩ := blkc4 fE.out));go_ret;exact ax9
 ·
  rw [if_neg c2] at H;have c2b0 := qf c2;have c2b1 := bu c2;replace H := ob H;obtain ⟨mz, mJ, H⟩ := H
  try dsimp only at H
  have A5 := am mJ;clear mJ;have uX := am H;clear H;go_enter Tryz.func58, Tryz.ntmps58
  go_upto_if 11 with (first | ((with_reducible refine gate_dst (N := 1) rfl ?_); refine box_event ?hg (N := 1) ?hd (cs := #[.int .i64 ab, .int .i64 aa, .int .i64 aC, .bool aA]) (t := 32) ?hr ?_; (case hd => rfl); (case hg => rfl); (case hr => first | (go_simp; done) | (go_simp; rfl)); intro xA hg w7 hbox hb; have fE := am (hbox); have a0z := am (bsz hg au51); have Al := am (bsz hg au51); replace HB := am (below_step au51 hb); clear hb hbox hg; obtain ⟨sP, sQ, sR, sS, mL, mM, mN, mO⟩ := blkc4 fE.out) | ((with_reducible refine gate_callee (f := 74) rfl ?_); refine goesL_ (some 9) rfl rfl Tryz.func74 (by kernel_rfl) rfl #[.int .i64 ab, .int .i64 4] rfl au50 ?_; (with_reducible refine (impl_digits.calls (hG := au12) k ab 4 mz _ A5.out).mono ?_); rintro e w9 ⟨rfl, hb⟩; refine ⟨_, rfl, ?_⟩; replace fE := am (blk_below (g := xA) au70 hb); replace HB := am (below_step au41 hb); (try clear hb); obtain ⟨k9, ka, kb, kc, ke, kf, kg, kh⟩ := blkc4 fE.out))
  (try simp only [Act.put, List.setIfInBounds_toArray, List.set_cons_zero, List.set_cons_succ])
  go_cut [3] (fun v3 wc => ∃ (kq : Nat) (et : ByteArray), v3 = .string et ∧ Aside0 (impl_formatDate.j0 kq et ab aa aC aA = some r) ∧ Aside0 (kq ≤ k) ∧ Aside0 (wc.heap[xA]? = some (.cells #[.int .i64 ab, .int .i64 aa, .int .i64 aC, .bool aA] 32 (0, 0))) ∧ Aside0 (Below w.heap.size w wc))
  case first =>
   have H := uX.out;clear uX;by_cases bH : aA = true
   ·
    subst bH;replace H := (if_pos rfl).symm.trans H;by_cases cu : 1 + mz.size ≤ 9223372036854775807
    ·
     rw [if_pos cu] at H;have c12b0 := eq_true cu;have c12b1 := dt cu
     try have c12b2 : (9223372036854775807 < 1 + mz.size) = False := eq_false (Nat.not_lt.2 cu)
     have H' := am H;clear H;go_wp2;go_meet
     case rel => exact ⟨_, ((⟨#[99]⟩ : ByteArray) ++ mz), au107, H', ⟨by first | omega | exact Nat.le_refl _⟩, ⟨by (with_reducible repeat (first | refine blk_drewN ?_ _ | refine blk_drew ?_ | refine blk_alloc ?_ _)); exact fE.out⟩, ⟨by repeat (first | (with_reducible first | exact HB.out | apply below_alloc | apply pw_below_drewN | apply below_drew1 | refine below_set ?_ Al.out) | exact HB.out)⟩⟩
    · rw [if_neg cu] at H;exact absurd H (by simp)
   ·
    replace bH := Bool.eq_false_iff.mpr bH;subst bH;replace H := (if_neg (show ¬ (false = true) by decide)).symm.trans H;have H' := am H;clear H;go_wp2;go_meet
    case rel => exact ⟨_, (mz), au107, H', ⟨by first | omega | exact Nat.le_refl _⟩, ⟨by (with_reducible repeat (first | refine blk_drewN ?_ _ | refine blk_drew ?_ | refine blk_alloc ?_ _)); exact fE.out⟩, ⟨by repeat (first | (with_reducible first | exact HB.out | apply below_alloc | apply pw_below_drewN | apply below_drew1 | refine below_set ?_ Al.out) | exact HB.out)⟩⟩
  case rest =>
   clear uX
   try clear c1
   try clear c2
   try clear c2b0
   try clear c2b1
   try clear p2
   try clear c5
   try clear c7
   try clear bH
   try clear cu
   try clear c12b0
   try clear c12b1
   try clear c12b2
   try clear k9 ka kb kc ke kf kg kh
   try clear fU fV fW fX fY fZ ga ge
   try clear sP sQ sR sS mL mM mN mO
   obtain ⟨kq, et, rfl, HA, HJ5, fE, HB⟩ := hcut
   cases kq with
   | zero => exact absurd HA.out (by simp [impl_formatDate.j0])
   | succ uz =>
    have H := HA.out;clear HA;simp only [impl_formatDate.j0] at H;by_cases bW : aa > 0
    ·
     rw [if_pos bW] at H;have c13b0 := dt bW;clear bW;replace H := ob H;obtain ⟨jH, kW, H⟩ := H
     try dsimp only at H
     have xG := am kW;clear kW;by_cases bV : 1 + jH.size ≤ 9223372036854775807
     ·
      rw [if_pos bV] at H;have c15b0 := eq_true bV;have c15b1 := dt bV
      try have c15b2 : (9223372036854775807 < 1 + jH.size) = False := eq_false (Nat.not_lt.2 bV)
      by_cases cb : et.size + ((⟨#[45]⟩ : ByteArray) ++ jH).size ≤ 9223372036854775807
      ·
       rw [if_pos cb] at H;have c16b0 := eq_true cb;have c16b1 := dt cb
       try have c16b2 : (9223372036854775807 < et.size + ((⟨#[45]⟩ : ByteArray) ++ jH).size) = False := eq_false (Nat.not_lt.2 cb)
       try have c16x : (9223372036854775807 < et.size + (1 + jH.size)) = False := eq_false (by have z_ := cb; simp only [ByteArray.size_append] at z_; have kV : (⟨#[45]⟩ : ByteArray).size = 1 := rfl; omega)
       by_cases eD : aC > 0
       ·
        rw [if_pos eD] at H;have c17b0 := dt eD;clear eD;replace H := ob H;obtain ⟨ql, uI, H⟩ := H
        try dsimp only at H
        have kQ := am uI;clear uI;by_cases dp : 1 + ql.size ≤ 9223372036854775807
        ·
         rw [if_pos dp] at H;have c19b0 := eq_true dp;have c19b1 := dt dp
         try have c19b2 : (9223372036854775807 < 1 + ql.size) = False := eq_false (Nat.not_lt.2 dp)
         by_cases jt : (et ++ ((⟨#[45]⟩ : ByteArray) ++ jH)).size + ((⟨#[45]⟩ : ByteArray) ++ ql).size ≤ 9223372036854775807
         ·
          rw [if_pos jt] at H;have c20b0 := eq_true jt;have c20b1 := dt jt
          try have c20b2 : (9223372036854775807 < (et ++ ((⟨#[45]⟩ : ByteArray) ++ jH)).size + ((⟨#[45]⟩ : ByteArray) ++ ql).size) = False := eq_false (Nat.not_lt.2 jt)
          try have c20x : (9223372036854775807 < et.size + 1 + (jH.size) + (1 + ql.size)) = False := eq_false (by have z_ := jt; simp only [ByteArray.size_append] at z_; have kV : (⟨#[45]⟩ : ByteArray).size = 1 := rfl; omega)
          obtain rfl := ojz H;obtain ⟨sT, sU, sV, sW, sX, sZ, t6, t7⟩ := blkc4 fE.out;exact impl_formatDate.L0
         · rw [if_neg jt] at H;exact absurd H (by simp)
        · rw [if_neg dp] at H;exact absurd H (by simp)
       · rw [if_neg eD] at H;have c17b0 := df eD;clear eD;obtain rfl := ojz H;obtain ⟨SN, SO, SP, SQ, SR, SS, SU, SV⟩ := blkc4 fE.out;exact impl_formatDate.L0
      · rw [if_neg cb] at H;exact absurd H (by simp)
     · rw [if_neg bV] at H;exact absurd H (by simp)
    ·
     rw [if_neg bW] at H;have c13b0 := df bW;clear bW;by_cases fM : aC > 0
     ·
      rw [if_pos fM] at H;have c28b0 := dt fM;clear fM;replace H := ob H;obtain ⟨qm, GR, H⟩ := H
      try dsimp only at H
      have XA := am GR;clear GR;by_cases kX : 1 + qm.size ≤ 9223372036854775807
      ·
       rw [if_pos kX] at H;have c30b0 := eq_true kX;have c30b1 := dt kX
       try have c30b2 : (9223372036854775807 < 1 + qm.size) = False := eq_false (Nat.not_lt.2 kX)
       by_cases ic : et.size + ((⟨#[45]⟩ : ByteArray) ++ qm).size ≤ 9223372036854775807
       ·
        rw [if_pos ic] at H;have c31b0 := eq_true ic;have c31b1 := dt ic
        try have c31b2 : (9223372036854775807 < et.size + ((⟨#[45]⟩ : ByteArray) ++ qm).size) = False := eq_false (Nat.not_lt.2 ic)
        try have c31x : (9223372036854775807 < et.size + (1 + qm.size)) = False := eq_false (by have z_ := ic; simp only [ByteArray.size_append] at z_; have kV : (⟨#[45]⟩ : ByteArray).size = 1 := rfl; omega)
        obtain rfl := ojz H;obtain ⟨Cx, Cy, Cz, CB, CC, CE, CF, CG⟩ := blkc4 fE.out;go_wp2_with (first | ((with_reducible refine gate_callee (f := 74) rfl ?_); refine goesL_ (some 29) rfl rfl Tryz.func74 (by kernel_rfl) rfl #[.int .i64 aC, .int .i64 2] rfl au50 ?_; (with_reducible refine (impl_digits.calls (hG := au12) uz aC 2 qm _ XA.out).mono ?_); rintro e Y7 ⟨rfl, hb⟩; refine ⟨_, rfl, ?_⟩; replace fE := am (blk_below (g := xA) au70 hb); replace HB := am (below_step au41 hb); (try clear hb)));go_ret;exact ax9
       · rw [if_neg ic] at H;exact absurd H (by simp)
      · rw [if_neg kX] at H;exact absurd H (by simp)
     · rw [if_neg fM] at H;have c28b0 := df fM;clear fM;obtain rfl := ojz H;obtain ⟨qZ, r0, ra, rb, rc, re, rf, rh⟩ := blkc4 fE.out;exact impl_formatDate.L0
def impl_fieldText.f (k : Nat) (ab : ByteArray) (aa : Int) (ai : List (S62)) (aj : List (S62)) (ak : ByteArray) (an : ByteArray) (ap : ByteArray) (ar : Int) (av : Int) (aw : Int) (af : Bool) (ac : Int) (ae : ByteArray) (ag : ByteArray) (a1 : ByteArray) : Option (ByteArray) := if a1.toList = ([97, 117, 116, 104, 111, 114, 115] : List UInt8) then ((impl_namesText.f k ai).bind fun Hy => (some Hy)) else (if a1.toList = ([101, 100, 105, 116, 111, 114, 115] : List UInt8) then ((impl_namesText.f k aj).bind fun Hz => (some Hz)) else (if a1.toList = ([116, 105, 116, 108, 101] : List UInt8) then (some ak) else (if a1.toList = ([99, 111, 110, 116, 97, 105, 110, 101, 114] : List UInt8) then (some an) else (if a1.toList = ([112, 117, 98, 108, 105, 115, 104, 101, 114] : List UInt8) then (some ap) else (if a1.toList = ([100, 97, 116, 101] : List UInt8) then (if ar > 0 then ((impl_formatDate.f k ar av aw af).bind fun HC => (some HC)) else (some (⟨#[]⟩ : ByteArray))) else (if a1.toList = ([118, 111, 108, 117, 109, 101] : List UInt8) then (if ac > 0 then ((strconv_Itoa.f ac).bind fun HD => (some HD)) else (some (⟨#[]⟩ : ByteArray))) else (if a1.toList = ([112, 97, 103, 101, 115] : List UInt8) then (some ae) else (some (⟨#[]⟩ : ByteArray)))))))))
theorem impl_fieldText.mono : ∀ a0 a1 a2 a3 a4 a5 a6 a7 a8 a9 cP cQ cR cS eU k, LeO (impl_fieldText.f k a0 a1 a2 a3 a4 a5 a6 a7 a8 a9 cP cQ cR cS eU) (impl_fieldText.f (k + 1) a0 a1 a2 a3 a4 a5 a6 a7 a8 a9 cP cQ cR cS eU) := by
 intro a0 a1 a2 a3 a4 a5 a6 a7 a8 a9 cP cQ cR cS eU k;unfold impl_fieldText.f
 repeat' first
   | (with_reducible exact impl_formatDate.mono _ _ _ _ _)
   | (with_reducible exact impl_namesText.mono _ _)
   | (with_reducible exact LeO.refl _)
   | (with_reducible exact LeO.none _)
   | (with_reducible refine LeO.ite ?_ ?_)
   | (with_reducible refine LeO.bind ?_ (fun _ => ?_))
   | exact impl_formatDate.mono _ _ _ _ _
   | exact impl_namesText.mono _ _
   | exact LeO.none _
   | refine LeO.ite ?_ ?_
   | refine LeO.bind ?_ (fun _ => ?_)
set_option maxRecDepth 100000 in
theorem impl_fieldText.L0 {P : Prop} (h : P := by
  go_enter Tryz.func41, Tryz.ntmps41;go_wp2_with (first | ((with_reducible refine gate_dst (N := 2) rfl ?_); refine box_event ?hg (N := 2) ?hd (cs := #[.string ab, .int .i64 aa, .slice bj ai.length bl, .slice bm aj.length bn, .string ak, .string an, .string ap, .int .i64 ar, .int .i64 av, .int .i64 aw, .bool af, .int .i64 ac, .string ae, .string ag]) (t := 34) ?hr ?_; (case hd => rfl); (case hg => rfl); (case hr => first | (go_simp; done) | (go_simp; rfl)); intro qg hg RV hbox hb; have iJ := am (hbox); have FD := am (bsz hg au51); have vH := am (bsz hg au51); replace HB := am (below_step au51 hb); clear hb hbox hg; obtain ⟨sG, sH, sI, sJ, De, Df, Dg, Dh, Di, Dj, zd, ze, zf, zg, sK, sL, sN, sO, Dk, Dl, Dm, Dn, Dp, Dq, zh, zi, zj, zk⟩ := blkc14 iJ.out) | ((with_reducible refine gate_callee (f := 58) rfl ?_); refine goesL_ (some 36) rfl rfl Tryz.func58 (by kernel_rfl) rfl #[.agg #[.int .i64 ar, .int .i64 av, .int .i64 aw, .bool af]] rfl au50 ?_; (with_reducible refine (impl_formatDate.calls (hG := au12) k ar av aw af HC _ Kk.out).mono ?_); rintro e w27 ⟨rfl, hb⟩; refine ⟨_, rfl, ?_⟩; replace iJ := am (blk_below (g := qg) au71 hb); replace HB := am (below_step au42 hb); (try clear hb)));go_ret
  exact ax10) : P := h
set_option maxHeartbeats 8000000 in
set_option maxRecDepth 100000 in
theorem impl_fieldText.calls (k : Nat) (ab : ByteArray) (aa : Int) (bj : Option Addr) (bl : Nat) (ai : List (S62)) (bm : Option Addr) (bn : Nat) (aj : List (S62)) (ak : ByteArray) (an : ByteArray) (ap : ByteArray) (ar : Int) (av : Int) (aw : Int) (af : Bool) (ac : Int) (ae : ByteArray) (ag : ByteArray) (a1 : ByteArray) (r : ByteArray) (w : World) {gF2 gF3 : Bool} (hG : GL true gF2 gF3 w) (cV : Kd.C k62 w bj ai.length ai) (cL : ai.length ≤ bl) (cW : Kd.C k62 w bm aj.length aj) (cM : aj.length ≤ bn) (h : impl_fieldText.f k ab aa ai aj ak an ap ar av aw af ac ae ag a1 = some r) :
  Calls Tryz.prog 41 #[.agg #[.string ab, .int .i64 aa, .slice bj ai.length bl, .slice bm aj.length bn, .string ak, .string an, .string ap, .int .i64 ar, .int .i64 av, .int .i64 aw, .bool af, .int .i64 ac, .string ae, .string ag], .string a1] w fun e w' => e = .returned (.string r) ∧ Below w.heap.size w w' := by
 have HG := am hG;clear hG;have hu34 := Tryz.underlying34;have hu32 := Tryz.underlying32;have ck := am cV;have cn := am cL;clear cV cL;have cz := am cW;have cA := am cM;clear cW cM;have HB := am (Below.refl w.heap.size w);have H : (if a1.toList = ([97, 117, 116, 104, 111, 114, 115] : List UInt8) then ((impl_namesText.f k ai).bind fun Hy => (some Hy)) else (if a1.toList = ([101, 100, 105, 116, 111, 114, 115] : List UInt8) then ((impl_namesText.f k aj).bind fun Hz => (some Hz)) else (if a1.toList = ([116, 105, 116, 108, 101] : List UInt8) then (some ak) else (if a1.toList = ([99, 111, 110, 116, 97, 105, 110, 101, 114] : List UInt8) then (some an) else (if a1.toList = ([112, 117, 98, 108, 105, 115, 104, 101, 114] : List UInt8) then (some ap) else (if a1.toList = ([100, 97, 116, 101] : List UInt8) then (if ar > 0 then ((impl_formatDate.f k ar av aw af).bind fun HC => (some HC)) else (some (⟨#[]⟩ : ByteArray))) else (if a1.toList = ([118, 111, 108, 117, 109, 101] : List UInt8) then (if ac > 0 then ((strconv_Itoa.f ac).bind fun HD => (some HD)) else (some (⟨#[]⟩ : ByteArray))) else (if a1.toList = ([112, 97, 103, 101, 115] : List UInt8) then (some ae) else (some (⟨#[]⟩ : ByteArray)))))))))) = some r := h;clear h;by_cases c3 : a1.toList = ([97, 117, 116, 104, 111, 114, 115] : List UInt8)
 ·
  rw [if_pos c3] at H;have c3b0 := qt c3;have c3b1 := bf c3;clear c3;replace H := ob H;obtain ⟨Hy, i8, H⟩ := H
  try dsimp only at H
  have A4 := am i8;clear i8;obtain rfl := ojz H;go_enter Tryz.func41, Tryz.ntmps41;go_wp2_with (first | ((with_reducible refine gate_dst (N := 2) rfl ?_); refine box_event ?hg (N := 2) ?hd (cs := #[.string ab, .int .i64 aa, .slice bj ai.length bl, .slice bm aj.length bn, .string ak, .string an, .string ap, .int .i64 ar, .int .i64 av, .int .i64 aw, .bool af, .int .i64 ac, .string ae, .string ag]) (t := 34) ?hr ?_; (case hd => rfl); (case hg => rfl); (case hr => first | (go_simp; done) | (go_simp; rfl)); intro qg hg w5 hbox hb; have iJ := am (hbox); have FD := am (bsz hg au51); have vH := am (bsz hg au51); replace HB := am (below_step au51 hb); clear hb hbox hg; obtain ⟨Xg, Xh, Xi, Xj, Xk, Xl, Xm, Xn, Xo, Xp, SX, SY, SZ, T0, Xq, Xr, Xs, Xt, Xu, Xv, Xw, Xx, Xy, Xz, T1, T2, T3, T4⟩ := blkc14 iJ.out) | ((with_reducible refine gate_callee (f := 57) rfl ?_); refine goesL_ (some 10) rfl rfl Tryz.func57 (by kernel_rfl) rfl #[.slice bj ai.length bl] rfl au50 ?_; (with_reducible refine (impl_namesText.calls k _ _ ai Hy _ ?ax ?ay A4.out).mono ?_); (case ax => repeat (first | exact (Kd.C_below ck.out HB.out) | (with_reducible refine Kd.C_alloc ?_ _) | (with_reducible refine Kd.C_drewN ?_ _) | (with_reducible refine Kd.C_drew ?_))); (case ay => exact cn.out); rintro e w7 ⟨rfl, hb⟩; refine ⟨_, rfl, ?_⟩; replace iJ := am (blk_below (g := qg) au71 hb); replace HB := am (below_step au42 hb); (try clear hb)));go_ret;exact ax10
 ·
  rw [if_neg c3] at H;have c3b0 := qf c3;have c3b1 := bu c3;by_cases c8 : a1.toList = ([101, 100, 105, 116, 111, 114, 115] : List UInt8)
  ·
   rw [if_pos c8] at H;have c8b0 := qt c8;have c8b1 := bf c8;clear c8;replace H := ob H;obtain ⟨Hz, jR, H⟩ := H
   try dsimp only at H
   have A9 := am jR;clear jR;obtain rfl := ojz H;go_enter Tryz.func41, Tryz.ntmps41;go_wp2_with (first | ((with_reducible refine gate_dst (N := 2) rfl ?_); refine box_event ?hg (N := 2) ?hd (cs := #[.string ab, .int .i64 aa, .slice bj ai.length bl, .slice bm aj.length bn, .string ak, .string an, .string ap, .int .i64 ar, .int .i64 av, .int .i64 aw, .bool af, .int .i64 ac, .string ae, .string ag]) (t := 34) ?hr ?_; (case hd => rfl); (case hg => rfl); (case hr => first | (go_simp; done) | (go_simp; rfl)); intro qg hg uw hbox hb; have iJ := am (hbox); have FD := am (bsz hg au51); have vH := am (bsz hg au51); replace HB := am (below_step au51 hb); clear hb hbox hg; obtain ⟨fi, fj, fk, fl, rD, rE, rF, rG, rH, rI, pj, pk, pm, pn, fm, fo, fp, fq, rJ, rK, rL, rM, rN, rO, po, pp, pq, pr⟩ := blkc14 iJ.out) | ((with_reducible refine gate_callee (f := 57) rfl ?_); refine goesL_ (some 15) rfl rfl Tryz.func57 (by kernel_rfl) rfl #[.slice bm aj.length bn] rfl au50 ?_; (with_reducible refine (impl_namesText.calls k _ _ aj Hz _ ?ax ?ay A9.out).mono ?_); (case ax => repeat (first | exact (Kd.C_below cz.out HB.out) | (with_reducible refine Kd.C_alloc ?_ _) | (with_reducible refine Kd.C_drewN ?_ _) | (with_reducible refine Kd.C_drew ?_))); (case ay => exact cA.out); rintro e Aw ⟨rfl, hb⟩; refine ⟨_, rfl, ?_⟩; replace iJ := am (blk_below (g := qg) au71 hb); replace HB := am (below_step au42 hb); (try clear hb)));go_ret;exact ax10
  ·
   rw [if_neg c8] at H;have c8b0 := qf c8;have c8b1 := bu c8;by_cases bW : a1.toList = ([116, 105, 116, 108, 101] : List UInt8)
   · rw [if_pos bW] at H;have c13b0 := qt bW;have c13b1 := bf bW;clear bW;obtain rfl := ojz H;exact impl_fieldText.L0
   ·
    rw [if_neg bW] at H;have c13b0 := qf bW;have c13b1 := bu bW;by_cases cb : a1.toList = ([99, 111, 110, 116, 97, 105, 110, 101, 114] : List UInt8)
    · rw [if_pos cb] at H;have c16b0 := qt cb;have c16b1 := bf cb;clear cb;obtain rfl := ojz H;exact impl_fieldText.L0
    ·
     rw [if_neg cb] at H;have c16b0 := qf cb;have c16b1 := bu cb;by_cases dp : a1.toList = ([112, 117, 98, 108, 105, 115, 104, 101, 114] : List UInt8)
     · rw [if_pos dp] at H;have c19b0 := qt dp;have c19b1 := bf dp;clear dp;obtain rfl := ojz H;exact impl_fieldText.L0
     ·
      rw [if_neg dp] at H;have c19b0 := qf dp;have c19b1 := bu dp;by_cases dy : a1.toList = ([100, 97, 116, 101] : List UInt8)
      ·
       rw [if_pos dy] at H;have c22b0 := qt dy;have c22b1 := bf dy;clear dy;by_cases fc : ar > 0
       ·
        rw [if_pos fc] at H;have c23b0 := dt fc;clear fc;replace H := ob H;obtain ⟨HC, vl, H⟩ := H
        try dsimp only at H
        have Kk := am vl;clear vl;obtain rfl := ojz H;exact impl_fieldText.L0
       · rw [if_neg fc] at H;have c23b0 := df fc;clear fc;obtain rfl := ojz H;exact impl_fieldText.L0
      ·
       rw [if_neg dy] at H;have c22b0 := qf dy;have c22b1 := bu dy;by_cases kX : a1.toList = ([118, 111, 108, 117, 109, 101] : List UInt8)
       ·
        rw [if_pos kX] at H;have c30b0 := qt kX;have c30b1 := bf kX;clear kX;by_cases ic : ac > 0
        ·
         rw [if_pos ic] at H;have c31b0 := dt ic;clear ic;replace H := ob H;obtain ⟨HD, Yd, H⟩ := H
         try dsimp only at H
         have A32 := am Yd;clear Yd;obtain rfl := ojz H;go_enter Tryz.func41, Tryz.ntmps41;go_wp2_with (first | ((with_reducible refine gate_dst (N := 2) rfl ?_); refine box_event ?hg (N := 2) ?hd (cs := #[.string ab, .int .i64 aa, .slice bj ai.length bl, .slice bm aj.length bn, .string ak, .string an, .string ap, .int .i64 ar, .int .i64 av, .int .i64 aw, .bool af, .int .i64 ac, .string ae, .string ag]) (t := 34) ?hr ?_; (case hd => rfl); (case hg => rfl); (case hr => first | (go_simp; done) | (go_simp; rfl)); intro qg hg Y7 hbox hb; have iJ := am (hbox); have FD := am (bsz hg au51); have vH := am (bsz hg au51); replace HB := am (below_step au51 hb); clear hb hbox hg; obtain ⟨qZ, r0, ra, rb, Dr, Ds, Dt, Du, Dv, Dw, zl, zm, zn, zo, rc, re, rf, rh, Dx, Dy, Dz, DC, DD, DF, zp, zq, zs, zt⟩ := blkc14 iJ.out) | ((with_reducible refine gate_callee (f := 59) rfl ?_); refine goesL_ (some 44) rfl rfl Tryz.func59 (by kernel_rfl) rfl #[.int .i64 ac] rfl au50 ?_; (with_reducible refine (strconv_Itoa.calls (hG := au12) ac HD _ A32.out).mono ?_); rintro e RB ⟨rfl, hb⟩; refine ⟨_, rfl, ?_⟩; replace iJ := am (blk_below (g := qg) au71 hb); replace HB := am (below_step au42 hb); (try clear hb)));go_ret;exact ax10
        · rw [if_neg ic] at H;have c31b0 := df ic;clear ic;obtain rfl := ojz H;exact impl_fieldText.L0
       ·
        rw [if_neg kX] at H;have c30b0 := qf kX;have c30b1 := bu kX;by_cases kI : a1.toList = ([112, 97, 103, 101, 115] : List UInt8)
        · rw [if_pos kI] at H;have c38b0 := qt kI;have c38b1 := bf kI;clear kI;obtain rfl := ojz H;exact impl_fieldText.L0
        · rw [if_neg kI] at H;have c38b0 := qf kI;have c38b1 := bu kI;obtain rfl := ojz H;go_enter Tryz.func41, Tryz.ntmps41;go_wp2_with (first | ((with_reducible refine gate_dst (N := 2) rfl ?_); refine box_event ?hg (N := 2) ?hd (cs := #[.string ab, .int .i64 aa, .slice bj ai.length bl, .slice bm aj.length bn, .string ak, .string an, .string ap, .int .i64 ar, .int .i64 av, .int .i64 aw, .bool af, .int .i64 ac, .string ae, .string ag]) (t := 34) ?hr ?_; (case hd => rfl); (case hg => rfl); (case hr => first | (go_simp; done) | (go_simp; rfl)); intro qg hg w41 hbox hb; have iJ := am (hbox); have FD := am (bsz hg au51); have vH := am (bsz hg au51); replace HB := am (below_step au51 hb); clear hb hbox hg));go_ret;exact ax10
mutual
def impl_changedFields.l0 : Nat → List ByteArray → Int → ByteArray → Int → List (S62) → List (S62) → ByteArray → ByteArray → ByteArray → Int → Int → Int → Bool → Int → ByteArray → ByteArray → ByteArray → Int → List (S62) → List (S62) → ByteArray → ByteArray → ByteArray → Int → Int → Int → Bool → Int → ByteArray → ByteArray → Option (List ByteArray)
 | 0, _, _, _, _, _, _, _, _, _, _, _, _, _, _, _, _, _, _, _, _, _, _, _, _, _, _, _, _, _, _ => none
 | k + 1, x5, lv, kK, mA, nN, nO, nP, nQ, nR, nS, nT, nU, nV, nW, nX, mB, kL, mC, nY, nZ, o0, o1, o2, o3, o4, o5, o6, o7, o8, mD => if lv < 8 then (if 0 ≤ lv then ((impl_fieldText.f k kK mA nN nO nP nQ nR nS nT nU nV nW nX mB (rdOf ByteArray.empty fieldsL lv)).bind fun HF => ((impl_fieldText.f k kL mC nY nZ o0 o1 o2 o3 o4 o5 o6 o7 o8 mD (rdOf ByteArray.empty fieldsL lv)).bind fun HH => (if HF.toList = HH.toList then (impl_changedFields.l0 k x5 (wrap64 (lv + 1)) kK mA nN nO nP nQ nR nS nT nU nV nW nX mB kL mC nY nZ o0 o1 o2 o3 o4 o5 o6 o7 o8 mD) else (if x5.length < 8796093022208 then (impl_changedFields.l0 k (x5 ++ [rdOf ByteArray.empty fieldsL lv]) (wrap64 (lv + 1)) kK mA nN nO nP nQ nR nS nT nU nV nW nX mB kL mC nY nZ o0 o1 o2 o3 o4 o5 o6 o7 o8 mD) else (none))))) else (none)) else (if mB.toList = mD.toList then (impl_changedFields.j1 k x5 kK mA nN nO nP nQ nR nS nT nU nV nW nX mB kL mC nY nZ o0 o1 o2 o3 o4 o5 o6 o7 o8 mD) else (if x5.length < 8796093022208 then (impl_changedFields.j1 k (x5 ++ [(⟨#[99, 114, 111, 115, 115]⟩ : ByteArray)]) kK mA nN nO nP nQ nR nS nT nU nV nW nX mB kL mC nY nZ o0 o1 o2 o3 o4 o5 o6 o7 o8 mD) else (none)))
def impl_changedFields.j1 : Nat → List ByteArray → ByteArray → Int → List (S62) → List (S62) → ByteArray → ByteArray → ByteArray → Int → Int → Int → Bool → Int → ByteArray → ByteArray → ByteArray → Int → List (S62) → List (S62) → ByteArray → ByteArray → ByteArray → Int → Int → Int → Bool → Int → ByteArray → ByteArray → Option (List ByteArray)
 | 0, _, _, _, _, _, _, _, _, _, _, _, _, _, _, _, _, _, _, _, _, _, _, _, _, _, _, _, _, _ => none
 | k + 1, x5, kK, mA, nN, nO, nP, nQ, nR, nS, nT, nU, nV, nW, nX, mB, kL, mC, nY, nZ, o0, o1, o2, o3, o4, o5, o6, o7, o8, mD => if mA = mC then (if kK.toList = kL.toList then (some x5) else (if x5.length < 8796093022208 then (some (x5 ++ [(⟨#[107, 101, 121]⟩ : ByteArray)])) else (none))) else (if x5.length < 8796093022208 then ((some (x5 ++ [(⟨#[107, 105, 110, 100]⟩ : ByteArray)] : List ByteArray)).bind fun qn => (if kK.toList = kL.toList then (some qn) else (if qn.length < 8796093022208 then (some (qn ++ [(⟨#[107, 101, 121]⟩ : ByteArray)])) else (none)))) else (none))
end
def impl_changedFields.f (k : Nat) (ab : ByteArray) (aa : Int) (ai : List (S62)) (aj : List (S62)) (ak : ByteArray) (an : ByteArray) (ap : ByteArray) (ar : Int) (av : Int) (aw : Int) (af : Bool) (ac : Int) (ae : ByteArray) (ag : ByteArray) (aR : ByteArray) (aQ : Int) (aM : List (S62)) (aN : List (S62)) (aZ : ByteArray) (ba : ByteArray) (bb : ByteArray) (aW : Int) (aX : Int) (aY : Int) (aG : Bool) (aH : Int) (aI : ByteArray) (aE : ByteArray) : Option (List ByteArray) := impl_changedFields.l0 k (([] : List ByteArray)) 0 ab aa ai aj ak an ap ar av aw af ac ae ag aR aQ aM aN aZ ba bb aW aX aY aG aH aI aE
theorem impl_changedFields.mono_l : ∀ k, (∀ y0 y1 y2 y3 y4 y5 y6 y7 y8 y9 dZ e7 e8 e9 ea gf gg gh gi gj gm gn gp gq gr gt gu gv gw kY, LeO (impl_changedFields.l0 k y0 y1 y2 y3 y4 y5 y6 y7 y8 y9 dZ e7 e8 e9 ea gf gg gh gi gj gm gn gp gq gr gt gu gv gw kY) (impl_changedFields.l0 (k + 1) y0 y1 y2 y3 y4 y5 y6 y7 y8 y9 dZ e7 e8 e9 ea gf gg gh gi gj gm gn gp gq gr gt gu gv gw kY)) ∧ (∀ y0 y1 y2 y3 y4 y5 y6 y7 y8 y9 dZ e7 e8 e9 ea gf gg gh gi gj gm gn gp gq gr gt gu gv gw, LeO (impl_changedFields.j1 k y0 y1 y2 y3 y4 y5 y6 y7 y8 y9 dZ e7 e8 e9 ea gf gg gh gi gj gm gn gp gq gr gt gu gv gw) (impl_changedFields.j1 (k + 1) y0 y1 y2 y3 y4 y5 y6 y7 y8 y9 dZ e7 e8 e9 ea gf gg gh gi gj gm gn gp gq gr gt gu gv gw))
 | 0 => ⟨fun _ _ _ _ _ _ _ _ _ _ _ _ _ _ _ _ _ _ _ _ _ _ _ _ _ _ _ _ _ _ r h => by simp [impl_changedFields.l0] at h, fun _ _ _ _ _ _ _ _ _ _ _ _ _ _ _ _ _ _ _ _ _ _ _ _ _ _ _ _ _ r h => by simp [impl_changedFields.j1] at h⟩
 | k + 1 => by
  obtain ⟨ih0, ih1⟩ := impl_changedFields.mono_l k;refine ⟨?_, ?_⟩
  ·
   intro y0 y1 y2 y3 y4 y5 y6 y7 y8 y9 dZ e7 e8 e9 ea gf gg gh gi gj gm gn gp gq gr gt gu gv gw kY;unfold impl_changedFields.l0
   repeat' first
   | (with_reducible exact ih0 _ _ _ _ _ _ _ _ _ _ _ _ _ _ _ _ _ _ _ _ _ _ _ _ _ _ _ _ _ _)
   | (with_reducible exact ih1 _ _ _ _ _ _ _ _ _ _ _ _ _ _ _ _ _ _ _ _ _ _ _ _ _ _ _ _ _)
   | (with_reducible exact impl_fieldText.mono _ _ _ _ _ _ _ _ _ _ _ _ _ _ _ _)
   | (with_reducible exact LeO.refl _)
   | (with_reducible exact LeO.none _)
   | (with_reducible refine LeO.ite ?_ ?_)
   | (with_reducible refine LeO.bind ?_ (fun _ => ?_))
   | exact ih0 _ _ _ _ _ _ _ _ _ _ _ _ _ _ _ _ _ _ _ _ _ _ _ _ _ _ _ _ _ _
   | exact ih1 _ _ _ _ _ _ _ _ _ _ _ _ _ _ _ _ _ _ _ _ _ _ _ _ _ _ _ _ _
   | exact impl_fieldText.mono _ _ _ _ _ _ _ _ _ _ _ _ _ _ _ _
   | exact LeO.none _
   | refine LeO.ite ?_ ?_
   | refine LeO.bind ?_ (fun _ => ?_)
  ·
   intro y0 y1 y2 y3 y4 y5 y6 y7 y8 y9 dZ e7 e8 e9 ea gf gg gh gi gj gm gn gp gq gr gt gu gv gw;unfold impl_changedFields.j1
   repeat' first
   | (with_reducible exact ih0 _ _ _ _ _ _ _ _ _ _ _ _ _ _ _ _ _ _ _ _ _ _ _ _ _ _ _ _ _ _)
   | (with_reducible exact ih1 _ _ _ _ _ _ _ _ _ _ _ _ _ _ _ _ _ _ _ _ _ _ _ _ _ _ _ _ _)
   | (with_reducible exact impl_fieldText.mono _ _ _ _ _ _ _ _ _ _ _ _ _ _ _ _)
   | (with_reducible exact LeO.refl _)
   | (with_reducible exact LeO.none _)
   | (with_reducible refine LeO.ite ?_ ?_)
   | (with_reducible refine LeO.bind ?_ (fun _ => ?_))
   | exact ih0 _ _ _ _ _ _ _ _ _ _ _ _ _ _ _ _ _ _ _ _ _ _ _ _ _ _ _ _ _ _
   | exact ih1 _ _ _ _ _ _ _ _ _ _ _ _ _ _ _ _ _ _ _ _ _ _ _ _ _ _ _ _ _
   | exact impl_fieldText.mono _ _ _ _ _ _ _ _ _ _ _ _ _ _ _ _
   | exact LeO.none _
   | refine LeO.ite ?_ ?_
   | refine LeO.bind ?_ (fun _ => ?_)
theorem impl_changedFields.mono : ∀ a0 a1 a2 a3 a4 a5 a6 a7 a8 a9 cP cQ cR cS eU kZ l4 l5 l6 l7 a20 a21 a22 a23 l8 a25 l9 lc k, LeO (impl_changedFields.f k a0 a1 a2 a3 a4 a5 a6 a7 a8 a9 cP cQ cR cS eU kZ l4 l5 l6 l7 a20 a21 a22 a23 l8 a25 l9 lc) (impl_changedFields.f (k + 1) a0 a1 a2 a3 a4 a5 a6 a7 a8 a9 cP cQ cR cS eU kZ l4 l5 l6 l7 a20 a21 a22 a23 l8 a25 l9 lc) := by
 intro a0 a1 a2 a3 a4 a5 a6 a7 a8 a9 cP cQ cR cS eU kZ l4 l5 l6 l7 a20 a21 a22 a23 l8 a25 l9 lc k;obtain ⟨ih0, ih1⟩ := impl_changedFields.mono_l k;unfold impl_changedFields.f
 repeat' first
   | (with_reducible exact ih0 _ _ _ _ _ _ _ _ _ _ _ _ _ _ _ _ _ _ _ _ _ _ _ _ _ _ _ _ _ _)
   | (with_reducible exact ih1 _ _ _ _ _ _ _ _ _ _ _ _ _ _ _ _ _ _ _ _ _ _ _ _ _ _ _ _ _)
   | (with_reducible exact impl_fieldText.mono _ _ _ _ _ _ _ _ _ _ _ _ _ _ _ _)
   | (with_reducible exact LeO.refl _)
   | (with_reducible exact LeO.none _)
   | (with_reducible refine LeO.ite ?_ ?_)
   | (with_reducible refine LeO.bind ?_ (fun _ => ?_))
   | exact ih0 _ _ _ _ _ _ _ _ _ _ _ _ _ _ _ _ _ _ _ _ _ _ _ _ _ _ _ _ _ _
   | exact ih1 _ _ _ _ _ _ _ _ _ _ _ _ _ _ _ _ _ _ _ _ _ _ _ _ _ _ _ _ _
   | exact impl_fieldText.mono _ _ _ _ _ _ _ _ _ _ _ _ _ _ _ _
   | exact LeO.none _
   | refine LeO.ite ?_ ?_
   | refine LeO.bind ?_ (fun _ => ?_)
set_option maxRecDepth 100000 in
theorem impl_changedFields.L0 {P : Prop} (h : P := by
  go_wp2_with (first | ((with_reducible refine gate_dst (N := 9) rfl ?_); refine tab_event rfl rfl (tab_load0 (Kd.C_below GTfields.out au51) rfl) ?_) | ((with_reducible refine gate_dst (N := 12) rfl ?_); refine tab_event rfl rfl (tab_index0 rfl rfl rfl (od au106) (od au106)) ?_) | ((with_reducible refine gate_builtin (b := .append) (xs := #[.tmp 38, .tmp 39]) rfl ?_); at_builtin; refine Kd.R_append Kd.string (w0 := w) w.heap.size rfl (.tmp 38) (.tmp 39) 28 9 (.string ⟨#[]⟩) 16 rfl Tryz.underlying28 info9 rfl (by decide) (by omega) u5 mI (⟨#[107, 105, 110, 100]⟩ : ByteArray) [.string (⟨#[107, 105, 110, 100]⟩ : ByteArray)] (fun _ => True) (fun _ => False) rfl rfl ?aP (fun _ hk => hk.elim) ?aF ?aO ?aB ?aS ?aL ?_; (case aP => exact rfl); (case aB => exact au23); (case aF => exact (fun _ _ => trivial)); (case aO => exact au101); (case aS => exact (below_size au23)); (case aL => have := S4.out; omega); intro Ye w42 ho hb hg hat; rw [← S5.out] at ho; have cZ := am (blk_grown (g := cf) (o := .cells #[.string ab, .int .i64 aa, .slice bj ai.length bl, .slice bm aj.length bn, .string ak, .string an, .string ap, .int .i64 ar, .int .i64 av, .int .i64 aw, .bool af, .int .i64 ac, .string ae, .string ag] 34 (0, 0)) au72 hg (Kd.R_ne dH.out bd.out (by decide))); have d0 := am (blk_grown (g := cp) (o := .cells #[.string aR, .int .i64 aQ, .slice bI aM.length bJ, .slice bL aN.length bM, .string aZ, .string ba, .string bb, .int .i64 aW, .int .i64 aX, .int .i64 aY, .bool aG, .int .i64 aH, .string aI, .string aE] 34 (0, 0)) au73 hg (Kd.R_ne dH.out be.out (by decide))); have dQ := am (hb); have dU := am (ho); clear bd; clear be; clear HB; clear dH; have bd := cZ; have be := d0; have HB := dQ; have xB := dU; clear cZ d0 dQ dU; clear ho hb hg hat; obtain ⟨BQ, BR, BS, BU, BV, BW, BX, BZ, C0, C1, yt, yu, yv, yw, C2, C3, C4, C5, C6, C7, C8, C9, Ca, Cb, yx, yy, yz, yA⟩ := blkc14 bd.out; obtain ⟨ahL, ahM, ahN, ahO, ahP, ahQ, ahR, ahS, ahT, ahU, a6A, a6B, a6C, a6D, ahV, ahW, ahX, ahY, ahZ, ai0, ai1, ai2, ai3, ai4, a6E, a6F, a6G, a6H⟩ := blkc14 be.out));go_ret
  first | (exact ⟨_, by first | rfl | (simp [errW_none, errW_some] <;> rfl) | (simp [*, errW_none, errW_some] <;> rfl), by (with_reducible repeat (first | apply Kd.R_alloc | apply Kd.R_drewN | apply Kd.R_drew)); exact xB.out, by repeat (first | (with_reducible first | exact HB.out | apply below_alloc | apply pw_below_drewN | apply below_drew1 | refine below_set ?_ kO.out | refine below_set ?_ mE.out) | exact HB.out)⟩) | (exact ⟨_, by first | rfl | (simp [errW_none, errW_some] <;> rfl) | (simp [*, errW_none, errW_some] <;> rfl), by (with_reducible repeat (first | apply Kd.R_alloc | apply Kd.R_drewN | apply Kd.R_drew)); exact dH.out, by repeat (first | (with_reducible first | exact HB.out | apply below_alloc | apply pw_below_drewN | apply below_drew1 | refine below_set ?_ kO.out | refine below_set ?_ mE.out) | exact HB.out)⟩)) : P := h
set_option maxRecDepth 100000 in
theorem impl_changedFields.L1 {P : Prop} (h : P := by
  try go_wp2_with (first | ((with_reducible refine gate_dst (N := 9) rfl ?_); refine tab_event rfl rfl (tab_load0 (Kd.C_below GTfields.out au51) rfl) ?_) | ((with_reducible refine gate_dst (N := 12) rfl ?_); refine tab_event rfl rfl (tab_index0 rfl rfl rfl (od au106) (od au106)) ?_) | ((with_reducible refine gate_builtin (b := .append) (xs := #[.tmp 20, .tmp 22]) rfl ?_); at_builtin; refine Kd.R_append Kd.string (w0 := w) w.heap.size rfl (.tmp 20) (.tmp 22) 28 9 (.string ⟨#[]⟩) 16 rfl Tryz.underlying28 info9 rfl (by decide) (by omega) u5 az (rdOf ByteArray.empty fieldsL eG) [.string (rdOf ByteArray.empty fieldsL eG)] (fun _ => True) (fun _ => False) rfl rfl ?aP (fun _ hk => hk.elim) ?aF ?aO ?aB ?aS ?aL ?_; (case aP => exact rfl); (case aB => exact au23); (case aF => exact (fun _ _ => trivial)); (case aO => exact au101); (case aS => exact (below_size au23)); (case aL => have := a0A.out; omega); intro aoe Rt ho hb hg hat; rw [← a0B.out] at ho; have cZ := am (blk_grown (g := cf) (o := .cells #[.string ab, .int .i64 aa, .slice bj ai.length bl, .slice bm aj.length bn, .string ak, .string an, .string ap, .int .i64 ar, .int .i64 av, .int .i64 aw, .bool af, .int .i64 ac, .string ae, .string ag] 34 (0, 0)) au72 hg (Kd.R_ne dH.out bd.out (by decide))); have d0 := am (blk_grown (g := cp) (o := .cells #[.string aR, .int .i64 aQ, .slice bI aM.length bJ, .slice bL aN.length bM, .string aZ, .string ba, .string bb, .int .i64 aW, .int .i64 aX, .int .i64 aY, .bool aG, .int .i64 aH, .string aI, .string aE] 34 (0, 0)) au73 hg (Kd.R_ne dH.out be.out (by decide))); have dQ := am (hb); have dU := am (ho); clear bd; clear be; clear HB; clear dH; have bd := cZ; have be := d0; have HB := dQ; have a0C := dU; clear cZ d0 dQ dU; clear ho hb hg hat))
  go_roundg k1
  case measure => have := HK1.out; omega
  case rel => first | (exact ⟨(Yf), (wrap64 (eG + 1)), au107, H', ⟨by have := HK1.out; omega⟩, ⟨by (with_reducible repeat (first | apply Kd.R_alloc | apply Kd.R_drewN | apply Kd.R_drew)); exact a0C.out⟩, ⟨by (with_reducible repeat (first | refine blk_drewN ?_ _ | refine blk_drew ?_ | refine blk_alloc ?_ _)); exact bd.out⟩, ⟨by (with_reducible repeat (first | refine blk_drewN ?_ _ | refine blk_drew ?_ | refine blk_alloc ?_ _)); exact be.out⟩, ⟨by repeat (first | (with_reducible first | exact HB.out | apply below_alloc | apply pw_below_drewN | apply below_drew1 | refine below_set ?_ kO.out | refine below_set ?_ mE.out) | exact HB.out)⟩⟩) | (exact ⟨(az), (wrap64 (eG + 1)), au107, H', ⟨by have := HK1.out; omega⟩, ⟨by (with_reducible repeat (first | apply Kd.R_alloc | apply Kd.R_drewN | apply Kd.R_drew)); exact dH.out⟩, ⟨by (with_reducible repeat (first | refine blk_drewN ?_ _ | refine blk_drew ?_ | refine blk_alloc ?_ _)); exact bd.out⟩, ⟨by (with_reducible repeat (first | refine blk_drewN ?_ _ | refine blk_drew ?_ | refine blk_alloc ?_ _)); exact be.out⟩, ⟨by repeat (first | (with_reducible first | exact HB.out | apply below_alloc | apply pw_below_drewN | apply below_drew1 | refine below_set ?_ kO.out | refine below_set ?_ mE.out) | exact HB.out)⟩⟩)) : P := h
set_option maxRecDepth 100000 in
theorem impl_changedFields.L2 {P : Prop} (h : P := by
  go_wp2_with (first | ((with_reducible refine gate_dst (N := 9) rfl ?_); refine tab_event rfl rfl (tab_load0 (Kd.C_below GTfields.out au51) rfl) ?_) | ((with_reducible refine gate_dst (N := 12) rfl ?_); refine tab_event rfl rfl (tab_index0 rfl rfl rfl (od au106) (od au106)) ?_) | ((with_reducible refine gate_builtin (b := .append) (xs := #[.tmp 30, .tmp 31]) rfl ?_); at_builtin; refine Kd.R_append Kd.string (w0 := w) w.heap.size rfl (.tmp 30) (.tmp 31) 28 9 (.string ⟨#[]⟩) 16 rfl Tryz.underlying28 info9 rfl (by decide) (by omega) u5 az (⟨#[99, 114, 111, 115, 115]⟩ : ByteArray) [.string (⟨#[99, 114, 111, 115, 115]⟩ : ByteArray)] (fun _ => True) (fun _ => False) rfl rfl ?aP (fun _ hk => hk.elim) ?aF ?aO ?aB ?aS ?aL ?_; (case aP => exact rfl); (case aB => exact au23); (case aF => exact (fun _ _ => trivial)); (case aO => exact au101); (case aS => exact (below_size au23)); (case aL => have := a0D.out; omega); intro aof w26 ho hb hg hat; rw [← a0E.out] at ho; have cZ := am (blk_grown (g := cf) (o := .cells #[.string ab, .int .i64 aa, .slice bj ai.length bl, .slice bm aj.length bn, .string ak, .string an, .string ap, .int .i64 ar, .int .i64 av, .int .i64 aw, .bool af, .int .i64 ac, .string ae, .string ag] 34 (0, 0)) au72 hg (Kd.R_ne dH.out bd.out (by decide))); have d0 := am (blk_grown (g := cp) (o := .cells #[.string aR, .int .i64 aQ, .slice bI aM.length bJ, .slice bL aN.length bM, .string aZ, .string ba, .string bb, .int .i64 aW, .int .i64 aX, .int .i64 aY, .bool aG, .int .i64 aH, .string aI, .string aE] 34 (0, 0)) au73 hg (Kd.R_ne dH.out be.out (by decide))); have dQ := am (hb); have dU := am (ho); clear bd; clear be; clear HB; clear dH; have bd := cZ; have be := d0; have HB := dQ; have a0F := dU; clear cZ d0 dQ dU; clear ho hb hg hat));go_meet
  case rel => first | (exact ⟨_, (Yg), H', ⟨by have := HK1.out; first | omega | exact Nat.le_refl _⟩, ⟨by (with_reducible repeat (first | apply Kd.R_alloc | apply Kd.R_drewN | apply Kd.R_drew)); exact a0F.out⟩, ⟨by (with_reducible repeat (first | refine blk_drewN ?_ _ | refine blk_drew ?_ | refine blk_alloc ?_ _)); exact bd.out⟩, ⟨by (with_reducible repeat (first | refine blk_drewN ?_ _ | refine blk_drew ?_ | refine blk_alloc ?_ _)); exact be.out⟩, ⟨by repeat (first | (with_reducible first | exact HB.out | apply below_alloc | apply pw_below_drewN | apply below_drew1 | refine below_set ?_ kO.out | refine below_set ?_ mE.out) | exact HB.out)⟩⟩) | (exact ⟨_, (az), H', ⟨by have := HK1.out; first | omega | exact Nat.le_refl _⟩, ⟨by (with_reducible repeat (first | apply Kd.R_alloc | apply Kd.R_drewN | apply Kd.R_drew)); exact dH.out⟩, ⟨by (with_reducible repeat (first | refine blk_drewN ?_ _ | refine blk_drew ?_ | refine blk_alloc ?_ _)); exact bd.out⟩, ⟨by (with_reducible repeat (first | refine blk_drewN ?_ _ | refine blk_drew ?_ | refine blk_alloc ?_ _)); exact be.out⟩, ⟨by repeat (first | (with_reducible first | exact HB.out | apply below_alloc | apply pw_below_drewN | apply below_drew1 | refine below_set ?_ kO.out | refine below_set ?_ mE.out) | exact HB.out)⟩⟩)) : P := h
set_option maxHeartbeats 8000000 in
set_option maxRecDepth 100000 in
theorem impl_changedFields.calls (k : Nat) (ab : ByteArray) (aa : Int) (bj : Option Addr) (bl : Nat) (ai : List (S62)) (bm : Option Addr) (bn : Nat) (aj : List (S62)) (ak : ByteArray) (an : ByteArray) (ap : ByteArray) (ar : Int) (av : Int) (aw : Int) (af : Bool) (ac : Int) (ae : ByteArray) (ag : ByteArray) (aR : ByteArray) (aQ : Int) (bI : Option Addr) (bJ : Nat) (aM : List (S62)) (bL : Option Addr) (bM : Nat) (aN : List (S62)) (aZ : ByteArray) (ba : ByteArray) (bb : ByteArray) (aW : Int) (aX : Int) (aY : Int) (aG : Bool) (aH : Int) (aI : ByteArray) (aE : ByteArray) (r : List ByteArray) (w : World) {gF2 : Bool} (hG : GL true gF2 true w) (cV : Kd.C k62 w bj ai.length ai) (cL : ai.length ≤ bl) (cW : Kd.C k62 w bm aj.length aj) (cM : aj.length ≤ bn) (fQ : Kd.C k62 w bI aM.length aM) (fa : aM.length ≤ bJ) (fR : Kd.C k62 w bL aN.length aN) (fb : aN.length ≤ bM) (h : impl_changedFields.f k ab aa ai aj ak an ap ar av aw af ac ae ag aR aQ aM aN aZ ba bb aW aX aY aG aH aI aE = some r) :
  Calls Tryz.prog 20 #[.agg #[.string ab, .int .i64 aa, .slice bj ai.length bl, .slice bm aj.length bn, .string ak, .string an, .string ap, .int .i64 ar, .int .i64 av, .int .i64 aw, .bool af, .int .i64 ac, .string ae, .string ag], .agg #[.string aR, .int .i64 aQ, .slice bI aM.length bJ, .slice bL aN.length bM, .string aZ, .string ba, .string bb, .int .i64 aW, .int .i64 aX, .int .i64 aY, .bool aG, .int .i64 aH, .string aI, .string aE]] w fun e w' => ∃ gA : Value, e = .returned (gA) ∧ Kd.R Kd.string 9 w' w.heap.size (fun _ => True) gA r ∧ Below w.heap.size w w' := by
 have HG := am hG;have GTfields := am (C_fields hG);clear hG;have hu34 := Tryz.underlying34;have ck := am cV;have cn := am cL;clear cV cL;have cz := am cW;have cA := am cM;clear cW cM;have ee := am fQ;have ef := am fa;clear fQ fa;have em := am fR;have en := am fb;clear fR fb;have HB := am (Below.refl w.heap.size w);have H : (impl_changedFields.l0 k (([] : List ByteArray)) 0 ab aa ai aj ak an ap ar av aw af ac ae ag aR aQ aM aN aZ ba bb aW aX aY aG aH aI aE) = some r := h;clear h
 obtain ⟨Yh, B0⟩ : ∃ y_ : List ByteArray, y_ = (([] : List ByteArray)) := ⟨_, rfl⟩
 replace H : (impl_changedFields.l0 k Yh 0 ab aa ai aj ak an ap ar av aw af ac ae ag aR aQ aM aN aZ ba bb aW aX aY aG aH aI aE) = some r := by first | (rw [B0]; with_reducible exact H) | (have H2_ := (Option.bind_some _ _).symm.trans H; rw [B0]; with_reducible exact H2_) | (have H2_ := (Option.bind_some _ _).symm.trans H; with_reducible exact H2_) | with_reducible exact H | (rw [B0]; exact H) | exact H
 have S6 := am B0;clear B0;have H' := am H;clear H;go_enter Tryz.func20, Tryz.ntmps20;go_wp2_with (first | ((with_reducible refine gate_dst (N := 9) rfl ?_); refine tab_event rfl rfl (tab_load0 (Kd.C_below GTfields.out au51) rfl) ?_) | ((with_reducible refine gate_dst (N := 12) rfl ?_); refine tab_event rfl rfl (tab_index0 rfl rfl rfl (od au106) (od au106)) ?_) | ((with_reducible refine gate_dst (N := 2) rfl ?_); refine box_event ?hg (N := 2) ?hd (cs := #[.string ab, .int .i64 aa, .slice bj ai.length bl, .slice bm aj.length bn, .string ak, .string an, .string ap, .int .i64 ar, .int .i64 av, .int .i64 aw, .bool af, .int .i64 ac, .string ae, .string ag]) (t := 34) ?hr ?_; (case hd => rfl); (case hg => rfl); (case hr => first | (go_simp; done) | (go_simp; rfl)); intro cf hg w3 hbox hb; have bd := am (hbox); have amq := am (bsz hg au51); have kO := am (bsz hg au51); replace HB := am (below_step au51 hb); clear hb hbox hg) | ((with_reducible refine gate_dst (N := 3) rfl ?_); refine box_event ?hg (N := 3) ?hd (cs := #[.string aR, .int .i64 aQ, .slice bI aM.length bJ, .slice bL aN.length bM, .string aZ, .string ba, .string bb, .int .i64 aW, .int .i64 aX, .int .i64 aY, .bool aG, .int .i64 aH, .string aI, .string aE]) (t := 34) ?hr ?_; (case hd => rfl); (case hg => rfl); (case hr => first | (go_simp; done) | (go_simp; rfl)); intro cp hg w4 hbox hb; have be := am (hbox); have amr := am (bsz hg au43); have mE := am (bsz hg au43); replace HB := am (below_step au43 hb); have mR := am (bne (g := cf) hg au72); have mS := am (ben (g := cf) hg au72); replace bd := am (blk_below (g := cf) au72 hb); clear hb hbox hg) | ((with_reducible refine gate_dst (N := 8) rfl ?_); refine Kd.R_lit Kd.string _ 9 ?hg (N := 8) ?hd (xs := ([] : List ByteArray)) (inner := []) (ok := fun _ => True) (okp := fun _ => True) ?hr ?hp (fun _ hk => hk) trivial (Below.refl _ _) (Nat.le_refl _) (by simp) ?_; (case hd => rfl); (case hg => rfl); (case hr => first | (go_simp; done) | (go_simp; rfl)); (case hp => exact (Reps.none _ _)); intro aog w5 ho6 hb hg_ hnew_; clear hg_ hnew_; (first | rw [← S6.out] at ho6 | (simp only [Int.reduceToNat] at ho6; rw [← S6.out] at ho6)); have a0G := am (Kd.R_lower ho6 (below_size au23)); replace bd := am (blk_below (g := cf) au72 hb); replace be := am (blk_below (g := cp) au73 hb); replace HB := am (below_step au23 hb); clear hb ho6))
 go_loopg [5, 10] k (fun kq v5 v10 w' => ∃ (az : List ByteArray) (eG : Int), v10 = .int .i64 eG ∧ Aside0 (impl_changedFields.l0 kq az eG ab aa ai aj ak an ap ar av aw af ac ae ag aR aQ aM aN aZ ba bb aW aX aY aG aH aI aE = some r) ∧ Aside0 (kq ≤ k) ∧ Aside0 (Kd.R Kd.string 9 w' w.heap.size (fun _ => True) v5 az) ∧ Aside0 (w'.heap[cf]? = some (.cells #[.string ab, .int .i64 aa, (.slice bj ai.length bl), (.slice bm aj.length bn), .string ak, .string an, .string ap, .int .i64 ar, .int .i64 av, .int .i64 aw, .bool af, .int .i64 ac, .string ae, .string ag] 34 (0, 0))) ∧ Aside0 (w'.heap[cp]? = some (.cells #[.string aR, .int .i64 aQ, (.slice bI aM.length bJ), (.slice bL aN.length bM), .string aZ, .string ba, .string bb, .int .i64 aW, .int .i64 aX, .int .i64 aY, .bool aG, .int .i64 aH, .string aI, .string aE] 34 (0, 0))) ∧ Aside0 (Below w.heap.size w w'))
 case atStart => exact ⟨(Yh), (0), au107, H', ⟨Nat.le_refl _⟩, ⟨by (with_reducible repeat (first | apply Kd.R_alloc | apply Kd.R_drewN | apply Kd.R_drew)); exact a0G.out⟩, ⟨by (with_reducible repeat (first | refine blk_drewN ?_ _ | refine blk_drew ?_ | refine blk_alloc ?_ _)); exact bd.out⟩, ⟨by (with_reducible repeat (first | refine blk_drewN ?_ _ | refine blk_drew ?_ | refine blk_alloc ?_ _)); exact be.out⟩, ⟨by repeat (first | (with_reducible first | exact HB.out | apply below_alloc | apply pw_below_drewN | apply below_drew1 | refine below_set ?_ kO.out | refine below_set ?_ mE.out) | exact HB.out)⟩⟩
 case round =>
  clear H'
  try clear c1
  try clear c2
  try clear p2
  obtain ⟨az, eG, rfl, HA, HK1, dH, bd, be, HB⟩ := hrel
  cases gk with
  | zero => exact absurd HA.out (by simp [impl_changedFields.l0])
  | succ k1 =>
   have H := HA.out;clear HA;simp only [impl_changedFields.l0] at H;by_cases c7 : eG < 8
   ·
    rw [if_pos c7] at H;have c7b0 := dt c7;clear c7;by_cases c8 : 0 ≤ eG
    ·
     rw [if_pos c8] at H;have c8b0 := dt c8;clear c8;replace H := ob H;obtain ⟨HF, jR, H⟩ := H
     try dsimp only at H
     have A9 := am jR;clear jR;replace H := ob H;obtain ⟨HH, er, H⟩ := H
     try dsimp only at H
     have gB := am er;clear er;by_cases bH : HF.toList = HH.toList
     ·
      rw [if_pos bH] at H;have c11b0 := qt bH;have c11b1 := bf bH;clear bH;have H' := am H;clear H
      try go_wp2_with (first | ((with_reducible refine gate_dst (N := 9) rfl ?_); refine tab_event rfl rfl (tab_load0 (Kd.C_below GTfields.out au51) rfl) ?_) | ((with_reducible refine gate_dst (N := 12) rfl ?_); refine tab_event rfl rfl (tab_index0 rfl rfl rfl (od au106) (od au106)) ?_))
      replace dH := am (Kd.R_drew dH.out);replace bd := am (blk_drew bd.out);replace be := am (blk_drew be.out);replace HB := am (below_drew1 HB.out);refine start_ (n := 7) (S := fun w' => w'.cell? ⟨cf, 0, none⟩ = some (.string ab) ∧ w'.cell? ⟨cf, 1, none⟩ = some (.int .i64 aa) ∧ w'.cell? ⟨cf, 2, none⟩ = some (.slice bj ai.length bl) ∧ w'.cell? ⟨cf, 3, none⟩ = some (.slice bm aj.length bn) ∧ w'.cell? ⟨cf, 4, none⟩ = some (.string ak) ∧ w'.cell? ⟨cf, 5, none⟩ = some (.string an) ∧ w'.cell? ⟨cf, 6, none⟩ = some (.string ap) ∧ w'.cell? ⟨cf, 7, none⟩ = some (.int .i64 ar) ∧ w'.cell? ⟨cf, 8, none⟩ = some (.int .i64 av) ∧ w'.cell? ⟨cf, 9, none⟩ = some (.int .i64 aw) ∧ w'.cell? ⟨cf, 10, none⟩ = some (.bool af) ∧ w'.cell? ⟨cf, 11, none⟩ = some (.int .i64 ac) ∧ w'.cell? ⟨cf, 12, none⟩ = some (.string ae) ∧ w'.cell? ⟨cf, 13, none⟩ = some (.string ag) ∧ w'.cell? ⟨cp, 0, none⟩ = some (.string aR) ∧ w'.cell? ⟨cp, 1, none⟩ = some (.int .i64 aQ) ∧ w'.cell? ⟨cp, 2, none⟩ = some (.slice bI aM.length bJ) ∧ w'.cell? ⟨cp, 3, none⟩ = some (.slice bL aN.length bM) ∧ w'.cell? ⟨cp, 4, none⟩ = some (.string aZ) ∧ w'.cell? ⟨cp, 5, none⟩ = some (.string ba) ∧ w'.cell? ⟨cp, 6, none⟩ = some (.string bb) ∧ w'.cell? ⟨cp, 7, none⟩ = some (.int .i64 aW) ∧ w'.cell? ⟨cp, 8, none⟩ = some (.int .i64 aX) ∧ w'.cell? ⟨cp, 9, none⟩ = some (.int .i64 aY) ∧ w'.cell? ⟨cp, 10, none⟩ = some (.bool aG) ∧ w'.cell? ⟨cp, 11, none⟩ = some (.int .i64 aH) ∧ w'.cell? ⟨cp, 12, none⟩ = some (.string aI) ∧ w'.cell? ⟨cp, 13, none⟩ = some (.string aE)) (ds := []) #[false, false, false, false, false, false, false] (by kernel_rfl) rfl rfl ⟨(blk_cell bd.out 0).trans rfl, (blk_cell bd.out 1).trans rfl, (blk_cell bd.out 2).trans rfl, (blk_cell bd.out 3).trans rfl, (blk_cell bd.out 4).trans rfl, (blk_cell bd.out 5).trans rfl, (blk_cell bd.out 6).trans rfl, (blk_cell bd.out 7).trans rfl, (blk_cell bd.out 8).trans rfl, (blk_cell bd.out 9).trans rfl, (blk_cell bd.out 10).trans rfl, (blk_cell bd.out 11).trans rfl, (blk_cell bd.out 12).trans rfl, (blk_cell bd.out 13).trans rfl, (blk_cell be.out 0).trans rfl, (blk_cell be.out 1).trans rfl, (blk_cell be.out 2).trans rfl, (blk_cell be.out 3).trans rfl, (blk_cell be.out 4).trans rfl, (blk_cell be.out 5).trans rfl, (blk_cell be.out 6).trans rfl, (blk_cell be.out 7).trans rfl, (blk_cell be.out 8).trans rfl, (blk_cell be.out 9).trans rfl, (blk_cell be.out 10).trans rfl, (blk_cell be.out 11).trans rfl, (blk_cell be.out 12).trans rfl, (blk_cell be.out 13).trans rfl⟩ (fun hHeld => ?_);generalize wr.drew = Aw at dH bd be HB hHeld ⊢;refine pure_ (i := 1) (N := some 14) (v := ?_) (a' := ?_) #[false, true, false, false, false, false, false] rfl rfl (by kernel_rfl) (fun _ _ _ h => h) (Or.inl ⟨by rfl, ?_⟩) ?_ ?_
      rotate_left
      ·
       intro w'
       go_simp
       with_reducible rfl
      rotate_left
      · simp only [Act.put, List.setIfInBounds_toArray, List.set_cons_zero, List.set_cons_succ, i64_w, i32_w];rfl
      refine pure_ (i := 4) (N := some 17) (v := ?_) (a' := ?_) #[false, true, false, false, true, false, false] rfl rfl (by kernel_rfl) (fun _ _ _ h => h) (Or.inl ⟨by rfl, ?_⟩) ?_ ?_
      rotate_left
      ·
       intro w'
       go_simp
       with_reducible rfl
      rotate_left
      · simp only [Act.put, List.setIfInBounds_toArray, List.set_cons_zero, List.set_cons_succ, i64_w, i32_w];rfl
      refine take_ (i := 0) (N := some 13) (v := ?_) (a' := ?_) #[true, true, false, false, true, false, false] rfl rfl (by kernel_rfl) (fun _ _ _ h => h) (Or.inl ⟨by rfl, ?_⟩) hHeld ?_ ?_
      rotate_left
      ·
       rintro w' ⟨s0, s1, s2, s3, s4, s5, s6, s7, s8, s9, Ad, Ae, Af, Ag, Ah, EO, EP, EQ, ER, ES, ET, EU, EV, EW, EX, EY, EZ, F0⟩
       go_simp
       with_reducible rfl
      rotate_left
      · simp only [Act.put, List.setIfInBounds_toArray, List.set_cons_zero, List.set_cons_succ, i64_w, i32_w];rfl
      refine take_ (i := 3) (N := some 16) (v := ?_) (a' := ?_) #[true, true, false, true, true, false, false] rfl rfl (by kernel_rfl) (fun _ _ _ h => h) (Or.inl ⟨by rfl, ?_⟩) hHeld ?_ ?_
      rotate_left
      ·
       rintro w' ⟨s0, s1, s2, s3, s4, s5, s6, s7, s8, s9, Ad, Ae, Af, Ag, Ah, EO, EP, EQ, ER, ES, ET, EU, EV, EW, EX, EY, EZ, F0⟩
       go_simp
       with_reducible rfl
      rotate_left
      · simp only [Act.put, List.setIfInBounds_toArray, List.set_cons_zero, List.set_cons_succ, i64_w, i32_w];rfl
      refine one_ (i := 2) (N := some 15) #[true, true, true, true, true, false, false] rfl rfl (by kernel_rfl) (by decide) (fun K hK => ?_);refine gs_ Tryz.func41 #[.agg #[.string ab, .int .i64 aa, .slice bj ai.length bl, .slice bm aj.length bn, .string ak, .string an, .string ap, .int .i64 ar, .int .i64 av, .int .i64 aw, .bool af, .int .i64 ac, .string ae, .string ag], .string (rdOf ByteArray.empty fieldsL eG)] ?_
      with_reducible refine (impl_fieldText.calls (hG := au12) k1 ab aa _ _ ai _ _ aj ak an ap ar av aw af ac ae ag (rdOf ByteArray.empty fieldsL eG) HF _ ?ax ?ay ?bi ?bp A9.out).mono ?_
      (case ax => repeat (first | exact (Kd.C_below ck.out HB.out) | (with_reducible refine Kd.C_alloc ?_ _) | (with_reducible refine Kd.C_drewN ?_ _) | (with_reducible refine Kd.C_drew ?_)))
      (case ay => exact cn.out)
      (case bi => repeat (first | exact (Kd.C_below cz.out HB.out) | (with_reducible refine Kd.C_alloc ?_ _) | (with_reducible refine Kd.C_drewN ?_ _) | (with_reducible refine Kd.C_drew ?_)))
      (case bp => exact cA.out)
      rintro e uC ⟨rfl, hb⟩;refine ⟨_, rfl, ?_⟩;replace dH := am (Kd.R_below au101 hb);replace bd := am (blk_below (g := cf) au72 hb);replace be := am (blk_below (g := cp) au73 hb);replace HB := am (below_step au23 hb)
      (try clear hb)
      refine hK.out _ _ ⟨(blk_cell bd.out 0).trans rfl, (blk_cell bd.out 1).trans rfl, (blk_cell bd.out 2).trans rfl, (blk_cell bd.out 3).trans rfl, (blk_cell bd.out 4).trans rfl, (blk_cell bd.out 5).trans rfl, (blk_cell bd.out 6).trans rfl, (blk_cell bd.out 7).trans rfl, (blk_cell bd.out 8).trans rfl, (blk_cell bd.out 9).trans rfl, (blk_cell bd.out 10).trans rfl, (blk_cell bd.out 11).trans rfl, (blk_cell bd.out 12).trans rfl, (blk_cell bd.out 13).trans rfl, (blk_cell be.out 0).trans rfl, (blk_cell be.out 1).trans rfl, (blk_cell be.out 2).trans rfl, (blk_cell be.out 3).trans rfl, (blk_cell be.out 4).trans rfl, (blk_cell be.out 5).trans rfl, (blk_cell be.out 6).trans rfl, (blk_cell be.out 7).trans rfl, (blk_cell be.out 8).trans rfl, (blk_cell be.out 9).trans rfl, (blk_cell be.out 10).trans rfl, (blk_cell be.out 11).trans rfl, (blk_cell be.out 12).trans rfl, (blk_cell be.out 13).trans rfl⟩ (fun hHeld => ?_);clear hK K;refine no_ (some 15) ?_;refine one_ (i := 5) (N := some 18) #[true, true, true, true, true, true, false] rfl rfl (by kernel_rfl) (by decide) (fun K hK => ?_);refine gs_ Tryz.func41 #[.agg #[.string aR, .int .i64 aQ, .slice bI aM.length bJ, .slice bL aN.length bM, .string aZ, .string ba, .string bb, .int .i64 aW, .int .i64 aX, .int .i64 aY, .bool aG, .int .i64 aH, .string aI, .string aE], .string (rdOf ByteArray.empty fieldsL eG)] ?_
      with_reducible refine (impl_fieldText.calls (hG := au12) k1 aR aQ _ _ aM _ _ aN aZ ba bb aW aX aY aG aH aI aE (rdOf ByteArray.empty fieldsL eG) HH _ ?ax ?ay ?bi ?bp gB.out).mono ?_
      (case ax => repeat (first | exact (Kd.C_below ee.out HB.out) | (with_reducible refine Kd.C_alloc ?_ _) | (with_reducible refine Kd.C_drewN ?_ _) | (with_reducible refine Kd.C_drew ?_)))
      (case ay => exact ef.out)
      (case bi => repeat (first | exact (Kd.C_below em.out HB.out) | (with_reducible refine Kd.C_alloc ?_ _) | (with_reducible refine Kd.C_drewN ?_ _) | (with_reducible refine Kd.C_drew ?_)))
      (case bp => exact en.out)
      rintro e X3 ⟨rfl, hb⟩;refine ⟨_, rfl, ?_⟩;replace dH := am (Kd.R_below au101 hb);replace bd := am (blk_below (g := cf) au72 hb);replace be := am (blk_below (g := cp) au73 hb);replace HB := am (below_step au23 hb)
      (try clear hb)
      refine hK.out _ _ ⟨(blk_cell bd.out 0).trans rfl, (blk_cell bd.out 1).trans rfl, (blk_cell bd.out 2).trans rfl, (blk_cell bd.out 3).trans rfl, (blk_cell bd.out 4).trans rfl, (blk_cell bd.out 5).trans rfl, (blk_cell bd.out 6).trans rfl, (blk_cell bd.out 7).trans rfl, (blk_cell bd.out 8).trans rfl, (blk_cell bd.out 9).trans rfl, (blk_cell bd.out 10).trans rfl, (blk_cell bd.out 11).trans rfl, (blk_cell bd.out 12).trans rfl, (blk_cell bd.out 13).trans rfl, (blk_cell be.out 0).trans rfl, (blk_cell be.out 1).trans rfl, (blk_cell be.out 2).trans rfl, (blk_cell be.out 3).trans rfl, (blk_cell be.out 4).trans rfl, (blk_cell be.out 5).trans rfl, (blk_cell be.out 6).trans rfl, (blk_cell be.out 7).trans rfl, (blk_cell be.out 8).trans rfl, (blk_cell be.out 9).trans rfl, (blk_cell be.out 10).trans rfl, (blk_cell be.out 11).trans rfl, (blk_cell be.out 12).trans rfl, (blk_cell be.out 13).trans rfl⟩ (fun hHeld => ?_);clear hK K;refine no_ (some 18) ?_;refine pure_ (i := 6) (N := some 19) (v := ?_) (a' := ?_) #[true, true, true, true, true, true, true] rfl rfl (by kernel_rfl) (fun _ _ _ h => h) (Or.inl ⟨by rfl, ?_⟩) ?_ ?_
      rotate_left
      ·
       intro w'
       go_simp
       with_reducible rfl
      rotate_left
      · simp only [Act.put, List.setIfInBounds_toArray, List.set_cons_zero, List.set_cons_succ, i64_w, i32_w];rfl
      refine done_ (by kernel_rfl) ?_;exact impl_changedFields.L1
     ·
      rw [if_neg bH] at H;have c11b0 := qf bH;have c11b1 := bu bH;by_cases bV : az.length < 8796093022208
      ·
       rw [if_pos bV] at H;have a0A := am bV;clear bV
       obtain ⟨Yf, B1⟩ : ∃ y_ : List ByteArray, y_ = (az ++ [rdOf ByteArray.empty fieldsL eG]) := ⟨_, rfl⟩
       replace H : (impl_changedFields.l0 k1 Yf (wrap64 (eG + 1)) ab aa ai aj ak an ap ar av aw af ac ae ag aR aQ aM aN aZ ba bb aW aX aY aG aH aI aE) = some r := by first | (rw [B1]; with_reducible exact H) | (have H2_ := (Option.bind_some _ _).symm.trans H; rw [B1]; with_reducible exact H2_) | (have H2_ := (Option.bind_some _ _).symm.trans H; with_reducible exact H2_) | with_reducible exact H | (rw [B1]; exact H) | exact H
       have a0B := am B1;clear B1;have H' := am H;clear H
       try go_wp2_with (first | ((with_reducible refine gate_dst (N := 9) rfl ?_); refine tab_event rfl rfl (tab_load0 (Kd.C_below GTfields.out au51) rfl) ?_) | ((with_reducible refine gate_dst (N := 12) rfl ?_); refine tab_event rfl rfl (tab_index0 rfl rfl rfl (od au106) (od au106)) ?_))
       replace dH := am (Kd.R_drew dH.out);replace bd := am (blk_drew bd.out);replace be := am (blk_drew be.out);replace HB := am (below_drew1 HB.out);refine start_ (n := 7) (S := fun w' => w'.cell? ⟨cf, 0, none⟩ = some (.string ab) ∧ w'.cell? ⟨cf, 1, none⟩ = some (.int .i64 aa) ∧ w'.cell? ⟨cf, 2, none⟩ = some (.slice bj ai.length bl) ∧ w'.cell? ⟨cf, 3, none⟩ = some (.slice bm aj.length bn) ∧ w'.cell? ⟨cf, 4, none⟩ = some (.string ak) ∧ w'.cell? ⟨cf, 5, none⟩ = some (.string an) ∧ w'.cell? ⟨cf, 6, none⟩ = some (.string ap) ∧ w'.cell? ⟨cf, 7, none⟩ = some (.int .i64 ar) ∧ w'.cell? ⟨cf, 8, none⟩ = some (.int .i64 av) ∧ w'.cell? ⟨cf, 9, none⟩ = some (.int .i64 aw) ∧ w'.cell? ⟨cf, 10, none⟩ = some (.bool af) ∧ w'.cell? ⟨cf, 11, none⟩ = some (.int .i64 ac) ∧ w'.cell? ⟨cf, 12, none⟩ = some (.string ae) ∧ w'.cell? ⟨cf, 13, none⟩ = some (.string ag) ∧ w'.cell? ⟨cp, 0, none⟩ = some (.string aR) ∧ w'.cell? ⟨cp, 1, none⟩ = some (.int .i64 aQ) ∧ w'.cell? ⟨cp, 2, none⟩ = some (.slice bI aM.length bJ) ∧ w'.cell? ⟨cp, 3, none⟩ = some (.slice bL aN.length bM) ∧ w'.cell? ⟨cp, 4, none⟩ = some (.string aZ) ∧ w'.cell? ⟨cp, 5, none⟩ = some (.string ba) ∧ w'.cell? ⟨cp, 6, none⟩ = some (.string bb) ∧ w'.cell? ⟨cp, 7, none⟩ = some (.int .i64 aW) ∧ w'.cell? ⟨cp, 8, none⟩ = some (.int .i64 aX) ∧ w'.cell? ⟨cp, 9, none⟩ = some (.int .i64 aY) ∧ w'.cell? ⟨cp, 10, none⟩ = some (.bool aG) ∧ w'.cell? ⟨cp, 11, none⟩ = some (.int .i64 aH) ∧ w'.cell? ⟨cp, 12, none⟩ = some (.string aI) ∧ w'.cell? ⟨cp, 13, none⟩ = some (.string aE)) (ds := []) #[false, false, false, false, false, false, false] (by kernel_rfl) rfl rfl ⟨(blk_cell bd.out 0).trans rfl, (blk_cell bd.out 1).trans rfl, (blk_cell bd.out 2).trans rfl, (blk_cell bd.out 3).trans rfl, (blk_cell bd.out 4).trans rfl, (blk_cell bd.out 5).trans rfl, (blk_cell bd.out 6).trans rfl, (blk_cell bd.out 7).trans rfl, (blk_cell bd.out 8).trans rfl, (blk_cell bd.out 9).trans rfl, (blk_cell bd.out 10).trans rfl, (blk_cell bd.out 11).trans rfl, (blk_cell bd.out 12).trans rfl, (blk_cell bd.out 13).trans rfl, (blk_cell be.out 0).trans rfl, (blk_cell be.out 1).trans rfl, (blk_cell be.out 2).trans rfl, (blk_cell be.out 3).trans rfl, (blk_cell be.out 4).trans rfl, (blk_cell be.out 5).trans rfl, (blk_cell be.out 6).trans rfl, (blk_cell be.out 7).trans rfl, (blk_cell be.out 8).trans rfl, (blk_cell be.out 9).trans rfl, (blk_cell be.out 10).trans rfl, (blk_cell be.out 11).trans rfl, (blk_cell be.out 12).trans rfl, (blk_cell be.out 13).trans rfl⟩ (fun hHeld => ?_);generalize wr.drew = O1 at dH bd be HB hHeld ⊢;refine pure_ (i := 1) (N := some 14) (v := ?_) (a' := ?_) #[false, true, false, false, false, false, false] rfl rfl (by kernel_rfl) (fun _ _ _ h => h) (Or.inl ⟨by rfl, ?_⟩) ?_ ?_
       rotate_left
       ·
        intro w'
        go_simp
        with_reducible rfl
       rotate_left
       · simp only [Act.put, List.setIfInBounds_toArray, List.set_cons_zero, List.set_cons_succ, i64_w, i32_w];rfl
       refine pure_ (i := 4) (N := some 17) (v := ?_) (a' := ?_) #[false, true, false, false, true, false, false] rfl rfl (by kernel_rfl) (fun _ _ _ h => h) (Or.inl ⟨by rfl, ?_⟩) ?_ ?_
       rotate_left
       ·
        intro w'
        go_simp
        with_reducible rfl
       rotate_left
       · simp only [Act.put, List.setIfInBounds_toArray, List.set_cons_zero, List.set_cons_succ, i64_w, i32_w];rfl
       refine take_ (i := 0) (N := some 13) (v := ?_) (a' := ?_) #[true, true, false, false, true, false, false] rfl rfl (by kernel_rfl) (fun _ _ _ h => h) (Or.inl ⟨by rfl, ?_⟩) hHeld ?_ ?_
       rotate_left
       ·
        rintro w' ⟨s0, s1, s2, s3, s4, s5, s6, s7, s8, s9, Ad, Ae, Af, Ag, Ah, EO, EP, EQ, ER, ES, ET, EU, EV, EW, EX, EY, EZ, F0⟩
        go_simp
        with_reducible rfl
       rotate_left
       · simp only [Act.put, List.setIfInBounds_toArray, List.set_cons_zero, List.set_cons_succ, i64_w, i32_w];rfl
       refine take_ (i := 3) (N := some 16) (v := ?_) (a' := ?_) #[true, true, false, true, true, false, false] rfl rfl (by kernel_rfl) (fun _ _ _ h => h) (Or.inl ⟨by rfl, ?_⟩) hHeld ?_ ?_
       rotate_left
       ·
        rintro w' ⟨s0, s1, s2, s3, s4, s5, s6, s7, s8, s9, Ad, Ae, Af, Ag, Ah, EO, EP, EQ, ER, ES, ET, EU, EV, EW, EX, EY, EZ, F0⟩
        go_simp
        with_reducible rfl
       rotate_left
       · simp only [Act.put, List.setIfInBounds_toArray, List.set_cons_zero, List.set_cons_succ, i64_w, i32_w];rfl
       refine one_ (i := 2) (N := some 15) #[true, true, true, true, true, false, false] rfl rfl (by kernel_rfl) (by decide) (fun K hK => ?_);refine gs_ Tryz.func41 #[.agg #[.string ab, .int .i64 aa, .slice bj ai.length bl, .slice bm aj.length bn, .string ak, .string an, .string ap, .int .i64 ar, .int .i64 av, .int .i64 aw, .bool af, .int .i64 ac, .string ae, .string ag], .string (rdOf ByteArray.empty fieldsL eG)] ?_
       with_reducible refine (impl_fieldText.calls (hG := au12) k1 ab aa _ _ ai _ _ aj ak an ap ar av aw af ac ae ag (rdOf ByteArray.empty fieldsL eG) HF _ ?ax ?ay ?bi ?bp A9.out).mono ?_
       (case ax => repeat (first | exact (Kd.C_below ck.out HB.out) | (with_reducible refine Kd.C_alloc ?_ _) | (with_reducible refine Kd.C_drewN ?_ _) | (with_reducible refine Kd.C_drew ?_)))
       (case ay => exact cn.out)
       (case bi => repeat (first | exact (Kd.C_below cz.out HB.out) | (with_reducible refine Kd.C_alloc ?_ _) | (with_reducible refine Kd.C_drewN ?_ _) | (with_reducible refine Kd.C_drew ?_)))
       (case bp => exact cA.out)
       rintro e Js ⟨rfl, hb⟩;refine ⟨_, rfl, ?_⟩;replace dH := am (Kd.R_below au101 hb);replace bd := am (blk_below (g := cf) au72 hb);replace be := am (blk_below (g := cp) au73 hb);replace HB := am (below_step au23 hb)
       (try clear hb)
       refine hK.out _ _ ⟨(blk_cell bd.out 0).trans rfl, (blk_cell bd.out 1).trans rfl, (blk_cell bd.out 2).trans rfl, (blk_cell bd.out 3).trans rfl, (blk_cell bd.out 4).trans rfl, (blk_cell bd.out 5).trans rfl, (blk_cell bd.out 6).trans rfl, (blk_cell bd.out 7).trans rfl, (blk_cell bd.out 8).trans rfl, (blk_cell bd.out 9).trans rfl, (blk_cell bd.out 10).trans rfl, (blk_cell bd.out 11).trans rfl, (blk_cell bd.out 12).trans rfl, (blk_cell bd.out 13).trans rfl, (blk_cell be.out 0).trans rfl, (blk_cell be.out 1).trans rfl, (blk_cell be.out 2).trans rfl, (blk_cell be.out 3).trans rfl, (blk_cell be.out 4).trans rfl, (blk_cell be.out 5).trans rfl, (blk_cell be.out 6).trans rfl, (blk_cell be.out 7).trans rfl, (blk_cell be.out 8).trans rfl, (blk_cell be.out 9).trans rfl, (blk_cell be.out 10).trans rfl, (blk_cell be.out 11).trans rfl, (blk_cell be.out 12).trans rfl, (blk_cell be.out 13).trans rfl⟩ (fun hHeld => ?_);clear hK K;refine no_ (some 15) ?_;refine one_ (i := 5) (N := some 18) #[true, true, true, true, true, true, false] rfl rfl (by kernel_rfl) (by decide) (fun K hK => ?_);refine gs_ Tryz.func41 #[.agg #[.string aR, .int .i64 aQ, .slice bI aM.length bJ, .slice bL aN.length bM, .string aZ, .string ba, .string bb, .int .i64 aW, .int .i64 aX, .int .i64 aY, .bool aG, .int .i64 aH, .string aI, .string aE], .string (rdOf ByteArray.empty fieldsL eG)] ?_
       with_reducible refine (impl_fieldText.calls (hG := au12) k1 aR aQ _ _ aM _ _ aN aZ ba bb aW aX aY aG aH aI aE (rdOf ByteArray.empty fieldsL eG) HH _ ?ax ?ay ?bi ?bp gB.out).mono ?_
       (case ax => repeat (first | exact (Kd.C_below ee.out HB.out) | (with_reducible refine Kd.C_alloc ?_ _) | (with_reducible refine Kd.C_drewN ?_ _) | (with_reducible refine Kd.C_drew ?_)))
       (case ay => exact ef.out)
       (case bi => repeat (first | exact (Kd.C_below em.out HB.out) | (with_reducible refine Kd.C_alloc ?_ _) | (with_reducible refine Kd.C_drewN ?_ _) | (with_reducible refine Kd.C_drew ?_)))
       (case bp => exact en.out)
       rintro e K3 ⟨rfl, hb⟩;refine ⟨_, rfl, ?_⟩;replace dH := am (Kd.R_below au101 hb);replace bd := am (blk_below (g := cf) au72 hb);replace be := am (blk_below (g := cp) au73 hb);replace HB := am (below_step au23 hb)
       (try clear hb)
       refine hK.out _ _ ⟨(blk_cell bd.out 0).trans rfl, (blk_cell bd.out 1).trans rfl, (blk_cell bd.out 2).trans rfl, (blk_cell bd.out 3).trans rfl, (blk_cell bd.out 4).trans rfl, (blk_cell bd.out 5).trans rfl, (blk_cell bd.out 6).trans rfl, (blk_cell bd.out 7).trans rfl, (blk_cell bd.out 8).trans rfl, (blk_cell bd.out 9).trans rfl, (blk_cell bd.out 10).trans rfl, (blk_cell bd.out 11).trans rfl, (blk_cell bd.out 12).trans rfl, (blk_cell bd.out 13).trans rfl, (blk_cell be.out 0).trans rfl, (blk_cell be.out 1).trans rfl, (blk_cell be.out 2).trans rfl, (blk_cell be.out 3).trans rfl, (blk_cell be.out 4).trans rfl, (blk_cell be.out 5).trans rfl, (blk_cell be.out 6).trans rfl, (blk_cell be.out 7).trans rfl, (blk_cell be.out 8).trans rfl, (blk_cell be.out 9).trans rfl, (blk_cell be.out 10).trans rfl, (blk_cell be.out 11).trans rfl, (blk_cell be.out 12).trans rfl, (blk_cell be.out 13).trans rfl⟩ (fun hHeld => ?_);clear hK K;refine no_ (some 18) ?_;refine pure_ (i := 6) (N := some 19) (v := ?_) (a' := ?_) #[true, true, true, true, true, true, true] rfl rfl (by kernel_rfl) (fun _ _ _ h => h) (Or.inl ⟨by rfl, ?_⟩) ?_ ?_
       rotate_left
       ·
        intro w'
        go_simp
        with_reducible rfl
       rotate_left
       · simp only [Act.put, List.setIfInBounds_toArray, List.set_cons_zero, List.set_cons_succ, i64_w, i32_w];rfl
       refine done_ (by kernel_rfl) ?_;exact impl_changedFields.L1
      · rw [if_neg bV] at H;exact absurd H (by simp)
    · rw [if_neg c8] at H;exact absurd H (by simp)
   ·
    rw [if_neg c7] at H;have c7b0 := df c7;clear c7;have yr := am H;clear H;have ams := mR.out;have amt := mS.out;obtain ⟨jJ, jK, jL, jM, qB, qC, qD, qF, qG, qH, oO, oP, oQ, oS, jN, jO, jP, jQ, qI, qJ, qK, qL, qM, qN, oT, oU, oV, oW⟩ := blkc14 bd.out;obtain ⟨mi, mj, ml, mm, xi, xj, xk, xl, xn, xo, ud, ue, uf, ug, mn, mo, mq, mr, xp, xq, xr, xt, xu, xv, uh, ui, uj, uk⟩ := blkc14 be.out
    go_upto_if 29 with (fail)
    go_cut [5] (fun v5 wc => ∃ (kq : Nat) (mI : List ByteArray), Aside0 (impl_changedFields.j1 kq mI ab aa ai aj ak an ap ar av aw af ac ae ag aR aQ aM aN aZ ba bb aW aX aY aG aH aI aE = some r) ∧ Aside0 (kq ≤ k1) ∧ Aside0 (Kd.R Kd.string 9 wc w.heap.size (fun _ => True) v5 mI) ∧ Aside0 (wc.heap[cf]? = some (.cells #[.string ab, .int .i64 aa, (.slice bj ai.length bl), (.slice bm aj.length bn), .string ak, .string an, .string ap, .int .i64 ar, .int .i64 av, .int .i64 aw, .bool af, .int .i64 ac, .string ae, .string ag] 34 (0, 0))) ∧ Aside0 (wc.heap[cp]? = some (.cells #[.string aR, .int .i64 aQ, (.slice bI aM.length bJ), (.slice bL aN.length bM), .string aZ, .string ba, .string bb, .int .i64 aW, .int .i64 aX, .int .i64 aY, .bool aG, .int .i64 aH, .string aI, .string aE] 34 (0, 0))) ∧ Aside0 (Below w.heap.size w wc))
    case first =>
     have H := yr.out;clear yr;by_cases i6 : ag.toList = aE.toList
     ·
      rw [if_pos i6] at H;have c24b0 := qt i6;have c24b1 := bf i6;clear i6
      (first | rw [c24b0] | (simp only [i64_w, i32_w]; rw [c24b0]) | skip)
      have H' := am H;clear H;exact impl_changedFields.L2
     ·
      rw [if_neg i6] at H;have c24b0 := qf i6;have c24b1 := bu i6
      (first | rw [c24b0] | (simp only [i64_w, i32_w]; rw [c24b0]) | skip)
      by_cases fJ : az.length < 8796093022208
      ·
       rw [if_pos fJ] at H;have a0D := am fJ;clear fJ
       obtain ⟨Yg, B2⟩ : ∃ y_ : List ByteArray, y_ = (az ++ [(⟨#[99, 114, 111, 115, 115]⟩ : ByteArray)]) := ⟨_, rfl⟩
       replace H : (impl_changedFields.j1 k1 Yg ab aa ai aj ak an ap ar av aw af ac ae ag aR aQ aM aN aZ ba bb aW aX aY aG aH aI aE) = some r := by first | (rw [B2]; with_reducible exact H) | (have H2_ := (Option.bind_some _ _).symm.trans H; rw [B2]; with_reducible exact H2_) | (have H2_ := (Option.bind_some _ _).symm.trans H; with_reducible exact H2_) | with_reducible exact H | (rw [B2]; exact H) | exact H
       have a0E := am B2;clear B2;have H' := am H;clear H;exact impl_changedFields.L2
      · rw [if_neg fJ] at H;exact absurd H (by simp)
    case rest =>
     clear yr
     try clear c1
     try clear c2
     try clear p2
     try clear c4
     try clear p6
     try clear c7
     try clear c7b0
     try clear c8
     try clear c8b0
     try clear bH
     try clear c11b0
     try clear c11b1
     try clear bV
     try clear jt
     try clear ew
     try clear i6
     try clear c24b0
     try clear c24b1
     try clear fJ
     try clear jJ jK oO oP oQ oS jL jM qB qC qD qF qG qH jN jO oT oU oV oW jP jQ qI qJ qK qL qM qN
     try clear mi mj ud ue uf ug ml mm xi xj xk xl xn xo mn mo uh ui uj uk mq mr xp xq xr xt xu xv
     try clear p2
     obtain ⟨kq, mI, HA, a3r, dH, bd, be, HB⟩ := hcut
     cases kq with
     | zero => exact absurd HA.out (by simp [impl_changedFields.j1])
     | succ Mp =>
      have H := HA.out;clear HA;simp only [impl_changedFields.j1] at H;by_cases ib : aa = aQ
      ·
       rw [if_pos ib] at H;have c27b0 := qt ib;have c27b1 := bf ib;clear ib;by_cases fM : ab.toList = aR.toList
       · rw [if_pos fM] at H;have c28b0 := qt fM;have c28b1 := bf fM;clear fM;obtain rfl := ojz H;have amu := mR.out;have amv := mS.out;obtain ⟨lP, lQ, lR, lS, rX, rY, rZ, sa, sb, sc, pt, pu, pv, pw, lT, lU, lV, lW, sd, se, si, sj, sk, sl, px, pz, pA, pB⟩ := blkc14 bd.out;obtain ⟨m8, m9, ma, mb, sn, so, sq, sr, st, su, pC, pD, pE, pF, mc, me, mf, mg, sw, sx, sy, sB, sC, sF, pG, pH, pI, pJ⟩ := blkc14 be.out;exact impl_changedFields.L0
       ·
        rw [if_neg fM] at H;have c28b0 := qf fM;have c28b1 := bu fM;by_cases eI : mI.length < 8796093022208
        ·
         rw [if_pos eI] at H;have Mu := am eI;clear eI
         obtain ⟨a6I, B3⟩ : ∃ y_ : List ByteArray, y_ = (mI ++ [(⟨#[107, 101, 121]⟩ : ByteArray)]) := ⟨_, rfl⟩
         replace H : (some a6I) = some r := by first | (rw [B3]; with_reducible exact H) | (have H2_ := (Option.bind_some _ _).symm.trans H; rw [B3]; with_reducible exact H2_) | (have H2_ := (Option.bind_some _ _).symm.trans H; with_reducible exact H2_) | with_reducible exact H | (rw [B3]; exact H) | exact H
         have a0H := am B3;clear B3;obtain rfl := ojz H;have amw := mR.out;have amx := mS.out;obtain ⟨qZ, r0, ra, rb, Dr, Ds, Dt, Du, Dv, Dw, zl, zm, zn, zo, rc, re, rf, rh, Dx, Dy, Dz, DC, DD, DF, zp, zq, zs, zt⟩ := blkc14 bd.out;obtain ⟨KT, KU, KV, KW, KX, KY, KZ, L3, L4, L5, Ho, Hp, Hq, Hr, L6, L8, L9, La, Lb, Lc, Ld, Le, Lf, Lg, Hs, Ht, Hu, Hv⟩ := blkc14 be.out;go_wp2_with (first | ((with_reducible refine gate_dst (N := 9) rfl ?_); refine tab_event rfl rfl (tab_load0 (Kd.C_below GTfields.out au51) rfl) ?_) | ((with_reducible refine gate_dst (N := 12) rfl ?_); refine tab_event rfl rfl (tab_index0 rfl rfl rfl (od au106) (od au106)) ?_) | ((with_reducible refine gate_builtin (b := .append) (xs := #[.tmp 46, .tmp 47]) rfl ?_); at_builtin; refine Kd.R_append Kd.string (w0 := w) w.heap.size rfl (.tmp 46) (.tmp 47) 28 9 (.string ⟨#[]⟩) 16 rfl Tryz.underlying28 info9 rfl (by decide) (by omega) u5 mI (⟨#[107, 101, 121]⟩ : ByteArray) [.string (⟨#[107, 101, 121]⟩ : ByteArray)] (fun _ => True) (fun _ => False) rfl rfl ?aP (fun _ hk => hk.elim) ?aF ?aO ?aB ?aS ?aL ?_; (case aP => exact rfl); (case aB => exact au23); (case aF => exact (fun _ _ => trivial)); (case aO => exact au101); (case aS => exact (below_size au23)); (case aL => have := Mu.out; omega); intro aoh w36 ho hb hg hat; rw [← a0H.out] at ho; have cZ := am (blk_grown (g := cf) (o := .cells #[.string ab, .int .i64 aa, .slice bj ai.length bl, .slice bm aj.length bn, .string ak, .string an, .string ap, .int .i64 ar, .int .i64 av, .int .i64 aw, .bool af, .int .i64 ac, .string ae, .string ag] 34 (0, 0)) au72 hg (Kd.R_ne dH.out bd.out (by decide))); have d0 := am (blk_grown (g := cp) (o := .cells #[.string aR, .int .i64 aQ, .slice bI aM.length bJ, .slice bL aN.length bM, .string aZ, .string ba, .string bb, .int .i64 aW, .int .i64 aX, .int .i64 aY, .bool aG, .int .i64 aH, .string aI, .string aE] 34 (0, 0)) au73 hg (Kd.R_ne dH.out be.out (by decide))); have dQ := am (hb); have dU := am (ho); clear bd; clear be; clear HB; clear dH; have bd := cZ; have be := d0; have HB := dQ; have a0I := dU; clear cZ d0 dQ dU; clear ho hb hg hat));go_ret;exact ⟨_, by first | rfl | (simp [errW_none, errW_some] <;> rfl) | (simp [*, errW_none, errW_some] <;> rfl), by (with_reducible repeat (first | apply Kd.R_alloc | apply Kd.R_drewN | apply Kd.R_drew)); exact a0I.out, by repeat (first | (with_reducible first | exact HB.out | apply below_alloc | apply pw_below_drewN | apply below_drew1 | refine below_set ?_ kO.out | refine below_set ?_ mE.out) | exact HB.out)⟩
        · rw [if_neg eI] at H;exact absurd H (by simp)
      ·
       rw [if_neg ib] at H;have c27b0 := qf ib;have c27b1 := bu ib;by_cases uy : mI.length < 8796093022208
       ·
        rw [if_pos uy] at H;have S4 := am uy;clear uy
        obtain ⟨qn, B4⟩ : ∃ y_ : List ByteArray, y_ = (mI ++ [(⟨#[107, 105, 110, 100]⟩ : ByteArray)]) := ⟨_, rfl⟩
        replace H : (if ab.toList = aR.toList then (some qn) else (if qn.length < 8796093022208 then (some (qn ++ [(⟨#[107, 101, 121]⟩ : ByteArray)])) else (none))) = some r := by first | (rw [B4]; with_reducible exact H) | (have H2_ := (Option.bind_some _ _).symm.trans H; rw [B4]; with_reducible exact H2_) | (have H2_ := (Option.bind_some _ _).symm.trans H; with_reducible exact H2_) | with_reducible exact H | (rw [B4]; exact H) | exact H
        have S5 := am B4;clear B4;by_cases kI : ab.toList = aR.toList
        · rw [if_pos kI] at H;have c38b0 := qt kI;have c38b1 := bf kI;clear kI;obtain rfl := ojz H;have amy := mR.out;have amz := mS.out;obtain ⟨ai5, ai6, ai7, ai8, ai9, aia, aib, aic, aid, aie, a6J, a6K, a6L, a6M, aif, aig, aih, aii, aij, aik, ail, aim, ain, aio, a6N, a6O, a6P, a6Q⟩ := blkc14 bd.out;obtain ⟨Lo, Lp, Lq, Lr, Ls, Lt, Lu, Lv, Lw, Lx, HJ, HM, HP, HU, Ly, Lz, LA, LB, LC, LD, LE, LF, LG, LH, HV, HW, HY, I0⟩ := blkc14 be.out;exact impl_changedFields.L0
        ·
         rw [if_neg kI] at H;have c38b0 := qf kI;have c38b1 := bu kI;by_cases lf : qn.length < 8796093022208
         ·
          rw [if_pos lf] at H;have Mz := am lf;clear lf
          obtain ⟨a6R, B7⟩ : ∃ y_ : List ByteArray, y_ = (qn ++ [(⟨#[107, 101, 121]⟩ : ByteArray)]) := ⟨_, rfl⟩
          replace H : (some a6R) = some r := by first | (rw [B7]; with_reducible exact H) | (have H2_ := (Option.bind_some _ _).symm.trans H; rw [B7]; with_reducible exact H2_) | (have H2_ := (Option.bind_some _ _).symm.trans H; with_reducible exact H2_) | with_reducible exact H | (rw [B7]; exact H) | exact H
          have a0J := am B7;clear B7;obtain rfl := ojz H;have amA := mR.out;have amB := mS.out;obtain ⟨aip, aiq, air, ais, ait, aiu, aiv, aiw, aix, aiy, a6S, a6T, a6U, a6V, aiz, aiA, aiB, aiC, aiD, aiE, aiF, aiG, aiH, aiI, a6W, a6X, a6Y, a6Z⟩ := blkc14 bd.out;obtain ⟨aiJ, aiK, aiL, aiM, aiN, aiO, aiP, aiQ, aiR, aiS, a71, a73, a74, a77, aiT, aiU, aiV, aiW, aiX, aiY, aiZ, aj0, aj1, aj2, a78, a79, a7a, a7b⟩ := blkc14 be.out;go_wp2_with (first | ((with_reducible refine gate_dst (N := 9) rfl ?_); refine tab_event rfl rfl (tab_load0 (Kd.C_below GTfields.out au51) rfl) ?_) | ((with_reducible refine gate_dst (N := 12) rfl ?_); refine tab_event rfl rfl (tab_index0 rfl rfl rfl (od au106) (od au106)) ?_) | ((with_reducible refine gate_builtin (b := .append) (xs := #[.tmp 38, .tmp 39]) rfl ?_); at_builtin; refine Kd.R_append Kd.string (w0 := w) w.heap.size rfl (.tmp 38) (.tmp 39) 28 9 (.string ⟨#[]⟩) 16 rfl Tryz.underlying28 info9 rfl (by decide) (by omega) u5 mI (⟨#[107, 105, 110, 100]⟩ : ByteArray) [.string (⟨#[107, 105, 110, 100]⟩ : ByteArray)] (fun _ => True) (fun _ => False) rfl rfl ?aP (fun _ hk => hk.elim) ?aF ?aO ?aB ?aS ?aL ?_; (case aP => exact rfl); (case aB => exact au23); (case aF => exact (fun _ _ => trivial)); (case aO => exact au101); (case aS => exact (below_size au23)); (case aL => have := S4.out; omega); intro Ye w49 ho hb hg hat; rw [← S5.out] at ho; have cZ := am (blk_grown (g := cf) (o := .cells #[.string ab, .int .i64 aa, .slice bj ai.length bl, .slice bm aj.length bn, .string ak, .string an, .string ap, .int .i64 ar, .int .i64 av, .int .i64 aw, .bool af, .int .i64 ac, .string ae, .string ag] 34 (0, 0)) au72 hg (Kd.R_ne dH.out bd.out (by decide))); have d0 := am (blk_grown (g := cp) (o := .cells #[.string aR, .int .i64 aQ, .slice bI aM.length bJ, .slice bL aN.length bM, .string aZ, .string ba, .string bb, .int .i64 aW, .int .i64 aX, .int .i64 aY, .bool aG, .int .i64 aH, .string aI, .string aE] 34 (0, 0)) au73 hg (Kd.R_ne dH.out be.out (by decide))); have dQ := am (hb); have dU := am (ho); clear bd; clear be; clear HB; clear dH; have bd := cZ; have be := d0; have HB := dQ; have xB := dU; clear cZ d0 dQ dU; clear ho hb hg hat; obtain ⟨TP, TQ, TR, TS, TT, TU, TV, TW, TX, TY, PI, PK, PL, PM, TZ, U0, U1, U2, U3, U4, U5, U6, U7, U8, PN, PO, PP, PQ⟩ := blkc14 bd.out; obtain ⟨U9, Ua, Ub, Uc, Ud, Ue, Uf, Ug, Uh, Ui, PR, PS, PT, PU, Uj, Uk, Ul, Um, Un, Uo, Up, Uq, Ur, Us, PV, PW, PX, PY⟩ := blkc14 be.out) | ((with_reducible refine gate_builtin (b := .append) (xs := #[.tmp 46, .tmp 47]) rfl ?_); at_builtin; refine Kd.R_append Kd.string (w0 := w) w.heap.size rfl (.tmp 46) (.tmp 47) 28 9 (.string ⟨#[]⟩) 16 rfl Tryz.underlying28 info9 rfl (by decide) (by omega) Ye qn (⟨#[107, 101, 121]⟩ : ByteArray) [.string (⟨#[107, 101, 121]⟩ : ByteArray)] (fun _ => True) (fun _ => False) rfl rfl ?aP (fun _ hk => hk.elim) ?aF ?aO ?aB ?aS ?aL ?_; (case aP => exact rfl); (case aB => exact au23); (case aF => exact (fun _ _ => trivial)); (case aO => exact (by (with_reducible repeat (first | apply Kd.R_alloc | apply Kd.R_drewN | apply Kd.R_drew)); exact xB.out)); (case aS => exact (below_size au23)); (case aL => have := Mz.out; omega); intro aoi w52 ho hb hg hat; rw [← a0J.out] at ho; have cZ := am (blk_grown (g := cf) (o := .cells #[.string ab, .int .i64 aa, .slice bj ai.length bl, .slice bm aj.length bn, .string ak, .string an, .string ap, .int .i64 ar, .int .i64 av, .int .i64 aw, .bool af, .int .i64 ac, .string ae, .string ag] 34 (0, 0)) au72 hg (Kd.R_ne xB.out bd.out (by decide))); have d0 := am (blk_grown (g := cp) (o := .cells #[.string aR, .int .i64 aQ, .slice bI aM.length bJ, .slice bL aN.length bM, .string aZ, .string ba, .string bb, .int .i64 aW, .int .i64 aX, .int .i64 aY, .bool aG, .int .i64 aH, .string aI, .string aE] 34 (0, 0)) au73 hg (Kd.R_ne xB.out be.out (by decide))); have dQ := am (hb); have dU := am (ho); clear bd; clear be; clear HB; clear xB; have bd := cZ; have be := d0; have HB := dQ; have a0K := dU; clear cZ d0 dQ dU; clear ho hb hg hat));go_ret;exact ⟨_, by first | rfl | (simp [errW_none, errW_some] <;> rfl) | (simp [*, errW_none, errW_some] <;> rfl), by (with_reducible repeat (first | apply Kd.R_alloc | apply Kd.R_drewN | apply Kd.R_drew)); exact a0K.out, by repeat (first | (with_reducible first | exact HB.out | apply below_alloc | apply pw_below_drewN | apply below_drew1 | refine below_set ?_ kO.out | refine below_set ?_ mE.out) | exact HB.out)⟩
         · rw [if_neg lf] at H;exact absurd H (by simp)
       · rw [if_neg uy] at H;exact absurd H (by simp)
end Go.Proofs.YthfbogcpjfledaaGreatDoor.G
