/- Texts of this session for the law FnExactChangedFields, put together by a program (merge.py): each ends with its namespace; conditions stand with each theorem. -/
import Derived.Test.YthfbogcpjfledaaGreatDoorKFnExactChangedFields2
namespace Go.Proofs.YthfbogcpjfledaaGreatDoor.G
open Go.RowKit Go.Proofs.YthfbogcpjfledaaGreatDoorW.PrintWords Go.Proofs.YthfbogcpjfledaaGreatDoorW.PrintLast Go.Proofs.YthfbogcpjfledaaGreatDoorW.PrintMore
open Go.Proofs.YthfbogcpjfledaaGreatDoor.Gl Go.Proofs.YthfbogcpjfledaaGreatDoor.Ext
attribute [local go_sem] max2_int min2_int max_two min_two max_three min_three max_four min_four   -- for this text's walks alone
set_option linter.unusedVariables false
set_option linter.unusedSimpArgs false
mutual
def spec_l2Particle.l0 : Nat → List ByteArray → Int → Option (Bool)
 | 0, _, _ => none
 | k + 1, x3, x4 => if x4 < (x3.length : Int) then (if 0 ≤ x4 then ((spec_l2Word.f k (rdOf ByteArray.empty x3 x4)).bind fun Gb => (if Gb = true then (spec_l2Particle.l1 k x3 x4 0) else (some false))) else (none)) else (some (decide ((x3.length : Int) ≤ 2)))
def spec_l2Particle.l1 : Nat → List ByteArray → Int → Int → Option (Bool)
 | 0, _, _, _ => none
 | k + 1, x3, x4, x5 => if 0 ≤ x4 then (if x4 < (x3.length : Int) then (if x5 < ((rdOf ByteArray.empty x3 x4).size : Int) then (if 0 ≤ x5 then ((spec_l2Lower.f (bt (rdOf ByteArray.empty x3 x4) x5)).bind fun pb => (if pb = true then (spec_l2Particle.l1 k x3 x4 (wrap64 (x5 + 1))) else (some false))) else (none)) else (spec_l2Particle.l0 k x3 (wrap64 (x4 + 1)))) else (none)) else (none)
end
def spec_l2Particle.f (k : Nat) (a0 : ByteArray) : Option (Bool) := if a0.toList = ([] : List UInt8) then (some true) else ((spec_l1Split.f k a0 32).bind fun dS => (spec_l2Particle.l0 k dS 0))
theorem spec_l2Particle.mono_l : ∀ k, (∀ y0 y1, LeO (spec_l2Particle.l0 k y0 y1) (spec_l2Particle.l0 (k + 1) y0 y1)) ∧ (∀ y0 y1 y2, LeO (spec_l2Particle.l1 k y0 y1 y2) (spec_l2Particle.l1 (k + 1) y0 y1 y2))
 | 0 => ⟨fun _ _ r h => by simp [spec_l2Particle.l0] at h, fun _ _ _ r h => by simp [spec_l2Particle.l1] at h⟩
 | k + 1 => by
  obtain ⟨ih0, ih1⟩ := spec_l2Particle.mono_l k;refine ⟨?_, ?_⟩
  ·
   intro y0 y1;unfold spec_l2Particle.l0
   repeat' first
   | (with_reducible exact ih0 _ _)
   | (with_reducible exact ih1 _ _ _)
   | (with_reducible exact spec_l1Split.mono _ _ _)
   | (with_reducible exact spec_l2Word.mono _ _)
   | (with_reducible exact LeO.refl _)
   | (with_reducible exact LeO.none _)
   | (with_reducible refine LeO.ite ?_ ?_)
   | (with_reducible refine LeO.bind ?_ (fun _ => ?_))
   | exact ih0 _ _
   | exact ih1 _ _ _
   | exact spec_l1Split.mono _ _ _
   | exact spec_l2Word.mono _ _
   | exact LeO.none _
   | refine LeO.ite ?_ ?_
   | refine LeO.bind ?_ (fun _ => ?_)
  ·
   intro y0 y1 y2;unfold spec_l2Particle.l1
   repeat' first
   | (with_reducible exact ih0 _ _)
   | (with_reducible exact ih1 _ _ _)
   | (with_reducible exact spec_l1Split.mono _ _ _)
   | (with_reducible exact spec_l2Word.mono _ _)
   | (with_reducible exact LeO.refl _)
   | (with_reducible exact LeO.none _)
   | (with_reducible refine LeO.ite ?_ ?_)
   | (with_reducible refine LeO.bind ?_ (fun _ => ?_))
   | exact ih0 _ _
   | exact ih1 _ _ _
   | exact spec_l1Split.mono _ _ _
   | exact spec_l2Word.mono _ _
   | exact LeO.none _
   | refine LeO.ite ?_ ?_
   | refine LeO.bind ?_ (fun _ => ?_)
theorem spec_l2Particle.mono : ∀ a0 k, LeO (spec_l2Particle.f k a0) (spec_l2Particle.f (k + 1) a0) := by
 intro a0 k;obtain ⟨ih0, ih1⟩ := spec_l2Particle.mono_l k;unfold spec_l2Particle.f
 repeat' first
   | (with_reducible exact ih0 _ _)
   | (with_reducible exact ih1 _ _ _)
   | (with_reducible exact spec_l1Split.mono _ _ _)
   | (with_reducible exact spec_l2Word.mono _ _)
   | (with_reducible exact LeO.refl _)
   | (with_reducible exact LeO.none _)
   | (with_reducible refine LeO.ite ?_ ?_)
   | (with_reducible refine LeO.bind ?_ (fun _ => ?_))
   | exact ih0 _ _
   | exact ih1 _ _ _
   | exact spec_l1Split.mono _ _ _
   | exact spec_l2Word.mono _ _
   | exact LeO.none _
   | refine LeO.ite ?_ ?_
   | refine LeO.bind ?_ (fun _ => ?_)
set_option maxHeartbeats 8000000 in
set_option maxRecDepth 100000 in
theorem spec_l2Particle.calls (k : Nat) (a0 : ByteArray) (r : Bool) (w : World) (h : spec_l2Particle.f k a0 = some r) :
  Calls Tryz.prog 62 #[.string a0] w fun e w' => e = .returned (.bool r) ∧ Below w.heap.size w w' := by
 have HB := am (Below.refl w.heap.size w);have H : (if a0.toList = ([] : List UInt8) then (some true) else ((spec_l1Split.f k a0 32).bind fun dS => (spec_l2Particle.l0 k dS 0))) = some r := h;clear h;by_cases c2 : a0.toList = ([] : List UInt8)
 · rw [if_pos c2] at H;have c2b0 := qt c2;have c2b1 := bf c2;clear c2;obtain rfl := ojz H;go_enter Tryz.func62, Tryz.ntmps62;go_wp2;go_ret;exact ax1
 ·
  rw [if_neg c2] at H;have c2b0 := qf c2;have c2b1 := bu c2;replace H := ob H;obtain ⟨dS, d6, H⟩ := H
  try dsimp only at H
  have A3 := am d6;clear d6;have H' := am H;clear H;go_enter Tryz.func62, Tryz.ntmps62;go_wp2_with (first | ((with_reducible refine gate_callee (f := 77) rfl ?_); refine goesL_ (some 9) rfl rfl Tryz.func77 (by kernel_rfl) rfl #[.string a0, .int .u8 32] rfl au50 ?_; (with_reducible refine (spec_l1Split.calls k a0 32 dS _ A3.out).mono ?_); rintro e w4 ⟨a3g, rfl, ho0, hb⟩; refine ⟨_, rfl, ?_⟩; have a00 := am (Kd.R_lower ho0 (below_size au51)); replace HB := am (below_step au51 hb); (try clear hb); (try clear ho0)))
  go_loopg [4] k (fun kq v4 w' => ∃ (aU : Int), v4 = .int .i64 aU ∧ Aside0 (spec_l2Particle.l0 kq dS aU = some r) ∧ Aside0 (kq ≤ k) ∧ Aside0 (Kd.R Kd.string 9 w' w.heap.size (fun _ => True) a3g dS) ∧ Aside0 (Below w.heap.size w w'))
  case atStart => exact ⟨(0), au107, H', ⟨Nat.le_refl _⟩, ⟨by (with_reducible repeat (first | apply Kd.R_alloc | apply Kd.R_drewN | apply Kd.R_drew)); exact a00.out⟩, ⟨by repeat (first | (with_reducible first | exact HB.out | apply below_alloc | apply pw_below_drewN | apply below_drew1) | exact HB.out)⟩⟩
  case round =>
   clear H'
   try clear c2
   try clear c2b0
   try clear c2b1
   try clear p2
   obtain ⟨aU, rfl, HA, HK1, cj, HB⟩ := hrel
   cases gk with
   | zero => exact absurd HA.out (by simp [spec_l2Particle.l0])
   | succ k1 =>
    have H := HA.out;clear HA;simp only [spec_l2Particle.l0] at H;by_cases c5 : aU < (dS.length : Int)
    ·
     rw [if_pos c5] at H;have c5b0 := dt c5;clear c5;by_cases c6 : 0 ≤ aU
     ·
      rw [if_pos c6] at H;have c6b0 := dt c6;clear c6;replace H := ob H;obtain ⟨Gb, fK, H⟩ := H
      try dsimp only at H
      have A7 := am fK;clear fK;by_cases c8 : Gb = true
      ·
       subst c8;replace H := (if_pos rfl).symm.trans H;have H' := am H;clear H;obtain ⟨Ao9, WY, Ry⟩ := Kd.R_slice cj.out;subst Ry;have uK : 0 ≤ (aU : Int) := od au106;have uL : aU < (dS.length : Int) := od au106;obtain ⟨tH, OO, Jv⟩ := Kd.at_string (Kd.R_reads' cj.out).2.2 aU uK uL
       cases OO
       replace uK := eq_true uK;replace uL := eq_true uL;go_wp2_with (first | ((with_reducible refine gate_callee (f := 60) rfl ?_); refine goesL_ (some 20) rfl rfl Tryz.func60 (by kernel_rfl) rfl #[.string (rdOf ByteArray.empty dS aU)] rfl au50 ?_; (with_reducible refine (spec_l2Word.calls k1 (rdOf ByteArray.empty dS aU) true _ A7.out).mono ?_); rintro e w' ⟨rfl, ⟨nd, rfl⟩⟩; refine ⟨_, rfl, ?_⟩))
       go_loopg [5] k1 (fun kq v5 w' => ∃ (ji : Int), v5 = .int .i64 ji ∧ Aside0 (spec_l2Particle.l1 kq dS aU ji = some r) ∧ Aside0 (kq ≤ k1) ∧ Aside0 (Kd.R Kd.string 9 w' w.heap.size (fun _ => True) (.slice (some tH) dS.length WY) dS) ∧ Aside0 (Below w.heap.size w w'))
       case atStart => exact ⟨(0), au107, H', ⟨Nat.le_refl _⟩, ⟨by (with_reducible repeat (first | apply Kd.R_alloc | apply Kd.R_drewN | apply Kd.R_drew)); exact cj.out⟩, ⟨by repeat (first | (with_reducible first | exact HB.out | apply below_alloc | apply pw_below_drewN | apply below_drew1) | exact HB.out)⟩⟩
       case round =>
        clear H'
        try clear p1
        try clear q1
        try clear Rw
        try clear c2
        try clear c2b0
        try clear c2b1
        try clear p2
        try clear c5
        try clear c5b0
        try clear c6
        try clear c6b0
        try clear c7
        try clear c8
        try clear Jv
        try clear uK
        try clear p2
        try clear uL
        obtain ⟨ji, rfl, HA, HK2, cj, HB⟩ := hrel
        cases gk with
        | zero => exact absurd HA.out (by simp [spec_l2Particle.l1])
        | succ k2 =>
         have H := HA.out;clear HA;simp only [spec_l2Particle.l1] at H;by_cases c10 : 0 ≤ aU
         ·
          rw [if_pos c10] at H;have c10b0 := dt c10;clear c10;by_cases bH : aU < (dS.length : Int)
          ·
           rw [if_pos bH] at H;have c11b0 := dt bH;clear bH;by_cases cu : ji < ((rdOf ByteArray.empty dS aU).size : Int)
           ·
            rw [if_pos cu] at H;have c12b0 := dt cu;clear cu;by_cases bW : 0 ≤ ji
            ·
             rw [if_pos bW] at H;have c13b0 := dt bW;clear bW;replace H := ob H;obtain ⟨pb, pc, H⟩ := H
             try dsimp only at H
             have qO := am pc;clear pc;by_cases cb : pb = true
             ·
              subst cb;replace H := (if_pos rfl).symm.trans H;have H' := am H;clear H;have pd : 0 ≤ (aU : Int) := od au106;have pe : aU < (dS.length : Int) := od au106;obtain ⟨Au, Gc, Jw⟩ := Kd.at_string (Kd.R_reads' cj.out).2.2 aU pd pe
              obtain rfl : tH = Au := (by injection Gc)
              replace pd := eq_true pd;replace pe := eq_true pe;have yc : 0 ≤ (aU : Int) := od au106;have yd : aU < (dS.length : Int) := od au106;obtain ⟨Ml, OP, Ss⟩ := Kd.at_string (Kd.R_reads' cj.out).2.2 aU yc yd
              obtain rfl : tH = Ml := (by injection OP)
              replace yc := eq_true yc;replace yd := eq_true yd;have gy : 0 ≤ (ji : Int) := od au106;have fG : ji < ((rdOf ByteArray.empty dS aU).size : Int) := od au106;have tG := bt_at (rdOf ByteArray.empty dS aU) ji;replace gy := eq_true gy;replace fG := eq_true fG;go_wp2_with (first | ((with_reducible refine gate_callee (f := 44) rfl ?_); refine goesL_ (some 37) rfl rfl Tryz.func44 (by kernel_rfl) rfl #[.int .u8 (bt (rdOf ByteArray.empty dS aU) ji)] rfl au50 ?_; (with_reducible refine (spec_l2Lower.calls (bt (rdOf ByteArray.empty dS aU) ji) true _ qO.out).mono ?_); rintro e w' ⟨rfl, ⟨nd, rfl⟩⟩; refine ⟨_, rfl, ?_⟩))
              go_roundg k2
              case measure => have := HK1.out; have := HK2.out; omega
              case rel => exact ⟨(wrap64 (ji + 1)), au107, H', ⟨by have := HK1.out; have := HK2.out; omega⟩, ⟨by (with_reducible repeat (first | apply Kd.R_alloc | apply Kd.R_drewN | apply Kd.R_drew)); exact cj.out⟩, ⟨by repeat (first | (with_reducible first | exact HB.out | apply below_alloc | apply pw_below_drewN | apply below_drew1) | exact HB.out)⟩⟩
             ·
              replace cb := Bool.eq_false_iff.mpr cb;subst cb;replace H := (if_neg (show ¬ (false = true) by decide)).symm.trans H;obtain rfl := ojz H;have pd : 0 ≤ (aU : Int) := od au106;have pe : aU < (dS.length : Int) := od au106;obtain ⟨Au, Gc, Jw⟩ := Kd.at_string (Kd.R_reads' cj.out).2.2 aU pd pe
              obtain rfl : tH = Au := (by injection Gc)
              replace pd := eq_true pd;replace pe := eq_true pe;have yc : 0 ≤ (aU : Int) := od au106;have yd : aU < (dS.length : Int) := od au106;obtain ⟨Ml, OP, Ss⟩ := Kd.at_string (Kd.R_reads' cj.out).2.2 aU yc yd
              obtain rfl : tH = Ml := (by injection OP)
              replace yc := eq_true yc;replace yd := eq_true yd;have gy : 0 ≤ (ji : Int) := od au106;have fG : ji < ((rdOf ByteArray.empty dS aU).size : Int) := od au106;have tG := bt_at (rdOf ByteArray.empty dS aU) ji;replace gy := eq_true gy;replace fG := eq_true fG;go_wp2_with (first | ((with_reducible refine gate_callee (f := 44) rfl ?_); refine goesL_ (some 37) rfl rfl Tryz.func44 (by kernel_rfl) rfl #[.int .u8 (bt (rdOf ByteArray.empty dS aU) ji)] rfl au50 ?_; (with_reducible refine (spec_l2Lower.calls (bt (rdOf ByteArray.empty dS aU) ji) false _ qO.out).mono ?_); rintro e w' ⟨rfl, ⟨nd, rfl⟩⟩; refine ⟨_, rfl, ?_⟩));go_ret;exact ax1
            · rw [if_neg bW] at H;exact absurd H (by simp)
           ·
            rw [if_neg cu] at H;have c12b0 := df cu;clear cu;have H' := am H;clear H;have pd : 0 ≤ (aU : Int) := od au106;have pe : aU < (dS.length : Int) := od au106;obtain ⟨Au, Gc, Jw⟩ := Kd.at_string (Kd.R_reads' cj.out).2.2 aU pd pe
            obtain rfl : tH = Au := (by injection Gc)
            replace pd := eq_true pd;replace pe := eq_true pe;go_wp2
            go_roundg k2
            case measure => have := HK1.out; have := HK2.out; omega
            case rel => exact ⟨(wrap64 (aU + 1)), au107, H', ⟨by have := HK1.out; have := HK2.out; omega⟩, ⟨by (with_reducible repeat (first | apply Kd.R_alloc | apply Kd.R_drewN | apply Kd.R_drew)); exact cj.out⟩, ⟨by repeat (first | (with_reducible first | exact HB.out | apply below_alloc | apply pw_below_drewN | apply below_drew1) | exact HB.out)⟩⟩
          · rw [if_neg bH] at H;exact absurd H (by simp)
         · rw [if_neg c10] at H;exact absurd H (by simp)
      ·
       replace c8 := Bool.eq_false_iff.mpr c8;subst c8;replace H := (if_neg (show ¬ (false = true) by decide)).symm.trans H;obtain rfl := ojz H;obtain ⟨anL, anM, a3h⟩ := Kd.R_slice cj.out;subst a3h;have uK : 0 ≤ (aU : Int) := od au106;have uL : aU < (dS.length : Int) := od au106;obtain ⟨tH, OO, Jv⟩ := Kd.at_string (Kd.R_reads' cj.out).2.2 aU uK uL
       cases OO
       replace uK := eq_true uK;replace uL := eq_true uL;go_wp2_with (first | ((with_reducible refine gate_callee (f := 60) rfl ?_); refine goesL_ (some 20) rfl rfl Tryz.func60 (by kernel_rfl) rfl #[.string (rdOf ByteArray.empty dS aU)] rfl au50 ?_; (with_reducible refine (spec_l2Word.calls k1 (rdOf ByteArray.empty dS aU) false _ A7.out).mono ?_); rintro e w' ⟨rfl, ⟨nd, rfl⟩⟩; refine ⟨_, rfl, ?_⟩));go_ret;exact ax1
     · rw [if_neg c6] at H;exact absurd H (by simp)
    · rw [if_neg c5] at H;have c5b0 := df c5;clear c5;obtain rfl := ojz H;obtain ⟨fS, fT, OQ⟩ := Kd.R_slice cj.out;subst OQ;go_wp2;go_ret;exact ax1
def spec_l2Good.l0 : Nat → Int → List ByteArray → ByteArray → ByteArray → ByteArray → Option (Bool)
 | 0, _, _, _, _, _ => none
 | k + 1, x3, nA, Jx, wj, Bw => if x3 < (nA.length : Int) then (if 0 ≤ x3 then ((spec_l2Word.f k (rdOf ByteArray.empty nA x3)).bind fun t139 => (if t139 = true then (if 0 < ((rdOf ByteArray.empty nA x3).size : Int) then ((spec_l2Upper.f (bt (rdOf ByteArray.empty nA x3) 0)).bind fun OS => (if OS = true then (spec_l2Good.l0 k (wrap64 (x3 + 1)) nA Jx wj Bw) else (some false))) else (none)) else (some false))) else (none)) else (if (nA.length : Int) ≤ 3 then ((spec_l2Particle.f k Jx).bind fun OT => (if OT = true then ((spec_l2Word.f k wj).bind fun OU => (if OU = true then (if 0 < (wj.size : Int) then ((spec_l2Upper.f (bt wj 0)).bind fun OV => (if OV = true then (if Bw.toList = ([] : List UInt8) then (some true) else ((spec_l2Word.f k Bw).bind fun OW => (some OW))) else (some false))) else (none)) else (some false))) else (some false))) else (some false))
def spec_l2Good.f (k : Nat) (aV : List ByteArray) (aa : ByteArray) (aC : ByteArray) (aA : ByteArray) : Option (Bool) := spec_l2Good.l0 k 0 aV aa aC aA
theorem spec_l2Good.mono_l : ∀ k, (∀ y0 y1 y2 y3 y4, LeO (spec_l2Good.l0 k y0 y1 y2 y3 y4) (spec_l2Good.l0 (k + 1) y0 y1 y2 y3 y4))
 | 0 => fun _ _ _ _ _ r h => by simp [spec_l2Good.l0] at h
 | k + 1 => by
  have ih0 := spec_l2Good.mono_l k
  ·
   intro y0 y1 y2 y3 y4;unfold spec_l2Good.l0
   repeat' first
   | (with_reducible exact ih0 _ _ _ _ _)
   | (with_reducible exact spec_l2Particle.mono _ _)
   | (with_reducible exact spec_l2Word.mono _ _)
   | (with_reducible exact LeO.refl _)
   | (with_reducible exact LeO.none _)
   | (with_reducible refine LeO.ite ?_ ?_)
   | (with_reducible refine LeO.bind ?_ (fun _ => ?_))
   | exact ih0 _ _ _ _ _
   | exact spec_l2Particle.mono _ _
   | exact spec_l2Word.mono _ _
   | exact LeO.none _
   | refine LeO.ite ?_ ?_
   | refine LeO.bind ?_ (fun _ => ?_)
theorem spec_l2Good.mono : ∀ a0 a1 a2 a3 k, LeO (spec_l2Good.f k a0 a1 a2 a3) (spec_l2Good.f (k + 1) a0 a1 a2 a3) := by
 intro a0 a1 a2 a3 k;have ih0 := spec_l2Good.mono_l k;unfold spec_l2Good.f
 repeat' first
   | (with_reducible exact ih0 _ _ _ _ _)
   | (with_reducible exact spec_l2Particle.mono _ _)
   | (with_reducible exact spec_l2Word.mono _ _)
   | (with_reducible exact LeO.refl _)
   | (with_reducible exact LeO.none _)
   | (with_reducible refine LeO.ite ?_ ?_)
   | (with_reducible refine LeO.bind ?_ (fun _ => ?_))
   | exact ih0 _ _ _ _ _
   | exact spec_l2Particle.mono _ _
   | exact spec_l2Word.mono _ _
   | exact LeO.none _
   | refine LeO.ite ?_ ?_
   | refine LeO.bind ?_ (fun _ => ?_)
set_option maxRecDepth 100000 in
theorem spec_l2Good.L0 {P : Prop} (h : P := by
  go_wp2_with (first | ((with_reducible refine gate_callee (f := 60) rfl ?_); refine goesL_ (some 16) rfl rfl Tryz.func60 (by kernel_rfl) rfl #[.string (rdOf ByteArray.empty aV aJ)] rfl au50 ?_; (with_reducible refine (spec_l2Word.calls k1 (rdOf ByteArray.empty aV aJ) _ _ A5.out).mono ?_); rintro e w' ⟨rfl, ⟨nd, rfl⟩⟩; refine ⟨_, rfl, ?_⟩; have ye : 0 ≤ (aJ : Int) := od au106; have yf : aJ < (aV.length : Int) := od au106; obtain ⟨Mm, OX, qP⟩ := Kd.at_string el.out aJ ye yf; obtain rfl : Fi = Mm := (by injection OX); replace qP := bcl HB.out qP; replace ye := eq_true ye; replace yf := eq_true yf; have p8 : 0 ≤ (0 : Int) := (by omega); have q8 : 0 < (rdOf ByteArray.empty aV aJ).size := (by have : (0 : Int) < ((rdOf ByteArray.empty aV aJ).size : Int) := od au106; omega); have NY : ∀ h : 0 < (rdOf ByteArray.empty aV aJ).size, (((rdOf ByteArray.empty aV aJ)[0]'h).toNat : Int) = bt (rdOf ByteArray.empty aV aJ) 0 := bt_at (rdOf ByteArray.empty aV aJ) 0; clear p8; have qi8 : (0 < ((rdOf ByteArray.empty aV aJ).size : Int)) = True := eq_true (od au106); replace q8 := eq_true q8) | (go_at_call 61; (with_reducible refine (spec_l2Upper.calls (bt (rdOf ByteArray.empty aV aJ) 0) _ _ A9.out).mono ?_); rintro e w' ⟨rfl, ⟨nd, rfl⟩⟩));go_ret
  exact ax4) : P := h
set_option maxRecDepth 100000 in
theorem spec_l2Good.L1 {P : Prop} (h : P := by
  go_wp2_with (first | (go_at_call 62; (with_reducible refine (spec_l2Particle.calls k1 aa _ _ qO.out).mono ?_); rintro e Rz ⟨rfl, hb⟩; replace eZ := am (blk_below (g := Fj) au54 hb); replace HB := am (below_step au28 hb); (try clear hb); obtain ⟨lP, lQ, lR, lS, lT, lU, lV, lW⟩ := blkc4 eZ.out) | (go_at_call 60; (with_reducible refine (spec_l2Word.calls k1 aC _ _ RA.out).mono ?_); rintro e w' ⟨rfl, ⟨nd, rfl⟩⟩; have eJ : 0 ≤ (0 : Int) := (by omega); have eE : 0 < aC.size := (by have : (0 : Int) < (aC.size : Int) := od au106; omega); have oZ : ∀ h : 0 < aC.size, ((aC[0]'h).toNat : Int) = bt aC 0 := bt_at aC 0; clear eJ; have anN : (0 < (aC.size : Int)) = True := eq_true (od au106); replace eE := eq_true eE) | (go_at_call 61; (with_reducible refine (spec_l2Upper.calls (bt aC 0) _ _ qQ.out).mono ?_); rintro e w' ⟨rfl, ⟨nd, rfl⟩⟩) | (go_at_call 60; (with_reducible refine (spec_l2Word.calls k1 aA OW _ WZ.out).mono ?_); rintro e w' ⟨rfl, ⟨nd, rfl⟩⟩));go_ret
  exact ax4) : P := h
set_option maxHeartbeats 8000000 in
set_option maxRecDepth 100000 in
theorem spec_l2Good.calls (k : Nat) (cC : Option Addr) (cD : Nat) (aV : List ByteArray) (aa : ByteArray) (aC : ByteArray) (aA : ByteArray) (r : Bool) (w : World) (dN : Kd.C Kd.string w cC aV.length aV) (dA : aV.length ≤ cD) (h : spec_l2Good.f k aV aa aC aA = some r) :
  Calls Tryz.prog 45 #[.agg #[.slice cC aV.length cD, .string aa, .string aC, .string aA]] w fun e w' => e = .returned (.bool r) ∧ Below w.heap.size w w' := by
 have hu62 := Tryz.underlying62;have el := am dN;have fP := am dA;clear dN dA;have HB := am (Below.refl w.heap.size w);have H : (spec_l2Good.l0 k 0 aV aa aC aA) = some r := h;clear h;have H' := am H;clear H;go_enter Tryz.func45, Tryz.ntmps45;go_wp2_with (first | ((with_reducible refine gate_dst (N := 1) rfl ?_); refine box_event ?hg (N := 1) ?hd (cs := #[.slice cC aV.length cD, .string aa, .string aC, .string aA]) (t := 62) ?hr ?_; (case hd => rfl); (case hg => rfl); (case hr => first | (go_simp; done) | (go_simp; rfl)); intro Fj hg w2 hbox hb; have eZ := am (hbox); have alK := am (bsz hg au51); have Fc := am (bsz hg au51); replace HB := am (below_step au51 hb); clear hb hbox hg))
 go_loopg [3] k (fun kq v3 w' => ∃ (aJ : Int), v3 = .int .i64 aJ ∧ Aside0 (spec_l2Good.l0 kq aJ aV aa aC aA = some r) ∧ Aside0 (kq ≤ k) ∧ Aside0 (w'.heap[Fj]? = some (.cells #[(.slice cC aV.length cD), .string aa, .string aC, .string aA] 62 (0, 0))) ∧ Aside0 (Below w.heap.size w w'))
 case atStart => exact ⟨(0), au107, H', ⟨Nat.le_refl _⟩, ⟨by (with_reducible repeat (first | refine blk_drewN ?_ _ | refine blk_drew ?_ | refine blk_alloc ?_ _)); exact eZ.out⟩, ⟨by repeat (first | (with_reducible first | exact HB.out | apply below_alloc | apply pw_below_drewN | apply below_drew1 | refine below_set ?_ Fc.out) | exact HB.out)⟩⟩
 case round =>
  clear H'
  try clear p2
  obtain ⟨aJ, rfl, HA, HK1, eZ, HB⟩ := hrel
  cases gk with
  | zero => exact absurd HA.out (by simp [spec_l2Good.l0])
  | succ k1 =>
   have H := HA.out;clear HA;simp only [spec_l2Good.l0] at H;by_cases c3 : aJ < (aV.length : Int)
   ·
    rw [if_pos c3] at H;have c3b0 := dt c3;clear c3;by_cases c4 : 0 ≤ aJ
    ·
     rw [if_pos c4] at H;have c4b0 := dt c4;clear c4;replace H := ob H;obtain ⟨t139, mJ, H⟩ := H
     try dsimp only at H
     have A5 := am mJ;clear mJ;by_cases c6 : t139 = true
     ·
      subst c6;replace H := (if_pos rfl).symm.trans H;by_cases c7 : 0 < ((rdOf ByteArray.empty aV aJ).size : Int)
      ·
       rw [if_pos c7] at H;have c7b0 := dt c7;have c7b1 : decide (0 < (rdOf ByteArray.empty aV aJ).size) = true := dt (by omega);clear c7;replace H := ob H;obtain ⟨OS, jR, H⟩ := H
       try dsimp only at H
       have A9 := am jR;clear jR;by_cases c10 : OS = true
       ·
        subst c10;replace H := (if_pos rfl).symm.trans H;have H' := am H;clear H;obtain ⟨fi, fj, fk, fl, fm, fo, fp, fq⟩ := blkc4 eZ.out;have pf : 0 ≤ (aJ : Int) := od au106;have pg : aJ < (aV.length : Int) := od au106;obtain ⟨Fi, Gd, jS⟩ := Kd.at_string el.out aJ pf pg
        cases Gd
        replace jS := bcl HB.out jS;replace pf := eq_true pf;replace pg := eq_true pg;go_wp2_with (first | ((with_reducible refine gate_callee (f := 60) rfl ?_); refine goesL_ (some 16) rfl rfl Tryz.func60 (by kernel_rfl) rfl #[.string (rdOf ByteArray.empty aV aJ)] rfl au50 ?_; (with_reducible refine (spec_l2Word.calls k1 (rdOf ByteArray.empty aV aJ) _ _ A5.out).mono ?_); rintro e w' ⟨rfl, ⟨nd, rfl⟩⟩; refine ⟨_, rfl, ?_⟩; have ye : 0 ≤ (aJ : Int) := od au106; have yf : aJ < (aV.length : Int) := od au106; obtain ⟨Mm, OX, qP⟩ := Kd.at_string el.out aJ ye yf; obtain rfl : Fi = Mm := (by injection OX); replace qP := bcl HB.out qP; replace ye := eq_true ye; replace yf := eq_true yf; have p8 : 0 ≤ (0 : Int) := (by omega); have q8 : 0 < (rdOf ByteArray.empty aV aJ).size := (by have : (0 : Int) < ((rdOf ByteArray.empty aV aJ).size : Int) := od au106; omega); have NY : ∀ h : 0 < (rdOf ByteArray.empty aV aJ).size, (((rdOf ByteArray.empty aV aJ)[0]'h).toNat : Int) = bt (rdOf ByteArray.empty aV aJ) 0 := bt_at (rdOf ByteArray.empty aV aJ) 0; clear p8; have qi8 : (0 < ((rdOf ByteArray.empty aV aJ).size : Int)) = True := eq_true (od au106); replace q8 := eq_true q8) | (go_at_call 61; (with_reducible refine (spec_l2Upper.calls (bt (rdOf ByteArray.empty aV aJ) 0) _ _ A9.out).mono ?_); rintro e w' ⟨rfl, ⟨nd, rfl⟩⟩))
        go_roundg k1
        case measure => have := HK1.out; omega
        case rel => exact ⟨(wrap64 (aJ + 1)), au107, H', ⟨by have := HK1.out; omega⟩, ⟨by (with_reducible repeat (first | refine blk_drewN ?_ _ | refine blk_drew ?_ | refine blk_alloc ?_ _)); exact eZ.out⟩, ⟨by repeat (first | (with_reducible first | exact HB.out | apply below_alloc | apply pw_below_drewN | apply below_drew1 | refine below_set ?_ Fc.out) | exact HB.out)⟩⟩
       ·
        replace c10 := Bool.eq_false_iff.mpr c10;subst c10;replace H := (if_neg (show ¬ (false = true) by decide)).symm.trans H;obtain rfl := ojz H;obtain ⟨gQ, gR, gS, gT, gU, gV, gW, gX⟩ := blkc4 eZ.out;have pf : 0 ≤ (aJ : Int) := od au106;have pg : aJ < (aV.length : Int) := od au106;obtain ⟨Fi, Gd, jS⟩ := Kd.at_string el.out aJ pf pg
        cases Gd
        replace jS := bcl HB.out jS;replace pf := eq_true pf;replace pg := eq_true pg;exact spec_l2Good.L0
      · rw [if_neg c7] at H;exact absurd H (by simp)
     ·
      replace c6 := Bool.eq_false_iff.mpr c6;subst c6;replace H := (if_neg (show ¬ (false = true) by decide)).symm.trans H;obtain rfl := ojz H;obtain ⟨lX, lY, lZ, m0, m4, m5, m6, m7⟩ := blkc4 eZ.out;have pf : 0 ≤ (aJ : Int) := od au106;have pg : aJ < (aV.length : Int) := od au106;obtain ⟨Fi, Gd, jS⟩ := Kd.at_string el.out aJ pf pg
      cases Gd
      replace jS := bcl HB.out jS;replace pf := eq_true pf;replace pg := eq_true pg;go_wp2_with (first | ((with_reducible refine gate_callee (f := 60) rfl ?_); refine goesL_ (some 16) rfl rfl Tryz.func60 (by kernel_rfl) rfl #[.string (rdOf ByteArray.empty aV aJ)] rfl au50 ?_; (with_reducible refine (spec_l2Word.calls k1 (rdOf ByteArray.empty aV aJ) _ _ A5.out).mono ?_); rintro e w' ⟨rfl, ⟨nd, rfl⟩⟩; refine ⟨_, rfl, ?_⟩));go_ret;exact ax4
    · rw [if_neg c4] at H;exact absurd H (by simp)
   ·
    rw [if_neg c3] at H;have c3b0 := df c3;clear c3;by_cases cO : (aV.length : Int) ≤ 3
    ·
     rw [if_pos cO] at H;have c14b0 := dt cO;have c14b1 : decide (aV.length ≤ 3) = true := dt (by omega);clear cO;replace H := ob H;obtain ⟨OT, pc, H⟩ := H
     try dsimp only at H
     have qO := am pc;clear pc;by_cases cb : OT = true
     ·
      subst cb;replace H := (if_pos rfl).symm.trans H;replace H := ob H;obtain ⟨OU, Ge, H⟩ := H
      try dsimp only at H
      have RA := am Ge;clear Ge;by_cases eC : OU = true
      ·
       subst eC;replace H := (if_pos rfl).symm.trans H;by_cases dp : 0 < (aC.size : Int)
       ·
        rw [if_pos dp] at H;have c19b0 := dt dp;have c19b1 : decide (0 < aC.size) = true := dt (by omega);clear dp;replace H := ob H;obtain ⟨OV, kU, H⟩ := H
        try dsimp only at H
        have qQ := am kU;clear kU;by_cases dy : OV = true
        ·
         subst dy;replace H := (if_pos rfl).symm.trans H;by_cases fc : aA.toList = ([] : List UInt8)
         · rw [if_pos fc] at H;have c23b0 := qt fc;have c23b1 := bf fc;clear fc;obtain rfl := ojz H;obtain ⟨nq, nr, nt, nu, nv, nw, nx, nz⟩ := blkc4 eZ.out;exact spec_l2Good.L1
         ·
          rw [if_neg fc] at H;have c23b0 := qf fc;have c23b1 := bu fc;replace H := ob H;obtain ⟨OW, Gf, H⟩ := H
          try dsimp only at H
          have WZ := am Gf;clear Gf;obtain rfl := ojz H;obtain ⟨qR, qS, qT, qU, qV, qW, qX, qY⟩ := blkc4 eZ.out;exact spec_l2Good.L1
        · replace dy := Bool.eq_false_iff.mpr dy;subst dy;replace H := (if_neg (show ¬ (false = true) by decide)).symm.trans H;obtain rfl := ojz H;obtain ⟨m8, m9, ma, mb, mc, me, mf, mg⟩ := blkc4 eZ.out;exact spec_l2Good.L1
       · rw [if_neg dp] at H;exact absurd H (by simp)
      · replace eC := Bool.eq_false_iff.mpr eC;subst eC;replace H := (if_neg (show ¬ (false = true) by decide)).symm.trans H;obtain rfl := ojz H;obtain ⟨qZ, r0, ra, rb, rc, re, rf, rh⟩ := blkc4 eZ.out;go_wp2_with (first | (go_at_call 62; (with_reducible refine (spec_l2Particle.calls k1 aa _ _ qO.out).mono ?_); rintro e RB ⟨rfl, hb⟩; replace eZ := am (blk_below (g := Fj) au54 hb); replace HB := am (below_step au28 hb); (try clear hb); obtain ⟨aaB, aaC, aaD, aaE, aaF, aaG, aaH, aaI⟩ := blkc4 eZ.out) | (go_at_call 60; (with_reducible refine (spec_l2Word.calls k1 aC _ _ RA.out).mono ?_); rintro e w' ⟨rfl, ⟨nd, rfl⟩⟩));go_ret;exact ax4
     · replace cb := Bool.eq_false_iff.mpr cb;subst cb;replace H := (if_neg (show ¬ (false = true) by decide)).symm.trans H;obtain rfl := ojz H;obtain ⟨aaJ, aaK, aaL, aaM, aaN, aaO, aaP, aaQ⟩ := blkc4 eZ.out;go_wp2_with (first | (go_at_call 62; (with_reducible refine (spec_l2Particle.calls k1 aa _ _ qO.out).mono ?_); rintro e w38 ⟨rfl, hb⟩; replace eZ := am (blk_below (g := Fj) au54 hb); replace HB := am (below_step au28 hb); (try clear hb)));go_ret;exact ax4
    · rw [if_neg cO] at H;have c14b0 := df cO;have c14b1 : decide (aV.length ≤ 3) = false := df (by omega);clear cO;obtain rfl := ojz H;obtain ⟨Su, Sv, Sw, Sx, Sy, Sz, SA, SB⟩ := blkc4 eZ.out;exact spec_l2Good.L0
mutual
def spec_l2List.l0 : Nat → List (S62) → Int → Option (Bool)
 | 0, _, _ => none
 | k + 1, x0, x3 => if x3 < (x0.length : Int) then (spec_l2List.j1 k x0 x3 (decide (x3 ≤ 4))) else (spec_l2List.j1 k x0 x3 false)
def spec_l2List.j1 : Nat → List (S62) → Int → Bool → Option (Bool)
 | 0, _, _, _ => none
 | k + 1, x0, x3, ri => if ri = true then (if 0 ≤ x3 then (if x3 < (x0.length : Int) then ((spec_l2Good.f k ((rd_T62 x0 x3).f0) ((rd_T62 x0 x3).f1) ((rd_T62 x0 x3).f2) ((rd_T62 x0 x3).f3)).bind fun OY => (if OY = true then (spec_l2List.l0 k x0 (wrap64 (x3 + 1))) else (some false))) else (none)) else (none)) else (some (decide ((x0.length : Int) ≤ 4)))
end
def spec_l2List.f (k : Nat) (l0 : List (S62)) : Option (Bool) := spec_l2List.l0 k l0 0
theorem spec_l2List.mono_l : ∀ k, (∀ y0 y1, LeO (spec_l2List.l0 k y0 y1) (spec_l2List.l0 (k + 1) y0 y1)) ∧ (∀ y0 y1 y2, LeO (spec_l2List.j1 k y0 y1 y2) (spec_l2List.j1 (k + 1) y0 y1 y2))
 | 0 => ⟨fun _ _ r h => by simp [spec_l2List.l0] at h, fun _ _ _ r h => by simp [spec_l2List.j1] at h⟩
 | k + 1 => by
  obtain ⟨ih0, ih1⟩ := spec_l2List.mono_l k;refine ⟨?_, ?_⟩
  ·
   intro y0 y1;unfold spec_l2List.l0
   repeat' first
   | (with_reducible exact ih0 _ _)
   | (with_reducible exact ih1 _ _ _)
   | (with_reducible exact spec_l2Good.mono _ _ _ _ _)
   | (with_reducible exact LeO.refl _)
   | (with_reducible exact LeO.none _)
   | (with_reducible refine LeO.ite ?_ ?_)
   | (with_reducible refine LeO.bind ?_ (fun _ => ?_))
   | exact ih0 _ _
   | exact ih1 _ _ _
   | exact spec_l2Good.mono _ _ _ _ _
   | exact LeO.none _
   | refine LeO.ite ?_ ?_
   | refine LeO.bind ?_ (fun _ => ?_)
  ·
   intro y0 y1 y2;unfold spec_l2List.j1
   repeat' first
   | (with_reducible exact ih0 _ _)
   | (with_reducible exact ih1 _ _ _)
   | (with_reducible exact spec_l2Good.mono _ _ _ _ _)
   | (with_reducible exact LeO.refl _)
   | (with_reducible exact LeO.none _)
   | (with_reducible refine LeO.ite ?_ ?_)
   | (with_reducible refine LeO.bind ?_ (fun _ => ?_))
   | exact ih0 _ _
   | exact ih1 _ _ _
   | exact spec_l2Good.mono _ _ _ _ _
   | exact LeO.none _
   | refine LeO.ite ?_ ?_
   | refine LeO.bind ?_ (fun _ => ?_)
theorem spec_l2List.mono : ∀ a0 k, LeO (spec_l2List.f k a0) (spec_l2List.f (k + 1) a0) := by
 intro a0 k;obtain ⟨ih0, ih1⟩ := spec_l2List.mono_l k;unfold spec_l2List.f
 repeat' first
   | (with_reducible exact ih0 _ _)
   | (with_reducible exact ih1 _ _ _)
   | (with_reducible exact spec_l2Good.mono _ _ _ _ _)
   | (with_reducible exact LeO.refl _)
   | (with_reducible exact LeO.none _)
   | (with_reducible refine LeO.ite ?_ ?_)
   | (with_reducible refine LeO.bind ?_ (fun _ => ?_))
   | exact ih0 _ _
   | exact ih1 _ _ _
   | exact spec_l2Good.mono _ _ _ _ _
   | exact LeO.none _
   | refine LeO.ite ?_ ?_
   | refine LeO.bind ?_ (fun _ => ?_)
set_option maxHeartbeats 8000000 in
set_option maxRecDepth 100000 in
theorem spec_l2List.calls (k : Nat) (A0 : Option Addr) (c0 : Nat) (l0 : List (S62)) (r : Bool) (w : World) (dn : Kd.C k62 w A0 l0.length l0) (d5 : l0.length ≤ c0) (h : spec_l2List.f k l0 = some r) :
  Calls Tryz.prog 28 #[.slice A0 l0.length c0] w fun e w' => e = .returned (.bool r) ∧ Below w.heap.size w w' := by
 have hu62 := Tryz.underlying62;have dM := am dn;have lr := am d5;clear dn d5;have HB := am (Below.refl w.heap.size w);have H : (spec_l2List.l0 k l0 0) = some r := h;clear h;have H' := am H;clear H;go_enter Tryz.func28, Tryz.ntmps28;go_wp2
 go_loopg [3] k (fun kq v3 w' => ∃ (aJ : Int), v3 = .int .i64 aJ ∧ Aside0 (spec_l2List.l0 kq l0 aJ = some r) ∧ Aside0 (kq ≤ k) ∧ Aside0 (Below w.heap.size w w'))
 case atStart => exact ⟨(0), au107, H', ⟨Nat.le_refl _⟩, ⟨by repeat (first | (with_reducible first | exact HB.out | apply below_alloc | apply pw_below_drewN | apply below_drew1) | exact HB.out)⟩⟩
 case round =>
  clear H';obtain ⟨aJ, rfl, HA, HK1, HB⟩ := hrel
  cases gk with
  | zero => exact absurd HA.out (by simp [spec_l2List.l0])
  | succ k1 =>
   have H := HA.out;clear HA;simp only [spec_l2List.l0] at H;have eV := am H;clear H
   go_upto_region 2 with (fail)
   go_cut [11] (fun X0 wc => ∃ (kq : Nat) (nh : Bool), X0 = .bool nh ∧ Aside0 (spec_l2List.j1 kq l0 aJ nh = some r) ∧ Aside0 (kq ≤ k1) ∧ Aside0 (Below w.heap.size w wc))
   case first =>
    have H := eV.out;clear eV;by_cases c3 : aJ < (l0.length : Int)
    ·
     rw [if_pos c3] at H;have c3b0 := dt c3;clear c3
     (first | rw [c3b0] | (simp only [i64_w, i32_w]; rw [c3b0]) | skip)
     have H' := am H;clear H;go_wp2;go_meet
     case rel => exact ⟨_, (decide (aJ ≤ 4)), au107, H', ⟨by have := HK1.out; first | omega | exact Nat.le_refl _⟩, ⟨by repeat (first | (with_reducible first | exact HB.out | apply below_alloc | apply pw_below_drewN | apply below_drew1) | exact HB.out)⟩⟩
    ·
     rw [if_neg c3] at H;have c3b0 := df c3;clear c3
     (first | rw [c3b0] | (simp only [i64_w, i32_w]; rw [c3b0]) | skip)
     have H' := am H;clear H;go_wp2;go_meet
     case rel => exact ⟨_, (false), au107, H', ⟨by have := HK1.out; first | omega | exact Nat.le_refl _⟩, ⟨by repeat (first | (with_reducible first | exact HB.out | apply below_alloc | apply pw_below_drewN | apply below_drew1) | exact HB.out)⟩⟩
   case rest =>
    clear eV
    try clear c2
    try clear p2
    try clear c3
    try clear c3b0
    obtain ⟨kq, nh, rfl, HA, eW, HB⟩ := hcut
    cases kq with
    | zero => exact absurd HA.out (by simp [spec_l2List.j1])
    | succ dT =>
     have H := HA.out;clear HA;simp only [spec_l2List.j1] at H;by_cases c4 : nh = true
     ·
      subst c4;replace H := (if_pos rfl).symm.trans H;by_cases c5 : 0 ≤ aJ
      ·
       rw [if_pos c5] at H;have c5b0 := dt c5;clear c5;by_cases c6 : aJ < (l0.length : Int)
       ·
        rw [if_pos c6] at H;have c6b0 := dt c6;clear c6;replace H := ob H;obtain ⟨OY, fK, H⟩ := H
        try dsimp only at H
        have A7 := am fK;clear fK;by_cases c8 : OY = true
        ·
         subst c8;replace H := (if_pos rfl).symm.trans H;have H' := am H;clear H;have yg : 0 ≤ (aJ : Int) := od au106;have yh : aJ < (l0.length : Int) := od au106;obtain ⟨a01, Gg, Gh, OZ, rj, rk, rl, rm, rn, rp⟩ := at_T62 dM.out aJ yg yh
         cases OZ
         replace rj := bcl HB.out rj;replace rk := bcl HB.out rk;replace rl := bcl HB.out rl;replace rm := bcl HB.out rm;have Bz := am rp;have BA := am rn;clear rp rn;replace yg := eq_true yg;replace yh := eq_true yh;go_wp2_with (first | ((with_reducible refine gate_callee (f := 45) rfl ?_); refine goesL_ (some 18) rfl rfl Tryz.func45 (by kernel_rfl) rfl #[.agg #[.slice Gg ((rd_T62 l0 aJ).f0).length Gh, .string ((rd_T62 l0 aJ).f1), .string ((rd_T62 l0 aJ).f2), .string ((rd_T62 l0 aJ).f3)]] rfl au50 ?_; (with_reducible refine (spec_l2Good.calls dT _ _ ((rd_T62 l0 aJ).f0) ((rd_T62 l0 aJ).f1) ((rd_T62 l0 aJ).f2) ((rd_T62 l0 aJ).f3) true _ ?ax ?ay A7.out).mono ?_); (case ax => repeat (first | exact (Kd.C_below Bz.out HB.out) | (with_reducible refine Kd.C_alloc ?_ _) | (with_reducible refine Kd.C_drewN ?_ _) | (with_reducible refine Kd.C_drew ?_))); (case ay => exact BA.out); rintro e w9 ⟨rfl, hb⟩; refine ⟨_, rfl, ?_⟩; replace HB := am (below_step au51 hb); (try clear hb)))
         go_roundg dT
         case measure => have := HK1.out; have := eW.out; omega
         case rel => exact ⟨(wrap64 (aJ + 1)), au107, H', ⟨by have := HK1.out; have := eW.out; omega⟩, ⟨by repeat (first | (with_reducible first | exact HB.out | apply below_alloc | apply pw_below_drewN | apply below_drew1) | exact HB.out)⟩⟩
        ·
         replace c8 := Bool.eq_false_iff.mpr c8;subst c8;replace H := (if_neg (show ¬ (false = true) by decide)).symm.trans H;obtain rfl := ojz H;have yg : 0 ≤ (aJ : Int) := od au106;have yh : aJ < (l0.length : Int) := od au106;obtain ⟨a01, Gg, Gh, OZ, rj, rk, rl, rm, rn, rp⟩ := at_T62 dM.out aJ yg yh
         cases OZ
         replace rj := bcl HB.out rj;replace rk := bcl HB.out rk;replace rl := bcl HB.out rl;replace rm := bcl HB.out rm;have Bz := am rp;have BA := am rn;clear rp rn;replace yg := eq_true yg;replace yh := eq_true yh;go_wp2_with (first | ((with_reducible refine gate_callee (f := 45) rfl ?_); refine goesL_ (some 18) rfl rfl Tryz.func45 (by kernel_rfl) rfl #[.agg #[.slice Gg ((rd_T62 l0 aJ).f0).length Gh, .string ((rd_T62 l0 aJ).f1), .string ((rd_T62 l0 aJ).f2), .string ((rd_T62 l0 aJ).f3)]] rfl au50 ?_; (with_reducible refine (spec_l2Good.calls dT _ _ ((rd_T62 l0 aJ).f0) ((rd_T62 l0 aJ).f1) ((rd_T62 l0 aJ).f2) ((rd_T62 l0 aJ).f3) false _ ?ax ?ay A7.out).mono ?_); (case ax => repeat (first | exact (Kd.C_below Bz.out HB.out) | (with_reducible refine Kd.C_alloc ?_ _) | (with_reducible refine Kd.C_drewN ?_ _) | (with_reducible refine Kd.C_drew ?_))); (case ay => exact BA.out); rintro e uw ⟨rfl, hb⟩; refine ⟨_, rfl, ?_⟩; replace HB := am (below_step au51 hb); (try clear hb)));go_ret;exact ax1
       · rw [if_neg c6] at H;exact absurd H (by simp)
      · rw [if_neg c5] at H;exact absurd H (by simp)
     · replace c4 := Bool.eq_false_iff.mpr c4;subst c4;replace H := (if_neg (show ¬ (false = true) by decide)).symm.trans H;obtain rfl := ojz H;go_wp2;go_ret;exact ax1
def spec_l4Text.l0 : Nat → ByteArray → Int → Option (Bool)
 | 0, _, _ => none
 | k + 1, x0, x3 => if x3 < (x0.size : Int) then (if 0 ≤ x3 then (if (bt x0 x3) < 32 then (some false) else (if (bt x0 x3) > 126 then (some false) else (spec_l4Text.l0 k x0 (wrap64 (x3 + 1))))) else (none)) else (if x0.toList = ([] : List UInt8) then (some true) else (if 0 < (x0.size : Int) then (if (bt x0 0) = 32 then (some false) else (if 0 ≤ (wrap64 ((x0.size : Int) - 1)) then (if (wrap64 ((x0.size : Int) - 1)) < (x0.size : Int) then (some ((bt x0 (wrap64 ((x0.size : Int) - 1))) != 32)) else (none)) else (none))) else (none)))
def spec_l4Text.f (k : Nat) (a0 : ByteArray) : Option (Bool) := if (a0.size : Int) > 40 then (some false) else (spec_l4Text.l0 k a0 0)
theorem spec_l4Text.mono_l : ∀ k, (∀ y0 y1, LeO (spec_l4Text.l0 k y0 y1) (spec_l4Text.l0 (k + 1) y0 y1))
 | 0 => fun _ _ r h => by simp [spec_l4Text.l0] at h
 | k + 1 => by
  have ih0 := spec_l4Text.mono_l k
  ·
   intro y0 y1;unfold spec_l4Text.l0
   repeat' first
   | (with_reducible exact ih0 _ _)
   | (with_reducible exact LeO.refl _)
   | (with_reducible exact LeO.none _)
   | (with_reducible refine LeO.ite ?_ ?_)
   | (with_reducible refine LeO.bind ?_ (fun _ => ?_))
   | exact ih0 _ _
   | exact LeO.none _
   | refine LeO.ite ?_ ?_
   | refine LeO.bind ?_ (fun _ => ?_)
theorem spec_l4Text.mono : ∀ a0 k, LeO (spec_l4Text.f k a0) (spec_l4Text.f (k + 1) a0) := by
 intro a0 k;have ih0 := spec_l4Text.mono_l k;unfold spec_l4Text.f
 repeat' first
   | (with_reducible exact ih0 _ _)
   | (with_reducible exact LeO.refl _)
   | (with_reducible exact LeO.none _)
   | (with_reducible refine LeO.ite ?_ ?_)
   | (with_reducible refine LeO.bind ?_ (fun _ => ?_))
   | exact ih0 _ _
   | exact LeO.none _
   | refine LeO.ite ?_ ?_
   | refine LeO.bind ?_ (fun _ => ?_)
set_option maxHeartbeats 8000000 in
set_option maxRecDepth 100000 in
theorem spec_l4Text.calls (k : Nat) (a0 : ByteArray) (r : Bool) (w : World) (h : spec_l4Text.f k a0 = some r) :
  Calls Tryz.prog 29 #[.string a0] w fun e w' => e = .returned (.bool r) ∧ Drawn0 w w' := by
 have H : (if (a0.size : Int) > 40 then (some false) else (spec_l4Text.l0 k a0 0)) = some r := h;clear h;by_cases c2 : (a0.size : Int) > 40
 · rw [if_pos c2] at H;have c2b0 := dt c2;have c2b1 : decide (40 < a0.size) = true := dt (by omega);clear c2;obtain rfl := ojz H;go_enter Tryz.func29, Tryz.ntmps29;go_wp2;go_ret;exact ax0
 ·
  rw [if_neg c2] at H;have c2b0 := df c2;have c2b1 : decide (40 < a0.size) = false := df (by omega);clear c2;have H' := am H;clear H;go_enter Tryz.func29, Tryz.ntmps29;go_wp2
  go_loopg [3] k (fun kq v3 w' => ∃ (aJ : Int), v3 = .int .i64 aJ ∧ Aside0 (spec_l4Text.l0 kq a0 aJ = some r) ∧ Aside0 (kq ≤ k) ∧ Drawn0 w w')
  case atStart => exact ⟨(0), au107, H', ⟨Nat.le_refl _⟩, by repeat (first | exact Drawn0.refl _ | apply Drawn0.step)⟩
  case round =>
   clear H'
   try clear c2
   try clear c2b0
   try clear c2b1
   try clear p2
   obtain ⟨aJ, rfl, HA, HK1, ⟨m1, rfl⟩⟩ := hrel
   cases gk with
   | zero => exact absurd HA.out (by simp [spec_l4Text.l0])
   | succ k1 =>
    have H := HA.out;clear HA;simp only [spec_l4Text.l0] at H;by_cases c3 : aJ < (a0.size : Int)
    ·
     rw [if_pos c3] at H;have c3b0 := dt c3;clear c3;by_cases c4 : 0 ≤ aJ
     ·
      rw [if_pos c4] at H;have c4b0 := dt c4;clear c4;by_cases c6 : (bt a0 aJ) < 32
      · rw [if_pos c6] at H;have c6b0 := dt c6;clear c6;obtain rfl := ojz H;have p5 : 0 ≤ (aJ : Int) := od au106;have q5 : aJ < (a0.size : Int) := od au106;have NZ := bt_at a0 aJ;replace p5 := eq_true p5;replace q5 := eq_true q5;go_wp2;go_ret;exact ax0
      ·
       rw [if_neg c6] at H;have c6b0 := df c6;clear c6;by_cases c8 : (bt a0 aJ) > 126
       · rw [if_pos c8] at H;have c8b0 := dt c8;clear c8;obtain rfl := ojz H;have p5 : 0 ≤ (aJ : Int) := od au106;have q5 : aJ < (a0.size : Int) := od au106;have NZ := bt_at a0 aJ;replace p5 := eq_true p5;replace q5 := eq_true q5;have p7 : 0 ≤ (aJ : Int) := od au106;have q7 : aJ < (a0.size : Int) := od au106;have NX := bt_at a0 aJ;replace p7 := eq_true p7;replace q7 := eq_true q7;go_wp2;go_ret;exact ax0
       ·
        rw [if_neg c8] at H;have c8b0 := df c8;clear c8;have H' := am H;clear H;have p5 : 0 ≤ (aJ : Int) := od au106;have q5 : aJ < (a0.size : Int) := od au106;have NZ := bt_at a0 aJ;replace p5 := eq_true p5;replace q5 := eq_true q5;have p7 : 0 ≤ (aJ : Int) := od au106;have q7 : aJ < (a0.size : Int) := od au106;have NX := bt_at a0 aJ;replace p7 := eq_true p7;replace q7 := eq_true q7;go_wp2
        go_roundg k1
        case measure => have := HK1.out; omega
        case rel => exact ⟨(wrap64 (aJ + 1)), au107, H', ⟨by have := HK1.out; omega⟩, by repeat (first | exact Drawn0.refl _ | apply Drawn0.step)⟩
     · rw [if_neg c4] at H;exact absurd H (by simp)
    ·
     rw [if_neg c3] at H;have c3b0 := df c3;clear c3;by_cases c9 : a0.toList = ([] : List UInt8)
     · rw [if_pos c9] at H;have c9b0 := qt c9;have c9b1 := bf c9;clear c9;obtain rfl := ojz H;go_wp2;go_ret;exact ax0
     ·
      rw [if_neg c9] at H;have c9b0 := qf c9;have c9b1 := bu c9;by_cases c10 : 0 < (a0.size : Int)
      ·
       rw [if_pos c10] at H;have c10b0 := dt c10;have c10b1 : decide (0 < a0.size) = true := dt (by omega);clear c10;by_cases cu : (bt a0 0) = 32
       ·
        rw [if_pos cu] at H;have c12b0 := qt cu;have c12b1 := bf cu;clear cu;obtain rfl := ojz H
        have hZ : 0 ≤ (0 : Int) := (by omega)
        have gz : 0 < a0.size := (by have : (0 : Int) < (a0.size : Int) := od au106; omega)
        have uE : ∀ h : 0 < a0.size, ((a0[0]'h).toNat : Int) = bt a0 0 := bt_at a0 0;clear hZ;have a3i : (0 < (a0.size : Int)) = True := eq_true (od au106);replace gz := eq_true gz;go_wp2;go_ret;exact ax0
       ·
        rw [if_neg cu] at H;have c12b0 := qf cu;have c12b1 := bu cu
        obtain ⟨tI, Fl⟩ : ∃ j_ : Int, (wrap64 ((a0.size : Int) - 1)) = j_ := ⟨_, rfl⟩
        replace H : (if 0 ≤ (tI) then (if (tI) < (a0.size : Int) then (some ((bt a0 (tI)) != 32)) else (none)) else (none)) = some r := by first | (rw [Fl] at H; exact H) | (simp only [Fl] at H ⊢; exact H)
        have hji13w : (IntKind.i64.wrap ((a0.size : Int) - 1)) = tI := (i64_w _).trans Fl;by_cases cO : 0 ≤ (tI)
        ·
         rw [if_pos cO] at H;have c14b0 := dt cO;clear cO;by_cases bV : (tI) < (a0.size : Int)
         ·
          rw [if_pos bV] at H;have c15b0 := dt bV;clear bV;obtain rfl := ojz H
          have hZ : 0 ≤ (0 : Int) := (by omega)
          have gz : 0 < a0.size := (by have : (0 : Int) < (a0.size : Int) := od au106; omega)
          have uE : ∀ h : 0 < a0.size, ((a0[0]'h).toNat : Int) = bt a0 0 := bt_at a0 0;clear hZ;have a3i : (0 < (a0.size : Int)) = True := eq_true (od au106);replace gz := eq_true gz;have F1 : 0 ≤ ((tI) : Int) := od au106;have F2 : (tI) < (a0.size : Int) := od au106;have WU := bt_at a0 (tI);replace F1 := eq_true F1;replace F2 := eq_true F2;go_wp2;go_ret;exact ⟨by first | rfl | (simp; done) | (simp only [← Fl] <;> (first | rfl | simp)) | (simp [*]; done), by repeat (first | exact Drawn0.refl _ | apply Drawn0.step)⟩
         · rw [if_neg bV] at H;exact absurd H (by simp)
        · rw [if_neg cO] at H;exact absurd H (by simp)
      · rw [if_neg c10] at H;exact absurd H (by simp)
theorem eqA32 (d : Nat) (w : World) (x0 y0 : Int) (x1 y1 : Int) (x2 y2 : Int) (x3 y3 : Bool) :
  (Op.equalIn (d + 2) 32 (.agg #[.int .i64 x0, .int .i64 x1, .int .i64 x2, .bool x3]) (.agg #[.int .i64 y0, .int .i64 y1, .int .i64 y2, .bool y3])).run Tryz.prog w = .ok (x0 == y0 && (x1 == y1 && (x2 == y2 && (x3 == y3)))) w := by
 refine eqA_of Tryz.underlying32 (by kernel_rfl) ?_;refine eqf_cons (by rfl) (by go_simp; rfl) (by go_simp; rfl) (by go_simp) ?_;refine eqf_cons (by rfl) (by go_simp; rfl) (by go_simp; rfl) (by go_simp) ?_;refine eqf_cons (by rfl) (by go_simp; rfl) (by go_simp; rfl) (by go_simp) ?_;exact eqf_last (by rfl) (by go_simp; rfl) (by go_simp; rfl) (by go_simp)
def spec_l3Days.j0 : Nat → Bool → Option (Int)
 | 0, _ => none
 | k + 1, x19 => if x19 = true then (some 29) else (some 28)
def spec_l3Days.f (k : Nat) (a0 : Int) (a1 : Int) : Option (Int) := if a1 = 2 then (if (Int.tmod a0 4) = 0 then (if (Int.tmod a0 100) = 0 then (spec_l3Days.j0 k ((Int.tmod a0 400) == 0)) else (spec_l3Days.j0 k true)) else (spec_l3Days.j0 k ((Int.tmod a0 400) == 0))) else (if a1 = 4 then (some 30) else (if a1 = 6 then (some 30) else (if a1 = 9 then (some 30) else (if a1 = 11 then (some 30) else (some 31)))))
theorem spec_l3Days.mono_l : ∀ k, (∀ y0, LeO (spec_l3Days.j0 k y0) (spec_l3Days.j0 (k + 1) y0))
 | 0 => fun _ r h => by simp [spec_l3Days.j0] at h
 | k + 1 => by
  have ih0 := spec_l3Days.mono_l k
  ·
   intro y0;unfold spec_l3Days.j0
   repeat' first
   | (with_reducible exact ih0 _)
   | (with_reducible exact LeO.refl _)
   | (with_reducible exact LeO.none _)
   | (with_reducible refine LeO.ite ?_ ?_)
   | (with_reducible refine LeO.bind ?_ (fun _ => ?_))
   | exact ih0 _
   | exact LeO.none _
   | refine LeO.ite ?_ ?_
   | refine LeO.bind ?_ (fun _ => ?_)
theorem spec_l3Days.mono : ∀ a0 a1 k, LeO (spec_l3Days.f k a0 a1) (spec_l3Days.f (k + 1) a0 a1) := by
 intro a0 a1 k;have ih0 := spec_l3Days.mono_l k;unfold spec_l3Days.f
 repeat' first
   | (with_reducible exact ih0 _)
   | (with_reducible exact LeO.refl _)
   | (with_reducible exact LeO.none _)
   | (with_reducible refine LeO.ite ?_ ?_)
   | (with_reducible refine LeO.bind ?_ (fun _ => ?_))
   | exact ih0 _
   | exact LeO.none _
   | refine LeO.ite ?_ ?_
   | refine LeO.bind ?_ (fun _ => ?_)
set_option maxHeartbeats 8000000 in
set_option maxRecDepth 100000 in
theorem spec_l3Days.calls (k : Nat) (a0 : Int) (a1 : Int) (r : Int) (w : World) (h : spec_l3Days.f k a0 a1 = some r) :
  Calls Tryz.prog 46 #[.int .i64 a0, .int .i64 a1] w fun e w' => e = .returned (.int .i64 r) ∧ Drawn0 w w' := by
 have H : (if a1 = 2 then (if (Int.tmod a0 4) = 0 then (if (Int.tmod a0 100) = 0 then (spec_l3Days.j0 k ((Int.tmod a0 400) == 0)) else (spec_l3Days.j0 k true)) else (spec_l3Days.j0 k ((Int.tmod a0 400) == 0))) else (if a1 = 4 then (some 30) else (if a1 = 6 then (some 30) else (if a1 = 9 then (some 30) else (if a1 = 11 then (some 30) else (some 31)))))) = some r := h;clear h;by_cases c3 : a1 = 2
 ·
  rw [if_pos c3] at H;have c3b0 := qt c3;have c3b1 := bf c3;clear c3;have X1 := am H;clear H;go_enter Tryz.func46, Tryz.ntmps46
  go_upto_region 2 with (fail)
  go_cut [19] (fun v19 wc => ∃ (kq : Nat) (Fo : Bool), v19 = .bool Fo ∧ Aside0 (spec_l3Days.j0 kq Fo = some r) ∧ Aside0 (kq ≤ k) ∧ Drawn0 w wc)
  case first =>
   have H := X1.out;clear X1;by_cases c5 : (Int.tmod a0 4) = 0
   ·
    rw [if_pos c5] at H;have c5b0 := qt c5;have c5b1 := bf c5;clear c5
    (first | rw [c5b0] | (simp only [i64_w, i32_w]; rw [c5b0]) | skip)
    by_cases c6 : (Int.tmod a0 100) = 0
    ·
     rw [if_pos c6] at H;have c6b0 := qt c6;have c6b1 := bf c6;clear c6;have H' := am H;clear H;go_wp2;go_meet
     case rel => exact ⟨_, (((Int.tmod a0 400) == 0)), au107, H', ⟨by first | omega | exact Nat.le_refl _⟩, by repeat (first | exact Drawn0.refl _ | apply Drawn0.step)⟩
    ·
     rw [if_neg c6] at H;have c6b0 := qf c6;have c6b1 := bu c6;have H' := am H;clear H;go_wp2;go_meet
     case rel => exact ⟨_, (true), au107, H', ⟨by first | omega | exact Nat.le_refl _⟩, by repeat (first | exact Drawn0.refl _ | apply Drawn0.step)⟩
   ·
    rw [if_neg c5] at H;have c5b0 := qf c5;have c5b1 := bu c5
    (first | rw [c5b0] | (simp only [i64_w, i32_w]; rw [c5b0]) | skip)
    have H' := am H;clear H;go_wp2;go_meet
    case rel => exact ⟨_, (((Int.tmod a0 400) == 0)), au107, H', ⟨by first | omega | exact Nat.le_refl _⟩, by repeat (first | exact Drawn0.refl _ | apply Drawn0.step)⟩
  case rest =>
   clear X1
   try clear p2
   try clear c3
   try clear c3b0
   try clear c3b1
   try clear c4
   try clear c5
   try clear c5b0
   try clear c5b1
   try clear c6
   try clear c6b0
   try clear c6b1
   obtain ⟨kq, Fo, rfl, HA, HJ3, ⟨mc3, rfl⟩⟩ := hcut
   cases kq with
   | zero => exact absurd HA.out (by simp [spec_l3Days.j0])
   | succ kj3 =>
    have H := HA.out;clear HA;simp only [spec_l3Days.j0] at H;by_cases c7 : Fo = true
    · subst c7;replace H := (if_pos rfl).symm.trans H;obtain rfl := ojz H;go_wp2;go_ret;exact ax0
    · replace c7 := Bool.eq_false_iff.mpr c7;subst c7;replace H := (if_neg (show ¬ (false = true) by decide)).symm.trans H;obtain rfl := ojz H;go_wp2;go_ret;exact ax0
 ·
  rw [if_neg c3] at H;have c3b0 := qf c3;have c3b1 := bu c3;by_cases c8 : a1 = 4
  · rw [if_pos c8] at H;have c8b0 := qt c8;have c8b1 := bf c8;clear c8;obtain rfl := ojz H;go_enter Tryz.func46, Tryz.ntmps46;go_wp2;go_ret;exact ax0
  ·
   rw [if_neg c8] at H;have c8b0 := qf c8;have c8b1 := bu c8;by_cases c9 : a1 = 6
   · rw [if_pos c9] at H;have c9b0 := qt c9;have c9b1 := bf c9;clear c9;obtain rfl := ojz H;go_enter Tryz.func46, Tryz.ntmps46;go_wp2;go_ret;exact ax0
   ·
    rw [if_neg c9] at H;have c9b0 := qf c9;have c9b1 := bu c9;by_cases c10 : a1 = 9
    · rw [if_pos c10] at H;have c10b0 := qt c10;have c10b1 := bf c10;clear c10;obtain rfl := ojz H;go_enter Tryz.func46, Tryz.ntmps46;go_wp2;go_ret;exact ax0
    ·
     rw [if_neg c10] at H;have c10b0 := qf c10;have c10b1 := bu c10;by_cases bH : a1 = 11
     · rw [if_pos bH] at H;have c11b0 := qt bH;have c11b1 := bf bH;clear bH;obtain rfl := ojz H;go_enter Tryz.func46, Tryz.ntmps46;go_wp2;go_ret;exact ax0
     · rw [if_neg bH] at H;have c11b0 := qf bH;have c11b1 := bu bH;obtain rfl := ojz H;go_enter Tryz.func46, Tryz.ntmps46;go_wp2;go_ret;exact ax0
end Go.Proofs.YthfbogcpjfledaaGreatDoor.G

namespace Go.Proofs.YthfbogcpjfledaaGreatDoor.G
open Go.RowKit Go.Proofs.YthfbogcpjfledaaGreatDoorW.PrintWords Go.Proofs.YthfbogcpjfledaaGreatDoorW.PrintLast Go.Proofs.YthfbogcpjfledaaGreatDoorW.PrintMore
open Go.Proofs.YthfbogcpjfledaaGreatDoor.Gl Go.Proofs.YthfbogcpjfledaaGreatDoor.Ext
attribute [local go_sem] max2_int min2_int max_two min_two max_three min_three max_four min_four   -- for this text's walks alone
set_option linter.unusedVariables false
set_option linter.unusedSimpArgs false
attribute [local go_sem high] eqA32
def spec_l3Good.j0 : Nat → Bool → Int → Int → Int → Bool → Option (Bool)
 | 0, _, _, _, _, _ => none
 | k + 1, x7, SC, BB, BC, SD => if x7 = true then (some false) else (if SD = true then (if BB = 0 then (some (BC == 0)) else (some false)) else (if BB = 0 then (some (BC == 0)) else ((spec_l3Days.f k SC BB).bind fun uM => ((spec_l1In.f BC 0 uM).bind fun Gi => (some Gi)))))
def spec_l3Good.f (k : Nat) (ab : Int) (aa : Int) (aC : Int) (aA : Bool) : Option (Bool) := if (ab == 0 && (aa == 0 && (aC == 0 && (!aA)))) = true then (some true) else ((spec_l1In.f ab 1 2999).bind fun Gj => (if Gj = true then ((spec_l1In.f aa 0 12).bind fun uN => (spec_l3Good.j0 k (!uN) ab aa aC aA)) else (spec_l3Good.j0 k true ab aa aC aA)))
theorem spec_l3Good.mono_l : ∀ k, (∀ y0 y1 y2 y3 y4, LeO (spec_l3Good.j0 k y0 y1 y2 y3 y4) (spec_l3Good.j0 (k + 1) y0 y1 y2 y3 y4))
 | 0 => fun _ _ _ _ _ r h => by simp [spec_l3Good.j0] at h
 | k + 1 => by
  have ih0 := spec_l3Good.mono_l k
  ·
   intro y0 y1 y2 y3 y4;unfold spec_l3Good.j0
   repeat' first
   | (with_reducible exact ih0 _ _ _ _ _)
   | (with_reducible exact spec_l3Days.mono _ _ _)
   | (with_reducible exact LeO.refl _)
   | (with_reducible exact LeO.none _)
   | (with_reducible refine LeO.ite ?_ ?_)
   | (with_reducible refine LeO.bind ?_ (fun _ => ?_))
   | exact ih0 _ _ _ _ _
   | exact spec_l3Days.mono _ _ _
   | exact LeO.none _
   | refine LeO.ite ?_ ?_
   | refine LeO.bind ?_ (fun _ => ?_)
theorem spec_l3Good.mono : ∀ a0 a1 a2 a3 k, LeO (spec_l3Good.f k a0 a1 a2 a3) (spec_l3Good.f (k + 1) a0 a1 a2 a3) := by
 intro a0 a1 a2 a3 k;have ih0 := spec_l3Good.mono_l k;unfold spec_l3Good.f
 repeat' first
   | (with_reducible exact ih0 _ _ _ _ _)
   | (with_reducible exact spec_l3Days.mono _ _ _)
   | (with_reducible exact LeO.refl _)
   | (with_reducible exact LeO.none _)
   | (with_reducible refine LeO.ite ?_ ?_)
   | (with_reducible refine LeO.bind ?_ (fun _ => ?_))
   | exact ih0 _ _ _ _ _
   | exact spec_l3Days.mono _ _ _
   | exact LeO.none _
   | refine LeO.ite ?_ ?_
   | refine LeO.bind ?_ (fun _ => ?_)
set_option maxHeartbeats 8000000 in
set_option maxRecDepth 100000 in
theorem spec_l3Good.calls (k : Nat) (ab : Int) (aa : Int) (aC : Int) (aA : Bool) (r : Bool) (w : World) (h : spec_l3Good.f k ab aa aC aA = some r) :
  Calls Tryz.prog 30 #[.agg #[.int .i64 ab, .int .i64 aa, .int .i64 aC, .bool aA]] w fun e w' => e = .returned (.bool r) ∧ Below w.heap.size w w' := by
 have hu32 := Tryz.underlying32;have HB := am (Below.refl w.heap.size w);have H : (if (ab == 0 && (aa == 0 && (aC == 0 && (!aA)))) = true then (some true) else ((spec_l1In.f ab 1 2999).bind fun Gj => (if Gj = true then ((spec_l1In.f aa 0 12).bind fun uN => (spec_l3Good.j0 k (!uN) ab aa aC aA)) else (spec_l3Good.j0 k true ab aa aC aA)))) = some r := h;clear h;by_cases c2 : (ab == 0 && (aa == 0 && (aC == 0 && (!aA)))) = true
 ·
  rw [if_pos c2] at H;have c2b0 : (ab == 0 && (aa == 0 && (aC == 0 && (!aA)))) = true := c2
  (try (have c2b1 : decide (ab = 0 && (aa == 0 && (aC == 0 && (!aA)))) = true := by simpa using c2))
  (try (have c2b2 : (ab == 0 && (aa == 0 && (aC == 0 && (!aA)))) = true := by simpa using c2))
  clear c2;obtain rfl := ojz H;go_enter Tryz.func30, Tryz.ntmps30;go_wp2_with (first | ((with_reducible refine gate_dst (N := 1) rfl ?_); refine box_event ?hg (N := 1) ?hd (cs := #[.int .i64 ab, .int .i64 aa, .int .i64 aC, .bool aA]) (t := 32) ?hr ?_; (case hd => rfl); (case hg => rfl); (case hr => first | (go_simp; done) | (go_simp; rfl)); intro wk hg w3 hbox hb; have eA := am (hbox); have Av := am (bsz hg au51); have pY := am (bsz hg au51); replace HB := am (below_step au51 hb); clear hb hbox hg; obtain ⟨fU, fV, fW, fX, fY, fZ, ga, ge⟩ := blkc4 eA.out))
  repeat (go_quiet (first | ((with_reducible refine gate_dst (N := 1) rfl ?_); refine box_event ?hg (N := 1) ?hd (cs := #[.int .i64 ab, .int .i64 aa, .int .i64 aC, .bool aA]) (t := 32) ?hr ?_; (case hd => rfl); (case hg => rfl); (case hr => first | (go_simp; done) | (go_simp; rfl)); intro wk hg w3 hbox hb; have eA := am (hbox); have Av := am (bsz hg au51); have pY := am (bsz hg au51); replace HB := am (below_step au51 hb); clear hb hbox hg; obtain ⟨fU, fV, fW, fX, fY, fZ, ga, ge⟩ := blkc4 eA.out)); try go_wp2_with (first | ((with_reducible refine gate_dst (N := 1) rfl ?_); refine box_event ?hg (N := 1) ?hd (cs := #[.int .i64 ab, .int .i64 aa, .int .i64 aC, .bool aA]) (t := 32) ?hr ?_; (case hd => rfl); (case hg => rfl); (case hr => first | (go_simp; done) | (go_simp; rfl)); intro wk hg w3 hbox hb; have eA := am (hbox); have Av := am (bsz hg au51); have pY := am (bsz hg au51); replace HB := am (below_step au51 hb); clear hb hbox hg; obtain ⟨fU, fV, fW, fX, fY, fZ, ga, ge⟩ := blkc4 eA.out)))
  go_ret;exact ax5
 ·
  rw [if_neg c2] at H
  have c2b0 : (ab == 0 && (aa == 0 && (aC == 0 && (!aA)))) = false := by simpa using c2
  (try (have c2b1 : decide (ab = 0 && (aa == 0 && (aC == 0 && (!aA)))) = false := by simpa using c2))
  (try (have c2b2 : (ab == 0 && (aa == 0 && (aC == 0 && (!aA)))) = false := by simpa using c2))
  (try (have c2b3 : ¬ (ab = 0 && (aa == 0 && (aC == 0 && (!aA)))) := by simpa using c2))
  clear c2;have Gk := am H;clear H;go_enter Tryz.func30, Tryz.ntmps30
  go_upto_region 3 with (first | ((with_reducible refine gate_dst (N := 1) rfl ?_); refine box_event ?hg (N := 1) ?hd (cs := #[.int .i64 ab, .int .i64 aa, .int .i64 aC, .bool aA]) (t := 32) ?hr ?_; (case hd => rfl); (case hg => rfl); (case hr => first | (go_simp; done) | (go_simp; rfl)); intro wk hg w6 hbox hb; have eA := am (hbox); have Av := am (bsz hg au51); have pY := am (bsz hg au51); replace HB := am (below_step au51 hb); clear hb hbox hg; obtain ⟨jl, jm, jn, jo, jp, jq, jr, js⟩ := blkc4 eA.out))
  repeat (go_quiet (first | ((with_reducible refine gate_dst (N := 1) rfl ?_); refine box_event ?hg (N := 1) ?hd (cs := #[.int .i64 ab, .int .i64 aa, .int .i64 aC, .bool aA]) (t := 32) ?hr ?_; (case hd => rfl); (case hg => rfl); (case hr => first | (go_simp; done) | (go_simp; rfl)); intro wk hg w6 hbox hb; have eA := am (hbox); have Av := am (bsz hg au51); have pY := am (bsz hg au51); replace HB := am (below_step au51 hb); clear hb hbox hg; obtain ⟨jl, jm, jn, jo, jp, jq, jr, js⟩ := blkc4 eA.out)); go_upto_region 3 with (first | ((with_reducible refine gate_dst (N := 1) rfl ?_); refine box_event ?hg (N := 1) ?hd (cs := #[.int .i64 ab, .int .i64 aa, .int .i64 aC, .bool aA]) (t := 32) ?hr ?_; (case hd => rfl); (case hg => rfl); (case hr => first | (go_simp; done) | (go_simp; rfl)); intro wk hg w6 hbox hb; have eA := am (hbox); have Av := am (bsz hg au51); have pY := am (bsz hg au51); replace HB := am (below_step au51 hb); clear hb hbox hg; obtain ⟨jl, jm, jn, jo, jp, jq, jr, js⟩ := blkc4 eA.out)))
  (try simp only [Act.put, List.setIfInBounds_toArray, List.set_cons_zero, List.set_cons_succ])
  go_cut [7] (fun v7 wc => ∃ (kq : Nat) (Mn : Bool), v7 = .bool Mn ∧ Aside0 (spec_l3Good.j0 kq Mn ab aa aC aA = some r) ∧ Aside0 (kq ≤ k) ∧ Aside0 (wc.heap[wk]? = some (.cells #[.int .i64 ab, .int .i64 aa, .int .i64 aC, .bool aA] 32 (0, 0))) ∧ Aside0 (Below w.heap.size w wc))
  case first =>
   have H := Gk.out;clear Gk;replace H := ob H;obtain ⟨Gj, jT, H⟩ := H
   try dsimp only at H
   have A8 := am jT;clear jT;by_cases c9 : Gj = true
   ·
    subst c9;replace H := (if_pos rfl).symm.trans H;replace H := ob H;obtain ⟨uN, er, H⟩ := H
    try dsimp only at H
    have gB := am er;clear er;have H' := am H;clear H;obtain ⟨fi, fj, fk, fl, fm, fo, fp, fq⟩ := blkc4 eA.out;go_wp2_with (first | (go_at_call 27; (with_reducible refine (spec_l1In.calls ab 1 2999 true _ A8.out).mono ?_); rintro e w' ⟨rfl, ⟨nd, rfl⟩⟩; (try first | exact ⟨rfl, _, World.drewN_drewN _ _ _⟩ | exact ⟨rfl, _, Eq.trans (World.drewN_drewN _ _ _) (congrArg (World.drewN _) (Nat.add_assoc _ _ _))⟩)) | (go_at_call 27; (with_reducible refine (spec_l1In.calls aa 0 12 uN _ gB.out).mono ?_); rintro e w' ⟨rfl, ⟨nd, rfl⟩⟩; (try first | exact ⟨rfl, _, World.drewN_drewN _ _ _⟩ | exact ⟨rfl, _, Eq.trans (World.drewN_drewN _ _ _) (congrArg (World.drewN _) (Nat.add_assoc _ _ _))⟩)))
    repeat (go_quiet (first | (go_at_call 27; (with_reducible refine (spec_l1In.calls ab 1 2999 true _ A8.out).mono ?_); rintro e w' ⟨rfl, ⟨nd, rfl⟩⟩; (try first | exact ⟨rfl, _, World.drewN_drewN _ _ _⟩ | exact ⟨rfl, _, Eq.trans (World.drewN_drewN _ _ _) (congrArg (World.drewN _) (Nat.add_assoc _ _ _))⟩)) | (go_at_call 27; (with_reducible refine (spec_l1In.calls aa 0 12 uN _ gB.out).mono ?_); rintro e w' ⟨rfl, ⟨nd, rfl⟩⟩; (try first | exact ⟨rfl, _, World.drewN_drewN _ _ _⟩ | exact ⟨rfl, _, Eq.trans (World.drewN_drewN _ _ _) (congrArg (World.drewN _) (Nat.add_assoc _ _ _))⟩))); try go_wp2_with (first | (go_at_call 27; (with_reducible refine (spec_l1In.calls ab 1 2999 true _ A8.out).mono ?_); rintro e w' ⟨rfl, ⟨nd, rfl⟩⟩; (try first | exact ⟨rfl, _, World.drewN_drewN _ _ _⟩ | exact ⟨rfl, _, Eq.trans (World.drewN_drewN _ _ _) (congrArg (World.drewN _) (Nat.add_assoc _ _ _))⟩)) | (go_at_call 27; (with_reducible refine (spec_l1In.calls aa 0 12 uN _ gB.out).mono ?_); rintro e w' ⟨rfl, ⟨nd, rfl⟩⟩; (try first | exact ⟨rfl, _, World.drewN_drewN _ _ _⟩ | exact ⟨rfl, _, Eq.trans (World.drewN_drewN _ _ _) (congrArg (World.drewN _) (Nat.add_assoc _ _ _))⟩))))
    go_meet
    case rel => exact ⟨_, (!uN), au107, H', ⟨by first | omega | exact Nat.le_refl _⟩, ⟨by (with_reducible repeat (first | refine blk_drewN ?_ _ | refine blk_drew ?_ | refine blk_alloc ?_ _)); exact eA.out⟩, ⟨by repeat (first | (with_reducible first | exact HB.out | apply below_alloc | apply pw_below_drewN | apply below_drew1 | refine below_set ?_ pY.out) | exact HB.out)⟩⟩
   ·
    replace c9 := Bool.eq_false_iff.mpr c9;subst c9;replace H := (if_neg (show ¬ (false = true) by decide)).symm.trans H;have H' := am H;clear H;obtain ⟨gQ, gR, gS, gT, gU, gV, gW, gX⟩ := blkc4 eA.out;go_wp2_with (first | (go_at_call 27; (with_reducible refine (spec_l1In.calls ab 1 2999 false _ A8.out).mono ?_); rintro e w' ⟨rfl, ⟨nd, rfl⟩⟩; (try first | exact ⟨rfl, _, World.drewN_drewN _ _ _⟩ | exact ⟨rfl, _, Eq.trans (World.drewN_drewN _ _ _) (congrArg (World.drewN _) (Nat.add_assoc _ _ _))⟩)))
    repeat (go_quiet (first | (go_at_call 27; (with_reducible refine (spec_l1In.calls ab 1 2999 false _ A8.out).mono ?_); rintro e w' ⟨rfl, ⟨nd, rfl⟩⟩; (try first | exact ⟨rfl, _, World.drewN_drewN _ _ _⟩ | exact ⟨rfl, _, Eq.trans (World.drewN_drewN _ _ _) (congrArg (World.drewN _) (Nat.add_assoc _ _ _))⟩))); try go_wp2_with (first | (go_at_call 27; (with_reducible refine (spec_l1In.calls ab 1 2999 false _ A8.out).mono ?_); rintro e w' ⟨rfl, ⟨nd, rfl⟩⟩; (try first | exact ⟨rfl, _, World.drewN_drewN _ _ _⟩ | exact ⟨rfl, _, Eq.trans (World.drewN_drewN _ _ _) (congrArg (World.drewN _) (Nat.add_assoc _ _ _))⟩))))
    go_meet
    case rel => exact ⟨_, (true), au107, H', ⟨by first | omega | exact Nat.le_refl _⟩, ⟨by (with_reducible repeat (first | refine blk_drewN ?_ _ | refine blk_drew ?_ | refine blk_alloc ?_ _)); exact eA.out⟩, ⟨by repeat (first | (with_reducible first | exact HB.out | apply below_alloc | apply pw_below_drewN | apply below_drew1 | refine below_set ?_ pY.out) | exact HB.out)⟩⟩
  case rest =>
   clear Gk
   try clear c2
   try clear c2b0
   try clear c2b1
   try clear c2b2
   try clear p2
   try clear c3
   try clear c9
   try clear fi fj fk fl fm fo fp fq
   try clear gQ gR gS gT gU gV gW gX
   try clear fU fV fW fX fY fZ ga ge
   try clear jl jm jn jo jp jq jr js
   obtain ⟨kq, Mn, rfl, HA, HJ4, eA, HB⟩ := hcut
   cases kq with
   | zero => exact absurd HA.out (by simp [spec_l3Good.j0])
   | succ RD =>
    have H := HA.out;clear HA;simp only [spec_l3Good.j0] at H;by_cases bW : Mn = true
    ·
     subst bW;replace H := (if_pos rfl).symm.trans H;obtain rfl := ojz H;go_wp2
     repeat (go_quiet (fail); try go_wp2)
     go_ret;exact ax5
    ·
     replace bW := Bool.eq_false_iff.mpr bW;subst bW;replace H := (if_neg (show ¬ (false = true) by decide)).symm.trans H;by_cases cO : aA = true
     ·
      subst cO;replace H := (if_pos rfl).symm.trans H;by_cases bV : aa = 0
      ·
       rw [if_pos bV] at H;have c15b0 := qt bV;have c15b1 := bf bV;clear bV;obtain rfl := ojz H;obtain ⟨lH, lI, lJ, lK, lL, lM, lN, lO⟩ := blkc4 eA.out;go_wp2
       repeat (go_quiet (fail); try go_wp2)
       go_ret;exact ax5
      ·
       rw [if_neg bV] at H;have c15b0 := qf bV;have c15b1 := bu bV;obtain rfl := ojz H;obtain ⟨ft, fu, fv, fw, fx, fy, fz, fA⟩ := blkc4 eA.out;go_wp2
       repeat (go_quiet (fail); try go_wp2)
       go_ret;exact ax5
     ·
      replace cO := Bool.eq_false_iff.mpr cO;subst cO;replace H := (if_neg (show ¬ (false = true) by decide)).symm.trans H;by_cases eC : aa = 0
      ·
       rw [if_pos eC] at H;have c18b0 := qt eC;have c18b1 := bf eC;clear eC;obtain rfl := ojz H;obtain ⟨rq, rr, rt, ru, rv, rx, ry, rz⟩ := blkc4 eA.out;go_wp2
       repeat (go_quiet (fail); try go_wp2)
       go_ret;exact ax5
      ·
       rw [if_neg eC] at H;have c18b0 := qf eC;have c18b1 := bu eC;replace H := ob H;obtain ⟨uM, pi, H⟩ := H
       try dsimp only at H
       have dP := am pi;clear pi;replace H := ob H;obtain ⟨Gi, kU, H⟩ := H
       try dsimp only at H
       have qQ := am kU;clear kU;obtain rfl := ojz H;obtain ⟨jJ, jK, jL, jM, jN, jO, jP, jQ⟩ := blkc4 eA.out;go_wp2_with (first | (go_at_call 46; (with_reducible refine (spec_l3Days.calls RD ab aa uM _ dP.out).mono ?_); rintro e w' ⟨rfl, ⟨nd, rfl⟩⟩; (try first | exact ⟨rfl, _, World.drewN_drewN _ _ _⟩ | exact ⟨rfl, _, Eq.trans (World.drewN_drewN _ _ _) (congrArg (World.drewN _) (Nat.add_assoc _ _ _))⟩)) | (go_at_call 27; (with_reducible refine (spec_l1In.calls aC 0 uM Gi _ qQ.out).mono ?_); rintro e w' ⟨rfl, ⟨nd, rfl⟩⟩; (try first | exact ⟨rfl, _, World.drewN_drewN _ _ _⟩ | exact ⟨rfl, _, Eq.trans (World.drewN_drewN _ _ _) (congrArg (World.drewN _) (Nat.add_assoc _ _ _))⟩)))
       repeat (go_quiet (first | (go_at_call 46; (with_reducible refine (spec_l3Days.calls RD ab aa uM _ dP.out).mono ?_); rintro e w' ⟨rfl, ⟨nd, rfl⟩⟩; (try first | exact ⟨rfl, _, World.drewN_drewN _ _ _⟩ | exact ⟨rfl, _, Eq.trans (World.drewN_drewN _ _ _) (congrArg (World.drewN _) (Nat.add_assoc _ _ _))⟩)) | (go_at_call 27; (with_reducible refine (spec_l1In.calls aC 0 uM Gi _ qQ.out).mono ?_); rintro e w' ⟨rfl, ⟨nd, rfl⟩⟩; (try first | exact ⟨rfl, _, World.drewN_drewN _ _ _⟩ | exact ⟨rfl, _, Eq.trans (World.drewN_drewN _ _ _) (congrArg (World.drewN _) (Nat.add_assoc _ _ _))⟩))); try go_wp2_with (first | (go_at_call 46; (with_reducible refine (spec_l3Days.calls RD ab aa uM _ dP.out).mono ?_); rintro e w' ⟨rfl, ⟨nd, rfl⟩⟩; (try first | exact ⟨rfl, _, World.drewN_drewN _ _ _⟩ | exact ⟨rfl, _, Eq.trans (World.drewN_drewN _ _ _) (congrArg (World.drewN _) (Nat.add_assoc _ _ _))⟩)) | (go_at_call 27; (with_reducible refine (spec_l1In.calls aC 0 uM Gi _ qQ.out).mono ?_); rintro e w' ⟨rfl, ⟨nd, rfl⟩⟩; (try first | exact ⟨rfl, _, World.drewN_drewN _ _ _⟩ | exact ⟨rfl, _, Eq.trans (World.drewN_drewN _ _ _) (congrArg (World.drewN _) (Nat.add_assoc _ _ _))⟩))))
       go_ret;exact ax5
end Go.Proofs.YthfbogcpjfledaaGreatDoor.G

namespace Go.Proofs.YthfbogcpjfledaaGreatDoor.G
open Go.RowKit Go.Proofs.YthfbogcpjfledaaGreatDoorW.PrintWords Go.Proofs.YthfbogcpjfledaaGreatDoorW.PrintLast Go.Proofs.YthfbogcpjfledaaGreatDoorW.PrintMore
open Go.Proofs.YthfbogcpjfledaaGreatDoor.Gl Go.Proofs.YthfbogcpjfledaaGreatDoor.Ext
attribute [local go_sem] max2_int min2_int max_two min_two max_three min_three max_four min_four   -- for this text's walks alone
set_option linter.unusedVariables false
set_option linter.unusedSimpArgs false
mutual
def spec_l4Entry.j0 : Nat → Bool → ByteArray → Int → List (S62) → List (S62) → ByteArray → ByteArray → ByteArray → Int → Int → Int → Bool → Int → ByteArray → ByteArray → Option (Bool)
 | 0, _, _, _, _, _, _, _, _, _, _, _, _, _, _, _ => none
 | k + 1, X2, nB, rA, rB, rC, nC, nD, nE, nF, nG, nH, nI, nJ, nK, jU => if X2 = true then (some false) else ((spec_l4Text.f k nC).bind fun P0 => (if P0 = true then ((spec_l4Text.f k nD).bind fun P1 => (if P1 = true then ((spec_l4Text.f k nE).bind fun P2 => (if P2 = true then ((spec_l4Text.f k nK).bind fun Mo => (spec_l4Entry.j1 k (!Mo) nB rA rB rC nC nD nE nF nG nH nI nJ nK jU)) else (spec_l4Entry.j1 k true nB rA rB rC nC nD nE nF nG nH nI nJ nK jU))) else (spec_l4Entry.j1 k true nB rA rB rC nC nD nE nF nG nH nI nJ nK jU))) else (spec_l4Entry.j1 k true nB rA rB rC nC nD nE nF nG nH nI nJ nK jU)))
def spec_l4Entry.j1 : Nat → Bool → ByteArray → Int → List (S62) → List (S62) → ByteArray → ByteArray → ByteArray → Int → Int → Int → Bool → Int → ByteArray → ByteArray → Option (Bool)
 | 0, _, _, _, _, _, _, _, _, _, _, _, _, _, _, _ => none
 | k + 1, x46, nB, rA, rB, rC, nC, nD, nE, nF, nG, nH, nI, nJ, nK, jU => if x46 = true then (some false) else ((spec_l3Good.f k nF nG nH nI).bind fun P3 => (if P3 = true then ((spec_l1In.f nJ 0 9999).bind fun P4 => (if P4 = true then (if jU.toList = ([] : List UInt8) then (some true) else ((spec_l4Key.f k jU).bind fun t164 => (if t164 = true then (some (jU.toList != nB.toList)) else (some false)))) else (some false))) else (some false)))
end
def spec_l4Entry.f (k : Nat) (ab : ByteArray) (aa : Int) (ai : List (S62)) (aj : List (S62)) (ak : ByteArray) (an : ByteArray) (ap : ByteArray) (ar : Int) (av : Int) (aw : Int) (af : Bool) (ac : Int) (ae : ByteArray) (ag : ByteArray) : Option (Bool) := (spec_l4Key.f k ab).bind fun Gm => (if Gm = true then ((spec_l1In.f aa 1 4).bind fun Gn => (if Gn = true then ((spec_l2List.f k ai).bind fun Gp => (if Gp = true then ((spec_l2List.f k aj).bind fun BD => (spec_l4Entry.j0 k (!BD) ab aa ai aj ak an ap ar av aw af ac ae ag)) else (spec_l4Entry.j0 k true ab aa ai aj ak an ap ar av aw af ac ae ag))) else (spec_l4Entry.j0 k true ab aa ai aj ak an ap ar av aw af ac ae ag))) else (spec_l4Entry.j0 k true ab aa ai aj ak an ap ar av aw af ac ae ag))
theorem spec_l4Entry.mono_l : ∀ k, (∀ y0 y1 y2 y3 y4 y5 y6 y7 y8 y9 dZ e7 e8 e9 ea, LeO (spec_l4Entry.j0 k y0 y1 y2 y3 y4 y5 y6 y7 y8 y9 dZ e7 e8 e9 ea) (spec_l4Entry.j0 (k + 1) y0 y1 y2 y3 y4 y5 y6 y7 y8 y9 dZ e7 e8 e9 ea)) ∧ (∀ y0 y1 y2 y3 y4 y5 y6 y7 y8 y9 dZ e7 e8 e9 ea, LeO (spec_l4Entry.j1 k y0 y1 y2 y3 y4 y5 y6 y7 y8 y9 dZ e7 e8 e9 ea) (spec_l4Entry.j1 (k + 1) y0 y1 y2 y3 y4 y5 y6 y7 y8 y9 dZ e7 e8 e9 ea))
 | 0 => ⟨fun _ _ _ _ _ _ _ _ _ _ _ _ _ _ _ r h => by simp [spec_l4Entry.j0] at h, fun _ _ _ _ _ _ _ _ _ _ _ _ _ _ _ r h => by simp [spec_l4Entry.j1] at h⟩
 | k + 1 => by
  obtain ⟨ih0, ih1⟩ := spec_l4Entry.mono_l k;refine ⟨?_, ?_⟩
  ·
   intro y0 y1 y2 y3 y4 y5 y6 y7 y8 y9 dZ e7 e8 e9 ea;unfold spec_l4Entry.j0
   repeat' first
   | (with_reducible exact ih0 _ _ _ _ _ _ _ _ _ _ _ _ _ _ _)
   | (with_reducible exact ih1 _ _ _ _ _ _ _ _ _ _ _ _ _ _ _)
   | (with_reducible exact spec_l2List.mono _ _)
   | (with_reducible exact spec_l3Good.mono _ _ _ _ _)
   | (with_reducible exact spec_l4Key.mono _ _)
   | (with_reducible exact spec_l4Text.mono _ _)
   | (with_reducible exact LeO.refl _)
   | (with_reducible exact LeO.none _)
   | (with_reducible refine LeO.ite ?_ ?_)
   | (with_reducible refine LeO.bind ?_ (fun _ => ?_))
   | exact ih0 _ _ _ _ _ _ _ _ _ _ _ _ _ _ _
   | exact ih1 _ _ _ _ _ _ _ _ _ _ _ _ _ _ _
   | exact spec_l2List.mono _ _
   | exact spec_l3Good.mono _ _ _ _ _
   | exact spec_l4Key.mono _ _
   | exact spec_l4Text.mono _ _
   | exact LeO.none _
   | refine LeO.ite ?_ ?_
   | refine LeO.bind ?_ (fun _ => ?_)
  ·
   intro y0 y1 y2 y3 y4 y5 y6 y7 y8 y9 dZ e7 e8 e9 ea;unfold spec_l4Entry.j1
   repeat' first
   | (with_reducible exact ih0 _ _ _ _ _ _ _ _ _ _ _ _ _ _ _)
   | (with_reducible exact ih1 _ _ _ _ _ _ _ _ _ _ _ _ _ _ _)
   | (with_reducible exact spec_l2List.mono _ _)
   | (with_reducible exact spec_l3Good.mono _ _ _ _ _)
   | (with_reducible exact spec_l4Key.mono _ _)
   | (with_reducible exact spec_l4Text.mono _ _)
   | (with_reducible exact LeO.refl _)
   | (with_reducible exact LeO.none _)
   | (with_reducible refine LeO.ite ?_ ?_)
   | (with_reducible refine LeO.bind ?_ (fun _ => ?_))
   | exact ih0 _ _ _ _ _ _ _ _ _ _ _ _ _ _ _
   | exact ih1 _ _ _ _ _ _ _ _ _ _ _ _ _ _ _
   | exact spec_l2List.mono _ _
   | exact spec_l3Good.mono _ _ _ _ _
   | exact spec_l4Key.mono _ _
   | exact spec_l4Text.mono _ _
   | exact LeO.none _
   | refine LeO.ite ?_ ?_
   | refine LeO.bind ?_ (fun _ => ?_)
theorem spec_l4Entry.mono : ∀ a0 a1 a2 a3 a4 a5 a6 a7 a8 a9 cP cQ cR cS k, LeO (spec_l4Entry.f k a0 a1 a2 a3 a4 a5 a6 a7 a8 a9 cP cQ cR cS) (spec_l4Entry.f (k + 1) a0 a1 a2 a3 a4 a5 a6 a7 a8 a9 cP cQ cR cS) := by
 intro a0 a1 a2 a3 a4 a5 a6 a7 a8 a9 cP cQ cR cS k;obtain ⟨ih0, ih1⟩ := spec_l4Entry.mono_l k;unfold spec_l4Entry.f
 repeat' first
   | (with_reducible exact ih0 _ _ _ _ _ _ _ _ _ _ _ _ _ _ _)
   | (with_reducible exact ih1 _ _ _ _ _ _ _ _ _ _ _ _ _ _ _)
   | (with_reducible exact spec_l2List.mono _ _)
   | (with_reducible exact spec_l3Good.mono _ _ _ _ _)
   | (with_reducible exact spec_l4Key.mono _ _)
   | (with_reducible exact spec_l4Text.mono _ _)
   | (with_reducible exact LeO.refl _)
   | (with_reducible exact LeO.none _)
   | (with_reducible refine LeO.ite ?_ ?_)
   | (with_reducible refine LeO.bind ?_ (fun _ => ?_))
   | exact ih0 _ _ _ _ _ _ _ _ _ _ _ _ _ _ _
   | exact ih1 _ _ _ _ _ _ _ _ _ _ _ _ _ _ _
   | exact spec_l2List.mono _ _
   | exact spec_l3Good.mono _ _ _ _ _
   | exact spec_l4Key.mono _ _
   | exact spec_l4Text.mono _ _
   | exact LeO.none _
   | refine LeO.ite ?_ ?_
   | refine LeO.bind ?_ (fun _ => ?_)
set_option maxRecDepth 100000 in
theorem spec_l4Entry.L0 {P : Prop} (h : P := by
  go_wp2_with (first | ((with_reducible refine gate_callee (f := 26) rfl ?_); refine goesL_ (some 5) rfl rfl Tryz.func26 (by kernel_rfl) rfl #[.string ab] rfl au50 ?_; (with_reducible refine (spec_l4Key.calls k ab _ _ A4.out).mono ?_); rintro e w' ⟨rfl, ⟨nd, rfl⟩⟩; refine ⟨_, rfl, ?_⟩) | (go_at_call 27; (with_reducible refine (spec_l1In.calls aa 1 4 _ _ A6.out).mono ?_); rintro e w' ⟨rfl, ⟨nd, rfl⟩⟩) | (go_at_call 28; (with_reducible refine (spec_l2List.calls k _ _ ai _ _ ?ax ?ay A8.out).mono ?_); (case ax => repeat (first | exact (Kd.C_below ck.out au29) | (with_reducible refine Kd.C_alloc ?_ _) | (with_reducible refine Kd.C_drewN ?_ _) | (with_reducible refine Kd.C_drew ?_))); (case ay => exact cn.out); rintro e Aw ⟨rfl, hb⟩; replace dz := am (blk_below (g := tJ) au55 hb); replace HB := am (below_step au29 hb); (try clear hb); obtain ⟨lX, lY, lZ, m0, BE, BF, BG, BH, BI, BJ, yi, yj, yk, yl, m4, m5, m6, m7, BK, BL, BM, BN, BO, BP, yn, yo, yp, yq⟩ := blkc14 dz.out) | (go_at_call 28; (with_reducible refine (spec_l2List.calls k _ _ aj BD _ ?ax ?ay gB.out).mono ?_); (case ax => repeat (first | exact (Kd.C_below cz.out HB.out) | (with_reducible refine Kd.C_alloc ?_ _) | (with_reducible refine Kd.C_drewN ?_ _) | (with_reducible refine Kd.C_drew ?_))); (case ay => exact cA.out); rintro e X3 ⟨rfl, hb⟩; replace dz := am (blk_below (g := tJ) au55 hb); replace HB := am (below_step au29 hb); (try clear hb)));go_meet
  case rel => first | (exact ⟨_, (!BD), au107, H', ⟨by first | omega | exact Nat.le_refl _⟩, ⟨by (with_reducible repeat (first | refine blk_drewN ?_ _ | refine blk_drew ?_ | refine blk_alloc ?_ _)); exact dz.out⟩, ⟨by repeat (first | (with_reducible first | exact HB.out | apply below_alloc | apply pw_below_drewN | apply below_drew1 | refine below_set ?_ pX.out) | exact HB.out)⟩⟩) | (exact ⟨_, (true), au107, H', ⟨by first | omega | exact Nat.le_refl _⟩, ⟨by (with_reducible repeat (first | refine blk_drewN ?_ _ | refine blk_drew ?_ | refine blk_alloc ?_ _)); exact dz.out⟩, ⟨by repeat (first | (with_reducible first | exact HB.out | apply below_alloc | apply pw_below_drewN | apply below_drew1 | refine below_set ?_ pX.out) | exact HB.out)⟩⟩)) : P := h
set_option maxRecDepth 100000 in
theorem spec_l4Entry.L1 {P : Prop} (h : P := by
  go_wp2_with (first | ((with_reducible refine gate_callee (f := 30) rfl ?_); refine goesL_ (some 49) rfl rfl Tryz.func30 (by kernel_rfl) rfl #[.agg #[.int .i64 ar, .int .i64 av, .int .i64 aw, .bool af]] rfl au50 ?_; (with_reducible refine (spec_l3Good.calls Mp ar av aw af _ _ A33.out).mono ?_); rintro e w44 ⟨rfl, hb⟩; refine ⟨_, rfl, ?_⟩; replace dz := am (blk_below (g := tJ) au55 hb); replace HB := am (below_step au29 hb); (try clear hb); obtain ⟨aaR, aaS, aaT, aaU, aaV, aaW, aaX, aaY, aaZ, ab0, a3j, a3k, a3l, a3m, ab1, ab2, ab3, ab4, ab5, ab6, ab7, ab8, ab9, aba, a3n, a3o, a3p, a3q⟩ := blkc14 dz.out) | (go_at_call 27; (with_reducible refine (spec_l1In.calls ac 0 9999 _ _ A35.out).mono ?_); rintro e w' ⟨rfl, ⟨nd, rfl⟩⟩) | (go_at_call 26; (with_reducible refine (spec_l4Key.calls Mp ag _ _ O0.out).mono ?_); rintro e w' ⟨rfl, ⟨nd, rfl⟩⟩));go_ret
  exact ⟨by first | rfl | (simp [errW_none, errW_some] <;> rfl) | (simp [*, errW_none, errW_some] <;> rfl), by repeat (first | (with_reducible first | exact HB.out | apply below_alloc | apply pw_below_drewN | apply below_drew1 | refine below_set ?_ pX.out) | exact HB.out)⟩) : P := h
set_option maxRecDepth 100000 in
theorem spec_l4Entry.L2 {P : Prop} (h : P := by
  go_wp2_with (first | ((with_reducible refine gate_callee (f := 29) rfl ?_); refine goesL_ (some 27) rfl rfl Tryz.func29 (by kernel_rfl) rfl #[.string ak] rfl au50 ?_; (with_reducible refine (spec_l4Text.calls dT ak _ _ qQ.out).mono ?_); rintro e w' ⟨rfl, ⟨nd, rfl⟩⟩; refine ⟨_, rfl, ?_⟩) | (go_at_call 29; (with_reducible refine (spec_l4Text.calls dT an _ _ X4.out).mono ?_); rintro e w' ⟨rfl, ⟨nd, rfl⟩⟩) | (go_at_call 29; (with_reducible refine (spec_l4Text.calls dT ap _ _ RE.out).mono ?_); rintro e w' ⟨rfl, ⟨nd, rfl⟩⟩) | (go_at_call 29; (with_reducible refine (spec_l4Text.calls dT ae Mo _ WZ.out).mono ?_); rintro e w' ⟨rfl, ⟨nd, rfl⟩⟩));go_meet
  case rel => first | (exact ⟨_, (!Mo), au107, H', ⟨by have := eW.out; first | omega | exact Nat.le_refl _⟩, ⟨by (with_reducible repeat (first | refine blk_drewN ?_ _ | refine blk_drew ?_ | refine blk_alloc ?_ _)); exact dz.out⟩, ⟨by repeat (first | (with_reducible first | exact HB.out | apply below_alloc | apply pw_below_drewN | apply below_drew1 | refine below_set ?_ pX.out) | exact HB.out)⟩⟩) | (exact ⟨_, (true), au107, H', ⟨by have := eW.out; first | omega | exact Nat.le_refl _⟩, ⟨by (with_reducible repeat (first | refine blk_drewN ?_ _ | refine blk_drew ?_ | refine blk_alloc ?_ _)); exact dz.out⟩, ⟨by repeat (first | (with_reducible first | exact HB.out | apply below_alloc | apply pw_below_drewN | apply below_drew1 | refine below_set ?_ pX.out) | exact HB.out)⟩⟩)) : P := h
set_option maxHeartbeats 8000000 in
set_option maxRecDepth 100000 in
theorem spec_l4Entry.calls (k : Nat) (ab : ByteArray) (aa : Int) (bj : Option Addr) (bl : Nat) (ai : List (S62)) (bm : Option Addr) (bn : Nat) (aj : List (S62)) (ak : ByteArray) (an : ByteArray) (ap : ByteArray) (ar : Int) (av : Int) (aw : Int) (af : Bool) (ac : Int) (ae : ByteArray) (ag : ByteArray) (r : Bool) (w : World) (cV : Kd.C k62 w bj ai.length ai) (cL : ai.length ≤ bl) (cW : Kd.C k62 w bm aj.length aj) (cM : aj.length ≤ bn) (h : spec_l4Entry.f k ab aa ai aj ak an ap ar av aw af ac ae ag = some r) :
  Calls Tryz.prog 14 #[.agg #[.string ab, .int .i64 aa, .slice bj ai.length bl, .slice bm aj.length bn, .string ak, .string an, .string ap, .int .i64 ar, .int .i64 av, .int .i64 aw, .bool af, .int .i64 ac, .string ae, .string ag]] w fun e w' => e = .returned (.bool r) ∧ Below w.heap.size w w' := by
 have hu34 := Tryz.underlying34;have hu32 := Tryz.underlying32;have ck := am cV;have cn := am cL;clear cV cL;have cz := am cW;have cA := am cM;clear cW cM;have HB := am (Below.refl w.heap.size w);have H : ((spec_l4Key.f k ab).bind fun Gm => (if Gm = true then ((spec_l1In.f aa 1 4).bind fun Gn => (if Gn = true then ((spec_l2List.f k ai).bind fun Gp => (if Gp = true then ((spec_l2List.f k aj).bind fun BD => (spec_l4Entry.j0 k (!BD) ab aa ai aj ak an ap ar av aw af ac ae ag)) else (spec_l4Entry.j0 k true ab aa ai aj ak an ap ar av aw af ac ae ag))) else (spec_l4Entry.j0 k true ab aa ai aj ak an ap ar av aw af ac ae ag))) else (spec_l4Entry.j0 k true ab aa ai aj ak an ap ar av aw af ac ae ag))) = some r := h;clear h;have eV := am H;clear H;go_enter Tryz.func14, Tryz.ntmps14
 go_upto_region 1 with (first | ((with_reducible refine gate_dst (N := 1) rfl ?_); refine box_event ?hg (N := 1) ?hd (cs := #[.string ab, .int .i64 aa, .slice bj ai.length bl, .slice bm aj.length bn, .string ak, .string an, .string ap, .int .i64 ar, .int .i64 av, .int .i64 aw, .bool af, .int .i64 ac, .string ae, .string ag]) (t := 34) ?hr ?_; (case hd => rfl); (case hg => rfl); (case hr => first | (go_simp; done) | (go_simp; rfl)); intro tJ hg w3 hbox hb; have dz := am (hbox); have alL := am (bsz hg au51); have pX := am (bsz hg au51); replace HB := am (below_step au51 hb); clear hb hbox hg))
 (try simp only [Act.put, List.setIfInBounds_toArray, List.set_cons_zero, List.set_cons_succ])
 go_cut [24] (fun X5 wc => ∃ (kq : Nat) (Fp : Bool), X5 = .bool Fp ∧ Aside0 (spec_l4Entry.j0 kq Fp ab aa ai aj ak an ap ar av aw af ac ae ag = some r) ∧ Aside0 (kq ≤ k) ∧ Aside0 (wc.heap[tJ]? = some (.cells #[.string ab, .int .i64 aa, (.slice bj ai.length bl), (.slice bm aj.length bn), .string ak, .string an, .string ap, .int .i64 ar, .int .i64 av, .int .i64 aw, .bool af, .int .i64 ac, .string ae, .string ag] 34 (0, 0))) ∧ Aside0 (Below w.heap.size w wc))
 case first =>
  have H := eV.out;clear eV;replace H := ob H;obtain ⟨Gm, i8, H⟩ := H
  try dsimp only at H
  have A4 := am i8;clear i8;by_cases c5 : Gm = true
  ·
   subst c5;replace H := (if_pos rfl).symm.trans H;replace H := ob H;obtain ⟨Gn, fF, H⟩ := H
   try dsimp only at H
   have A6 := am fF;clear fF;by_cases c7 : Gn = true
   ·
    subst c7;replace H := (if_pos rfl).symm.trans H;replace H := ob H;obtain ⟨Gp, jT, H⟩ := H
    try dsimp only at H
    have A8 := am jT;clear jT;by_cases c9 : Gp = true
    ·
     subst c9;replace H := (if_pos rfl).symm.trans H;replace H := ob H;obtain ⟨BD, er, H⟩ := H
     try dsimp only at H
     have gB := am er;clear er;have H' := am H;clear H;obtain ⟨fi, fj, fk, fl, rD, rE, rF, rG, rH, rI, pj, pk, pm, pn, fm, fo, fp, fq, rJ, rK, rL, rM, rN, rO, po, pp, pq, pr⟩ := blkc14 dz.out;exact spec_l4Entry.L0
    ·
     replace c9 := Bool.eq_false_iff.mpr c9;subst c9;replace H := (if_neg (show ¬ (false = true) by decide)).symm.trans H;have H' := am H;clear H;obtain ⟨eK, eL, eM, eN, jV, jW, jX, jY, jZ, k0, ie, ig, ii, ij, eO, eP, eQ, eR, k3, k4, k5, k6, k7, k8, ik, il, im, io⟩ := blkc14 dz.out;go_wp2_with (first | ((with_reducible refine gate_callee (f := 26) rfl ?_); refine goesL_ (some 5) rfl rfl Tryz.func26 (by kernel_rfl) rfl #[.string ab] rfl au50 ?_; (with_reducible refine (spec_l4Key.calls k ab _ _ A4.out).mono ?_); rintro e w' ⟨rfl, ⟨nd, rfl⟩⟩; refine ⟨_, rfl, ?_⟩) | (go_at_call 27; (with_reducible refine (spec_l1In.calls aa 1 4 _ _ A6.out).mono ?_); rintro e w' ⟨rfl, ⟨nd, rfl⟩⟩) | (go_at_call 28; (with_reducible refine (spec_l2List.calls k _ _ ai _ _ ?ax ?ay A8.out).mono ?_); (case ax => repeat (first | exact (Kd.C_below ck.out au29) | (with_reducible refine Kd.C_alloc ?_ _) | (with_reducible refine Kd.C_drewN ?_ _) | (with_reducible refine Kd.C_drew ?_))); (case ay => exact cn.out); rintro e O1 ⟨rfl, hb⟩; replace dz := am (blk_below (g := tJ) au55 hb); replace HB := am (below_step au29 hb); (try clear hb)));go_meet
     case rel => exact ⟨_, (true), au107, H', ⟨by first | omega | exact Nat.le_refl _⟩, ⟨by (with_reducible repeat (first | refine blk_drewN ?_ _ | refine blk_drew ?_ | refine blk_alloc ?_ _)); exact dz.out⟩, ⟨by repeat (first | (with_reducible first | exact HB.out | apply below_alloc | apply pw_below_drewN | apply below_drew1 | refine below_set ?_ pX.out) | exact HB.out)⟩⟩
   · replace c7 := Bool.eq_false_iff.mpr c7;subst c7;replace H := (if_neg (show ¬ (false = true) by decide)).symm.trans H;have H' := am H;clear H;obtain ⟨ft, fu, fv, fw, iL, iO, iP, iQ, iR, iT, gE, gF, gG, gH, fx, fy, fz, fA, iU, iV, iW, iX, iZ, j3, gI, gJ, gK, gL⟩ := blkc14 dz.out;exact spec_l4Entry.L0
  · replace c5 := Bool.eq_false_iff.mpr c5;subst c5;replace H := (if_neg (show ¬ (false = true) by decide)).symm.trans H;have H' := am H;clear H;obtain ⟨wl, wm, wn, wo, Jy, Jz, JA, JB, JC, JD, Gq, Gr, Gs, Gt, wq, wt, wu, wv, JE, JF, JG, JH, JI, JJ, Gu, Gv, Gw, Gx⟩ := blkc14 dz.out;exact spec_l4Entry.L0
 case rest =>
  clear eV
  try clear c1
  try clear c2
  try clear p2
  try clear c5
  try clear c7
  try clear c9
  try clear cO
  try clear fi fj pj pk pm pn fk fl rD rE rF rG rH rI fm fo po pp pq pr fp fq rJ rK rL rM rN rO
  try clear lX lY yi yj yk yl lZ m0 BE BF BG BH BI BJ m4 m5 yn yo yp yq m6 m7 BK BL BM BN BO BP
  try clear eK eL ie ig ii ij eM eN jV jW jX jY jZ k0 eO eP ik il im io eQ eR k3 k4 k5 k6 k7 k8
  try clear ft fu gE gF gG gH fv fw iL iO iP iQ iR iT fx fy gI gJ gK gL fz fA iU iV iW iX iZ j3
  try clear wl wm Gq Gr Gs Gt wn wo Jy Jz JA JB JC JD wq wt Gu Gv Gw Gx wu wv JE JF JG JH JI JJ
  obtain ⟨kq, Fp, rfl, HA, eW, dz, HB⟩ := hcut
  cases kq with
  | zero => exact absurd HA.out (by simp [spec_l4Entry.j0])
  | succ dT =>
   have H := HA.out;clear HA;simp only [spec_l4Entry.j0] at H;by_cases dp : Fp = true
   · subst dp;replace H := (if_pos rfl).symm.trans H;obtain rfl := ojz H;exact spec_l4Entry.L1
   ·
    replace dp := Bool.eq_false_iff.mpr dp;subst dp;replace H := (if_neg (show ¬ (false = true) by decide)).symm.trans H;have yr := am H;clear H
    go_upto_region 3 with (fail)
    go_cut [46] (fun v46 wc => ∃ (kq : Nat) (Ax : Bool), v46 = .bool Ax ∧ Aside0 (spec_l4Entry.j1 kq Ax ab aa ai aj ak an ap ar av aw af ac ae ag = some r) ∧ Aside0 (kq ≤ dT) ∧ Aside0 (wc.heap[tJ]? = some (.cells #[.string ab, .int .i64 aa, (.slice bj ai.length bl), (.slice bm aj.length bn), .string ak, .string an, .string ap, .int .i64 ar, .int .i64 av, .int .i64 aw, .bool af, .int .i64 ac, .string ae, .string ag] 34 (0, 0))) ∧ Aside0 (Below w.heap.size w wc))
    case first =>
     have H := yr.out;clear yr;replace H := ob H;obtain ⟨P0, kU, H⟩ := H
     try dsimp only at H
     have qQ := am kU;clear kU;by_cases dy : P0 = true
     ·
      subst dy;replace H := (if_pos rfl).symm.trans H;replace H := ob H;obtain ⟨P1, Gy, H⟩ := H
      try dsimp only at H
      have X4 := am Gy;clear Gy;by_cases i6 : P1 = true
      ·
       subst i6;replace H := (if_pos rfl).symm.trans H;replace H := ob H;obtain ⟨P2, Gz, H⟩ := H
       try dsimp only at H
       have RE := am Gz;clear Gz;by_cases fe : P2 = true
       ·
        subst fe;replace H := (if_pos rfl).symm.trans H;replace H := ob H;obtain ⟨Mo, Gf, H⟩ := H
        try dsimp only at H
        have WZ := am Gf;clear Gf;have H' := am H;clear H;obtain ⟨qR, qS, qT, qU, ww, wx, wy, wz, wA, wB, tK, tL, tM, tN, qV, qW, qX, qY, wC, wD, wE, wF, wG, wH, tO, tP, tQ, tR⟩ := blkc14 dz.out;exact spec_l4Entry.L2
       · replace fe := Bool.eq_false_iff.mpr fe;subst fe;replace H := (if_neg (show ¬ (false = true) by decide)).symm.trans H;have H' := am H;clear H;obtain ⟨rP, rQ, rR, rS, wI, wJ, wK, wL, wM, wN, tS, tT, tU, tV, rT, rU, rV, rW, wO, wP, wQ, wR, wS, wT, tW, tX, tY, tZ⟩ := blkc14 dz.out;exact spec_l4Entry.L2
      · replace i6 := Bool.eq_false_iff.mpr i6;subst i6;replace H := (if_neg (show ¬ (false = true) by decide)).symm.trans H;have H' := am H;clear H;obtain ⟨lP, lQ, lR, lS, rX, rY, rZ, sa, sb, sc, pt, pu, pv, pw, lT, lU, lV, lW, sd, se, si, sj, sk, sl, px, pz, pA, pB⟩ := blkc14 dz.out;exact spec_l4Entry.L2
     · replace dy := Bool.eq_false_iff.mpr dy;subst dy;replace H := (if_neg (show ¬ (false = true) by decide)).symm.trans H;have H' := am H;clear H;obtain ⟨m8, m9, ma, mb, sn, so, sq, sr, st, su, pC, pD, pE, pF, mc, me, mf, mg, sw, sx, sy, sB, sC, sF, pG, pH, pI, pJ⟩ := blkc14 dz.out;exact spec_l4Entry.L2
    case rest =>
     clear yr
     try clear c1
     try clear c2
     try clear p2
     try clear c5
     try clear c7
     try clear c9
     try clear cO
     try clear dp
     try clear dy
     try clear i6
     try clear fe
     try clear fL
     try clear fi fj pj pk pm pn fk fl rD rE rF rG rH rI fm fo po pp pq pr fp fq rJ rK rL rM rN rO
     try clear lX lY yi yj yk yl lZ m0 BE BF BG BH BI BJ m4 m5 yn yo yp yq m6 m7 BK BL BM BN BO BP
     try clear eK eL ie ig ii ij eM eN jV jW jX jY jZ k0 eO eP ik il im io eQ eR k3 k4 k5 k6 k7 k8
     try clear ft fu gE gF gG gH fv fw iL iO iP iQ iR iT fx fy gI gJ gK gL fz fA iU iV iW iX iZ j3
     try clear wl wm Gq Gr Gs Gt wn wo Jy Jz JA JB JC JD wq wt Gu Gv Gw Gx wu wv JE JF JG JH JI JJ
     try clear qR qS tK tL tM tN qT qU ww wx wy wz wA wB qV qW tO tP tQ tR qX qY wC wD wE wF wG wH
     try clear rP rQ tS tT tU tV rR rS wI wJ wK wL wM wN rT rU tW tX tY tZ rV rW wO wP wQ wR wS wT
     try clear lP lQ pt pu pv pw lR lS rX rY rZ sa sb sc lT lU px pz pA pB lV lW sd se si sj sk sl
     try clear m8 m9 pC pD pE pF ma mb sn so sq sr st su mc me pG pH pI pJ mf mg sw sx sy sB sC sF
     try clear p2
     obtain ⟨kq, Ax, rfl, HA, a3r, dz, HB⟩ := hcut
     cases kq with
     | zero => exact absurd HA.out (by simp [spec_l4Entry.j1])
     | succ Mp =>
      have H := HA.out;clear HA;simp only [spec_l4Entry.j1] at H;by_cases eI : Ax = true
      · subst eI;replace H := (if_pos rfl).symm.trans H;obtain rfl := ojz H;exact spec_l4Entry.L1
      ·
       replace eI := Bool.eq_false_iff.mpr eI;subst eI;replace H := (if_neg (show ¬ (false = true) by decide)).symm.trans H;replace H := ob H;obtain ⟨P3, X6, H⟩ := H
       try dsimp only at H
       have A33 := am X6;clear X6;by_cases ux : P3 = true
       ·
        subst ux;replace H := (if_pos rfl).symm.trans H;replace H := ob H;obtain ⟨P4, X7, H⟩ := H
        try dsimp only at H
        have A35 := am X7;clear X7;by_cases Ay : P4 = true
        ·
         subst Ay;replace H := (if_pos rfl).symm.trans H;by_cases uy : ag.toList = ([] : List UInt8)
         · rw [if_pos uy] at H;have c37b0 := qt uy;have c37b1 := bf uy;clear uy;obtain rfl := ojz H;obtain ⟨abb, abc, abd, abe, abf, abg, abh, abi, abj, abk, a3s, a3t, a3u, a3v, abl, abm, abn, abo, abp, abq, abr, abt, abu, abv, a3w, a3x, a3y, a3z⟩ := blkc14 dz.out;exact spec_l4Entry.L1
         ·
          rw [if_neg uy] at H;have c37b0 := qf uy;have c37b1 := bu uy;replace H := ob H;obtain ⟨t164, GA, H⟩ := H
          try dsimp only at H
          have O0 := am GA;clear GA;by_cases Az : t164 = true
          · subst Az;replace H := (if_pos rfl).symm.trans H;obtain rfl := ojz H;obtain ⟨BQ, BR, BS, BU, BV, BW, BX, BZ, C0, C1, yt, yu, yv, yw, C2, C3, C4, C5, C6, C7, C8, C9, Ca, Cb, yx, yy, yz, yA⟩ := blkc14 dz.out;exact spec_l4Entry.L1
          · replace Az := Bool.eq_false_iff.mpr Az;subst Az;replace H := (if_neg (show ¬ (false = true) by decide)).symm.trans H;obtain rfl := ojz H;obtain ⟨Cc, Cd, Ce, Cf, Cg, Ch, Ci, Cj, Ck, Cl, yB, yC, yD, yE, Cm, Cn, Co, Cp, Cq, Cr, Cs, Ct, Cu, Cv, yF, yG, yH, yI⟩ := blkc14 dz.out;exact spec_l4Entry.L1
        · replace Ay := Bool.eq_false_iff.mpr Ay;subst Ay;replace H := (if_neg (show ¬ (false = true) by decide)).symm.trans H;obtain rfl := ojz H;obtain ⟨JK, JL, JM, JN, JO, JP, JQ, JR, JS, JU, GC, GD, GE, GF, JV, JW, JX, JY, JZ, K0, K1, K2, wU, wV, GG, GH, GI, GJ⟩ := blkc14 dz.out;exact spec_l4Entry.L1
       · replace ux := Bool.eq_false_iff.mpr ux;subst ux;replace H := (if_neg (show ¬ (false = true) by decide)).symm.trans H;obtain rfl := ojz H;obtain ⟨abw, abx, aby, abz, abA, abB, abC, abD, abE, abF, a3A, a3B, a3C, a3D, abG, abH, abI, abJ, abK, abL, abM, abN, abO, abP, a3E, a3F, a3G, a3H⟩ := blkc14 dz.out;go_wp2_with (first | ((with_reducible refine gate_callee (f := 30) rfl ?_); refine goesL_ (some 49) rfl rfl Tryz.func30 (by kernel_rfl) rfl #[.agg #[.int .i64 ar, .int .i64 av, .int .i64 aw, .bool af]] rfl au50 ?_; (with_reducible refine (spec_l3Good.calls Mp ar av aw af _ _ A33.out).mono ?_); rintro e w53 ⟨rfl, hb⟩; refine ⟨_, rfl, ?_⟩; replace dz := am (blk_below (g := tJ) au55 hb); replace HB := am (below_step au29 hb); (try clear hb)));go_ret;exact ⟨by first | rfl | (simp [errW_none, errW_some] <;> rfl) | (simp [*, errW_none, errW_some] <;> rfl), by repeat (first | (with_reducible first | exact HB.out | apply below_alloc | apply pw_below_drewN | apply below_drew1 | refine below_set ?_ pX.out) | exact HB.out)⟩
def spec_l4Fields.f  : Option (List ByteArray) := some (([(⟨#[97, 117, 116, 104, 111, 114, 115]⟩ : ByteArray), (⟨#[101, 100, 105, 116, 111, 114, 115]⟩ : ByteArray), (⟨#[116, 105, 116, 108, 101]⟩ : ByteArray), (⟨#[99, 111, 110, 116, 97, 105, 110, 101, 114]⟩ : ByteArray), (⟨#[112, 117, 98, 108, 105, 115, 104, 101, 114]⟩ : ByteArray), (⟨#[100, 97, 116, 101]⟩ : ByteArray), (⟨#[118, 111, 108, 117, 109, 101]⟩ : ByteArray), (⟨#[112, 97, 103, 101, 115]⟩ : ByteArray)] : List ByteArray))
set_option maxHeartbeats 8000000 in
set_option maxRecDepth 100000 in
theorem spec_l4Fields.calls  (r : List ByteArray) (w : World) (h : spec_l4Fields.f  = some r) :
  Calls Tryz.prog 15 #[] w fun e w' => ∃ gA : Value, e = .returned (gA) ∧ Kd.R Kd.string 9 w' w.heap.size (fun _ => True) gA r ∧ Below w.heap.size w w' := by
 have HB := am (Below.refl w.heap.size w);have H : (some (([(⟨#[97, 117, 116, 104, 111, 114, 115]⟩ : ByteArray), (⟨#[101, 100, 105, 116, 111, 114, 115]⟩ : ByteArray), (⟨#[116, 105, 116, 108, 101]⟩ : ByteArray), (⟨#[99, 111, 110, 116, 97, 105, 110, 101, 114]⟩ : ByteArray), (⟨#[112, 117, 98, 108, 105, 115, 104, 101, 114]⟩ : ByteArray), (⟨#[100, 97, 116, 101]⟩ : ByteArray), (⟨#[118, 111, 108, 117, 109, 101]⟩ : ByteArray), (⟨#[112, 97, 103, 101, 115]⟩ : ByteArray)] : List ByteArray))) = some r := h;clear h
 obtain ⟨a3I, AA⟩ : ∃ y_ : List ByteArray, y_ = (([(⟨#[97, 117, 116, 104, 111, 114, 115]⟩ : ByteArray), (⟨#[101, 100, 105, 116, 111, 114, 115]⟩ : ByteArray), (⟨#[116, 105, 116, 108, 101]⟩ : ByteArray), (⟨#[99, 111, 110, 116, 97, 105, 110, 101, 114]⟩ : ByteArray), (⟨#[112, 117, 98, 108, 105, 115, 104, 101, 114]⟩ : ByteArray), (⟨#[100, 97, 116, 101]⟩ : ByteArray), (⟨#[118, 111, 108, 117, 109, 101]⟩ : ByteArray), (⟨#[112, 97, 103, 101, 115]⟩ : ByteArray)] : List ByteArray)) := ⟨_, rfl⟩
 replace H : (some a3I) = some r := by first | (rw [AA]; with_reducible exact H) | (have H2_ := (Option.bind_some _ _).symm.trans H; rw [AA]; with_reducible exact H2_) | (have H2_ := (Option.bind_some _ _).symm.trans H; with_reducible exact H2_) | with_reducible exact H | (rw [AA]; exact H) | exact H
 have RF := am AA;clear AA;obtain rfl := ojz H;go_enter Tryz.func15, Tryz.ntmps15;go_wp2_with (first | ((with_reducible refine gate_dst (N := 1) rfl ?_); refine Kd.R_lit Kd.string _ 9 ?hg (N := 1) ?hd (xs := ([(⟨#[97, 117, 116, 104, 111, 114, 115]⟩ : ByteArray), (⟨#[101, 100, 105, 116, 111, 114, 115]⟩ : ByteArray), (⟨#[116, 105, 116, 108, 101]⟩ : ByteArray), (⟨#[99, 111, 110, 116, 97, 105, 110, 101, 114]⟩ : ByteArray), (⟨#[112, 117, 98, 108, 105, 115, 104, 101, 114]⟩ : ByteArray), (⟨#[100, 97, 116, 101]⟩ : ByteArray), (⟨#[118, 111, 108, 117, 109, 101]⟩ : ByteArray), (⟨#[112, 97, 103, 101, 115]⟩ : ByteArray)] : List ByteArray)) (inner := [.string (⟨#[97, 117, 116, 104, 111, 114, 115]⟩ : ByteArray), .string (⟨#[101, 100, 105, 116, 111, 114, 115]⟩ : ByteArray), .string (⟨#[116, 105, 116, 108, 101]⟩ : ByteArray), .string (⟨#[99, 111, 110, 116, 97, 105, 110, 101, 114]⟩ : ByteArray), .string (⟨#[112, 117, 98, 108, 105, 115, 104, 101, 114]⟩ : ByteArray), .string (⟨#[100, 97, 116, 101]⟩ : ByteArray), .string (⟨#[118, 111, 108, 117, 109, 101]⟩ : ByteArray), .string (⟨#[112, 97, 103, 101, 115]⟩ : ByteArray)]) (ok := fun _ => True) (okp := fun _ => True) ?hr ?hp (fun _ hk => hk) trivial (Below.refl _ _) (Nat.le_refl _) (by simp) ?_; (case hd => rfl); (case hg => rfl); (case hr => first | (go_simp; done) | (go_simp; rfl)); (case hp => exact (Reps.one (show Kd.M Kd.string _ _ _ (⟨#[97, 117, 116, 104, 111, 114, 115]⟩ : ByteArray) [.string (⟨#[97, 117, 116, 104, 111, 114, 115]⟩ : ByteArray)] from rfl) (Reps.one (show Kd.M Kd.string _ _ _ (⟨#[101, 100, 105, 116, 111, 114, 115]⟩ : ByteArray) [.string (⟨#[101, 100, 105, 116, 111, 114, 115]⟩ : ByteArray)] from rfl) (Reps.one (show Kd.M Kd.string _ _ _ (⟨#[116, 105, 116, 108, 101]⟩ : ByteArray) [.string (⟨#[116, 105, 116, 108, 101]⟩ : ByteArray)] from rfl) (Reps.one (show Kd.M Kd.string _ _ _ (⟨#[99, 111, 110, 116, 97, 105, 110, 101, 114]⟩ : ByteArray) [.string (⟨#[99, 111, 110, 116, 97, 105, 110, 101, 114]⟩ : ByteArray)] from rfl) (Reps.one (show Kd.M Kd.string _ _ _ (⟨#[112, 117, 98, 108, 105, 115, 104, 101, 114]⟩ : ByteArray) [.string (⟨#[112, 117, 98, 108, 105, 115, 104, 101, 114]⟩ : ByteArray)] from rfl) (Reps.one (show Kd.M Kd.string _ _ _ (⟨#[100, 97, 116, 101]⟩ : ByteArray) [.string (⟨#[100, 97, 116, 101]⟩ : ByteArray)] from rfl) (Reps.one (show Kd.M Kd.string _ _ _ (⟨#[118, 111, 108, 117, 109, 101]⟩ : ByteArray) [.string (⟨#[118, 111, 108, 117, 109, 101]⟩ : ByteArray)] from rfl) (Reps.one (show Kd.M Kd.string _ _ _ (⟨#[112, 97, 103, 101, 115]⟩ : ByteArray) [.string (⟨#[112, 97, 103, 101, 115]⟩ : ByteArray)] from rfl) (Reps.none _ _)))))))))); intro anO w1 ho2 hb hg_ hnew_; clear hg_ hnew_; (first | rw [← RF.out] at ho2 | (simp only [Int.reduceToNat] at ho2; rw [← RF.out] at ho2)); have a02 := am (Kd.R_lower ho2 (below_size au51)); replace HB := am (below_step au51 hb); clear hb ho2));go_ret;exact ⟨_, by first | rfl | (simp [errW_none, errW_some] <;> rfl) | (simp [*, errW_none, errW_some] <;> rfl), by (with_reducible repeat (first | apply Kd.R_alloc | apply Kd.R_drewN | apply Kd.R_drew)); exact a02.out, by repeat (first | (with_reducible first | exact HB.out | apply below_alloc | apply pw_below_drewN | apply below_drew1) | exact HB.out)⟩
def spec_l2Join.l0 : Nat → List ByteArray → ByteArray → Int → Option (ByteArray)
 | 0, _, _, _ => none
 | k + 1, x0, x3, x4 => if x4 < (x0.length : Int) then (if x3.toList = ([] : List UInt8) then (if 0 ≤ x4 then (if x3.size + (rdOf ByteArray.empty x0 x4).size ≤ 9223372036854775807 then (spec_l2Join.l0 k x0 (x3 ++ (rdOf ByteArray.empty x0 x4)) (wrap64 (x4 + 1))) else (none)) else (none)) else (if 0 ≤ x4 then (if (rdOf ByteArray.empty x0 x4).toList = ([] : List UInt8) then (if x3.size + (rdOf ByteArray.empty x0 x4).size ≤ 9223372036854775807 then (spec_l2Join.l0 k x0 (x3 ++ (rdOf ByteArray.empty x0 x4)) (wrap64 (x4 + 1))) else (none)) else (if x3.size + 1 ≤ 9223372036854775807 then (if (x3 ++ (⟨#[32]⟩ : ByteArray)).size + (rdOf ByteArray.empty x0 x4).size ≤ 9223372036854775807 then (spec_l2Join.l0 k x0 ((x3 ++ (⟨#[32]⟩ : ByteArray)) ++ (rdOf ByteArray.empty x0 x4)) (wrap64 (x4 + 1))) else (none)) else (none))) else (none))) else (some x3)
def spec_l2Join.f (k : Nat) (l0 : List ByteArray) : Option (ByteArray) := spec_l2Join.l0 k l0 (⟨#[]⟩ : ByteArray) 0
theorem spec_l2Join.mono_l : ∀ k, (∀ y0 y1 y2, LeO (spec_l2Join.l0 k y0 y1 y2) (spec_l2Join.l0 (k + 1) y0 y1 y2))
 | 0 => fun _ _ _ r h => by simp [spec_l2Join.l0] at h
 | k + 1 => by
  have ih0 := spec_l2Join.mono_l k
  ·
   intro y0 y1 y2;unfold spec_l2Join.l0
   repeat' first
   | (with_reducible exact ih0 _ _ _)
   | (with_reducible exact LeO.refl _)
   | (with_reducible exact LeO.none _)
   | (with_reducible refine LeO.ite ?_ ?_)
   | (with_reducible refine LeO.bind ?_ (fun _ => ?_))
   | exact ih0 _ _ _
   | exact LeO.none _
   | refine LeO.ite ?_ ?_
   | refine LeO.bind ?_ (fun _ => ?_)
theorem spec_l2Join.mono : ∀ a0 k, LeO (spec_l2Join.f k a0) (spec_l2Join.f (k + 1) a0) := by
 intro a0 k;have ih0 := spec_l2Join.mono_l k;unfold spec_l2Join.f
 repeat' first
   | (with_reducible exact ih0 _ _ _)
   | (with_reducible exact LeO.refl _)
   | (with_reducible exact LeO.none _)
   | (with_reducible refine LeO.ite ?_ ?_)
   | (with_reducible refine LeO.bind ?_ (fun _ => ?_))
   | exact ih0 _ _ _
   | exact LeO.none _
   | refine LeO.ite ?_ ?_
   | refine LeO.bind ?_ (fun _ => ?_)
set_option maxHeartbeats 8000000 in
set_option maxRecDepth 100000 in
theorem spec_l2Join.calls (k : Nat) (A0 : Option Addr) (c0 : Nat) (l0 : List ByteArray) (r : ByteArray) (w : World) (dn : Kd.C Kd.string w A0 l0.length l0) (d5 : l0.length ≤ c0) (h : spec_l2Join.f k l0 = some r) :
  Calls Tryz.prog 63 #[.slice A0 l0.length c0] w fun e w' => e = .returned (.string r) ∧ Drawn0 w w' := by
 have dM := am dn;have lr := am d5;clear dn d5;have H : (spec_l2Join.l0 k l0 (⟨#[]⟩ : ByteArray) 0) = some r := h;clear h;have H' := am H;clear H;go_enter Tryz.func63, Tryz.ntmps63;go_wp2
 go_loopg [3, 4] k (fun kq v3 v4 w' => ∃ (aJ : ByteArray) (aU : Int), v3 = .string aJ ∧ v4 = .int .i64 aU ∧ Aside0 (spec_l2Join.l0 kq l0 aJ aU = some r) ∧ Aside0 (kq ≤ k) ∧ Drawn0 w w')
 case atStart => exact ⟨((⟨#[]⟩ : ByteArray)), (0), au107, au107, H', ⟨Nat.le_refl _⟩, by repeat (first | exact Drawn0.refl _ | apply Drawn0.step)⟩
 case round =>
  clear H';obtain ⟨aJ, aU, rfl, rfl, HA, HK1, ⟨m1, rfl⟩⟩ := hrel
  cases gk with
  | zero => exact absurd HA.out (by simp [spec_l2Join.l0])
  | succ k1 =>
   have H := HA.out;clear HA;simp only [spec_l2Join.l0] at H;by_cases c2 : aU < (l0.length : Int)
   ·
    rw [if_pos c2] at H;have c2b0 := dt c2;clear c2;by_cases c3 : aJ.toList = ([] : List UInt8)
    ·
     rw [if_pos c3] at H;have c3b0 := qt c3;have c3b1 := bf c3;clear c3;by_cases c4 : 0 ≤ aU
     ·
      rw [if_pos c4] at H;have c4b0 := dt c4;clear c4;by_cases c5 : aJ.size + (rdOf ByteArray.empty l0 aU).size ≤ 9223372036854775807
      ·
       rw [if_pos c5] at H;have c5b0 := eq_true c5;have c5b1 := dt c5
       try have c5b2 : (9223372036854775807 < aJ.size + (rdOf ByteArray.empty l0 aU).size) = False := eq_false (Nat.not_lt.2 c5)
       have H' := am H;clear H;have P5 : 0 ≤ (aU : Int) := od au106;have P6 : aU < (l0.length : Int) := od au106;obtain ⟨alM, a3J, abQ⟩ := Kd.at_string dM.out aU P5 P6
       cases a3J
       replace P5 := eq_true P5;replace P6 := eq_true P6;go_wp2
       go_roundg k1
       case measure => have := HK1.out; omega
       case rel => exact ⟨(aJ ++ (rdOf ByteArray.empty l0 aU)), (wrap64 (aU + 1)), au107, au107, H', ⟨by have := HK1.out; omega⟩, by repeat (first | exact Drawn0.refl _ | apply Drawn0.step)⟩
      · rw [if_neg c5] at H;exact absurd H (by simp)
     · rw [if_neg c4] at H;exact absurd H (by simp)
    ·
     rw [if_neg c3] at H;have c3b0 := qf c3;have c3b1 := bu c3;by_cases c6 : 0 ≤ aU
     ·
      rw [if_pos c6] at H;have c6b0 := dt c6;clear c6;by_cases c7 : (rdOf ByteArray.empty l0 aU).toList = ([] : List UInt8)
      ·
       rw [if_pos c7] at H;have c7b0 := qt c7;have c7b1 := bf c7;clear c7;by_cases c8 : aJ.size + (rdOf ByteArray.empty l0 aU).size ≤ 9223372036854775807
       ·
        rw [if_pos c8] at H;have c8b0 := eq_true c8;have c8b1 := dt c8
        try have c8b2 : (9223372036854775807 < aJ.size + (rdOf ByteArray.empty l0 aU).size) = False := eq_false (Nat.not_lt.2 c8)
        have H' := am H;clear H;have yJ : 0 ≤ (aU : Int) := od au106;have yK : aU < (l0.length : Int) := od au106;obtain ⟨Mq, P7, SE⟩ := Kd.at_string dM.out aU yJ yK
        cases P7
        replace yJ := eq_true yJ;replace yK := eq_true yK;have P8 : 0 ≤ (aU : Int) := od au106;have P9 : aU < (l0.length : Int) := od au106;obtain ⟨a03, a3K, abR⟩ := Kd.at_string dM.out aU P8 P9
        obtain rfl : Mq = a03 := (by injection a3K)
        replace P8 := eq_true P8;replace P9 := eq_true P9;go_wp2
        go_roundg k1
        case measure => have := HK1.out; omega
        case rel => exact ⟨(aJ ++ (rdOf ByteArray.empty l0 aU)), (wrap64 (aU + 1)), au107, au107, H', ⟨by have := HK1.out; omega⟩, by repeat (first | exact Drawn0.refl _ | apply Drawn0.step)⟩
       · rw [if_neg c8] at H;exact absurd H (by simp)
      ·
       rw [if_neg c7] at H;have c7b0 := qf c7;have c7b1 := bu c7;by_cases c9 : aJ.size + 1 ≤ 9223372036854775807
       ·
        rw [if_pos c9] at H;have c9b0 := eq_true c9;have c9b1 := dt c9
        try have c9b2 : (9223372036854775807 < aJ.size + 1) = False := eq_false (Nat.not_lt.2 c9)
        by_cases c10 : (aJ ++ (⟨#[32]⟩ : ByteArray)).size + (rdOf ByteArray.empty l0 aU).size ≤ 9223372036854775807
        ·
         rw [if_pos c10] at H;have c10b0 := eq_true c10;have c10b1 := dt c10
         try have c10b2 : (9223372036854775807 < (aJ ++ (⟨#[32]⟩ : ByteArray)).size + (rdOf ByteArray.empty l0 aU).size) = False := eq_false (Nat.not_lt.2 c10)
         try have c10x : (9223372036854775807 < aJ.size + 1 + (rdOf ByteArray.empty l0 aU).size) = False := eq_false (by have z_ := c10; simp only [ByteArray.size_append] at z_; have kV : (⟨#[32]⟩ : ByteArray).size = 1 := rfl; omega)
         have H' := am H;clear H;have yJ : 0 ≤ (aU : Int) := od au106;have yK : aU < (l0.length : Int) := od au106;obtain ⟨Mq, P7, SE⟩ := Kd.at_string dM.out aU yJ yK
         cases P7
         replace yJ := eq_true yJ;replace yK := eq_true yK;have Pd : 0 ≤ (aU : Int) := od au106;have Pe : aU < (l0.length : Int) := od au106;obtain ⟨a04, a3L, abS⟩ := Kd.at_string dM.out aU Pd Pe
         obtain rfl : Mq = a04 := (by injection a3L)
         replace Pd := eq_true Pd;replace Pe := eq_true Pe;go_wp2
         go_roundg k1
         case measure => have := HK1.out; omega
         case rel => exact ⟨((aJ ++ (⟨#[32]⟩ : ByteArray)) ++ (rdOf ByteArray.empty l0 aU)), (wrap64 (aU + 1)), au107, au107, H', ⟨by have := HK1.out; omega⟩, by repeat (first | exact Drawn0.refl _ | apply Drawn0.step)⟩
        · rw [if_neg c10] at H;exact absurd H (by simp)
       · rw [if_neg c9] at H;exact absurd H (by simp)
     · rw [if_neg c6] at H;exact absurd H (by simp)
   · rw [if_neg c2] at H;have c2b0 := df c2;clear c2;obtain rfl := ojz H;go_wp2;go_ret;exact ax0
def spec_l2Given.f (k : Nat) (aV : List ByteArray) (aa : ByteArray) (aC : ByteArray) (aA : ByteArray) : Option (ByteArray) := (spec_l2Join.f k aV).bind fun t173 => (some t173)
theorem spec_l2Given.mono : ∀ a0 a1 a2 a3 k, LeO (spec_l2Given.f k a0 a1 a2 a3) (spec_l2Given.f (k + 1) a0 a1 a2 a3) := by
 intro a0 a1 a2 a3 k;unfold spec_l2Given.f
 repeat' first
   | (with_reducible exact spec_l2Join.mono _ _)
   | (with_reducible exact LeO.refl _)
   | (with_reducible exact LeO.none _)
   | (with_reducible refine LeO.ite ?_ ?_)
   | (with_reducible refine LeO.bind ?_ (fun _ => ?_))
   | exact spec_l2Join.mono _ _
   | exact LeO.none _
   | refine LeO.ite ?_ ?_
   | refine LeO.bind ?_ (fun _ => ?_)
set_option maxHeartbeats 8000000 in
set_option maxRecDepth 100000 in
theorem spec_l2Given.calls (k : Nat) (cC : Option Addr) (cD : Nat) (aV : List ByteArray) (aa : ByteArray) (aC : ByteArray) (aA : ByteArray) (r : ByteArray) (w : World) (dN : Kd.C Kd.string w cC aV.length aV) (dA : aV.length ≤ cD) (h : spec_l2Given.f k aV aa aC aA = some r) :
  Calls Tryz.prog 64 #[.agg #[.slice cC aV.length cD, .string aa, .string aC, .string aA]] w fun e w' => e = .returned (.string r) ∧ Below w.heap.size w w' := by
 have hu62 := Tryz.underlying62;have el := am dN;have fP := am dA;clear dN dA;have HB := am (Below.refl w.heap.size w);have H : ((spec_l2Join.f k aV).bind fun t173 => (some t173)) = some r := h;clear h;replace H := ob H;obtain ⟨t173, dP, H⟩ := H
 try dsimp only at H
 have A2 := am dP;clear dP;obtain rfl := ojz H;go_enter Tryz.func64, Tryz.ntmps64;go_wp2_with (first | ((with_reducible refine gate_dst (N := 1) rfl ?_); refine box_event ?hg (N := 1) ?hd (cs := #[.slice cC aV.length cD, .string aa, .string aC, .string aA]) (t := 62) ?hr ?_; (case hd => rfl); (case hg => rfl); (case hr => first | (go_simp; done) | (go_simp; rfl)); intro alN hg w3 hbox hb; have a05 := am (hbox); have alO := am (bsz hg au51); have a06 := am (bsz hg au51); replace HB := am (below_step au51 hb); clear hb hbox hg; obtain ⟨fU, fV, fW, fX, fY, fZ, ga, ge⟩ := blkc4 a05.out) | ((with_reducible refine gate_callee (f := 63) rfl ?_); refine goesL_ (some 5) rfl rfl Tryz.func63 (by kernel_rfl) rfl #[.slice cC aV.length cD] rfl au50 ?_; (with_reducible refine (spec_l2Join.calls k _ _ aV t173 _ ?ax ?ay A2.out).mono ?_); (case ax => repeat (first | exact (Kd.C_below el.out HB.out) | (with_reducible refine Kd.C_alloc ?_ _) | (with_reducible refine Kd.C_drewN ?_ _) | (with_reducible refine Kd.C_drew ?_))); (case ay => exact fP.out); rintro e w' ⟨rfl, ⟨nd, rfl⟩⟩; refine ⟨_, rfl, ?_⟩));go_ret;exact ⟨by first | rfl | (simp [errW_none, errW_some] <;> rfl) | (simp [*, errW_none, errW_some] <;> rfl), by repeat (first | (with_reducible first | exact HB.out | apply below_alloc | apply pw_below_drewN | apply below_drew1 | refine below_set ?_ a06.out) | exact HB.out)⟩
def spec_l2Inverse.j0 : Nat → ByteArray → Bool → List ByteArray → ByteArray → ByteArray → ByteArray → Option (ByteArray)
 | 0, _, _, _, _, _, _ => none
 | k + 1, x3, X8, SF, SG, SH, mh => if X8 = true then (if x3.size + 2 ≤ 9223372036854775807 then ((spec_l2Given.f k SF SG SH mh).bind fun jj => (if (x3 ++ (⟨#[44, 32]⟩ : ByteArray)).size + jj.size ≤ 9223372036854775807 then (if mh.toList = ([] : List UInt8) then (some ((x3 ++ (⟨#[44, 32]⟩ : ByteArray)) ++ jj)) else (if ((x3 ++ (⟨#[44, 32]⟩ : ByteArray)) ++ jj).size + 2 ≤ 9223372036854775807 then (if (((x3 ++ (⟨#[44, 32]⟩ : ByteArray)) ++ jj) ++ (⟨#[44, 32]⟩ : ByteArray)).size + mh.size ≤ 9223372036854775807 then (some ((((x3 ++ (⟨#[44, 32]⟩ : ByteArray)) ++ jj) ++ (⟨#[44, 32]⟩ : ByteArray)) ++ mh)) else (none)) else (none))) else (none))) else (none)) else (if mh.toList = ([] : List UInt8) then (some x3) else (if x3.size + 2 ≤ 9223372036854775807 then (if (x3 ++ (⟨#[44, 32]⟩ : ByteArray)).size + mh.size ≤ 9223372036854775807 then (some ((x3 ++ (⟨#[44, 32]⟩ : ByteArray)) ++ mh)) else (none)) else (none)))
def spec_l2Inverse.f (k : Nat) (aV : List ByteArray) (aa : ByteArray) (aC : ByteArray) (aA : ByteArray) : Option (ByteArray) := (spec_l2Join.f k (([aa, aC] : List ByteArray))).bind fun ek => (if (aV.length : Int) > 0 then (spec_l2Inverse.j0 k ek true aV aa aC aA) else (spec_l2Inverse.j0 k ek (aA.toList != ([] : List UInt8)) aV aa aC aA))
theorem spec_l2Inverse.mono_l : ∀ k, (∀ y0 y1 y2 y3 y4 y5, LeO (spec_l2Inverse.j0 k y0 y1 y2 y3 y4 y5) (spec_l2Inverse.j0 (k + 1) y0 y1 y2 y3 y4 y5))
 | 0 => fun _ _ _ _ _ _ r h => by simp [spec_l2Inverse.j0] at h
 | k + 1 => by
  have ih0 := spec_l2Inverse.mono_l k
  ·
   intro y0 y1 y2 y3 y4 y5;unfold spec_l2Inverse.j0
   repeat' first
   | (with_reducible exact ih0 _ _ _ _ _ _)
   | (with_reducible exact spec_l2Given.mono _ _ _ _ _)
   | (with_reducible exact spec_l2Join.mono _ _)
   | (with_reducible exact LeO.refl _)
   | (with_reducible exact LeO.none _)
   | (with_reducible refine LeO.ite ?_ ?_)
   | (with_reducible refine LeO.bind ?_ (fun _ => ?_))
   | exact ih0 _ _ _ _ _ _
   | exact spec_l2Given.mono _ _ _ _ _
   | exact spec_l2Join.mono _ _
   | exact LeO.none _
   | refine LeO.ite ?_ ?_
   | refine LeO.bind ?_ (fun _ => ?_)
theorem spec_l2Inverse.mono : ∀ a0 a1 a2 a3 k, LeO (spec_l2Inverse.f k a0 a1 a2 a3) (spec_l2Inverse.f (k + 1) a0 a1 a2 a3) := by
 intro a0 a1 a2 a3 k;have ih0 := spec_l2Inverse.mono_l k;unfold spec_l2Inverse.f
 repeat' first
   | (with_reducible exact ih0 _ _ _ _ _ _)
   | (with_reducible exact spec_l2Given.mono _ _ _ _ _)
   | (with_reducible exact spec_l2Join.mono _ _)
   | (with_reducible exact LeO.refl _)
   | (with_reducible exact LeO.none _)
   | (with_reducible refine LeO.ite ?_ ?_)
   | (with_reducible refine LeO.bind ?_ (fun _ => ?_))
   | exact ih0 _ _ _ _ _ _
   | exact spec_l2Given.mono _ _ _ _ _
   | exact spec_l2Join.mono _ _
   | exact LeO.none _
   | refine LeO.ite ?_ ?_
   | refine LeO.bind ?_ (fun _ => ?_)
set_option maxRecDepth 100000 in
theorem spec_l2Inverse.L0 {P : Prop} (h : P := by
  go_wp2_with (first | ((with_reducible refine gate_callee (f := 64) rfl ?_); refine goesL_ (some 22) rfl rfl Tryz.func64 (by kernel_rfl) rfl #[.agg #[.slice cC aV.length cD, .string aa, .string aC, .string aA]] rfl au50 ?_; (with_reducible refine (spec_l2Given.calls GK _ _ aV aa aC aA jj _ ?ax ?ay xG.out).mono ?_); (case ax => repeat (first | exact (Kd.C_below el.out HB.out) | (with_reducible refine Kd.C_alloc ?_ _) | (with_reducible refine Kd.C_drewN ?_ _) | (with_reducible refine Kd.C_drew ?_))); (case ay => exact fP.out); rintro e K3 ⟨rfl, hb⟩; refine ⟨_, rfl, ?_⟩; replace hY := am (blk_below (g := Mr) au56 hb); replace HB := am (below_step au30 hb); (try clear hb); obtain ⟨rq, rr, rt, ru, rv, rx, ry, rz⟩ := blkc4 hY.out));go_ret
  exact ⟨by first | rfl | (simp [errW_none, errW_some] <;> rfl) | (simp [*, errW_none, errW_some] <;> rfl), by repeat (first | (with_reducible first | exact HB.out | apply below_alloc | apply pw_below_drewN | apply below_drew1 | refine below_set ?_ Fe.out) | exact HB.out)⟩) : P := h
set_option maxHeartbeats 8000000 in
set_option maxRecDepth 100000 in
theorem spec_l2Inverse.calls (k : Nat) (cC : Option Addr) (cD : Nat) (aV : List ByteArray) (aa : ByteArray) (aC : ByteArray) (aA : ByteArray) (r : ByteArray) (w : World) (dN : Kd.C Kd.string w cC aV.length aV) (dA : aV.length ≤ cD) (h : spec_l2Inverse.f k aV aa aC aA = some r) :
  Calls Tryz.prog 47 #[.agg #[.slice cC aV.length cD, .string aa, .string aC, .string aA]] w fun e w' => e = .returned (.string r) ∧ Below w.heap.size w w' := by
 have hu62 := Tryz.underlying62;have el := am dN;have fP := am dA;clear dN dA;have HB := am (Below.refl w.heap.size w);have H : ((spec_l2Join.f k (([aa, aC] : List ByteArray))).bind fun ek => (if (aV.length : Int) > 0 then (spec_l2Inverse.j0 k ek true aV aa aC aA) else (spec_l2Inverse.j0 k ek (aA.toList != ([] : List UInt8)) aV aa aC aA))) = some r := h;clear h
 obtain ⟨Pf, AB⟩ : ∃ y_ : List ByteArray, y_ = (([aa, aC] : List ByteArray)) := ⟨_, rfl⟩
 replace H : ((spec_l2Join.f k Pf).bind fun ek => (if (aV.length : Int) > 0 then (spec_l2Inverse.j0 k ek true aV aa aC aA) else (spec_l2Inverse.j0 k ek (aA.toList != ([] : List UInt8)) aV aa aC aA))) = some r := by first | (rw [AB]; with_reducible exact H) | (have H2_ := (Option.bind_some _ _).symm.trans H; rw [AB]; with_reducible exact H2_) | (have H2_ := (Option.bind_some _ _).symm.trans H; with_reducible exact H2_) | with_reducible exact H | (rw [AB]; exact H) | exact H
 have RG := am AB;clear AB;replace H := ob H;obtain ⟨ek, dP, H⟩ := H
 try dsimp only at H
 have A2 := am dP;clear dP;have pK := am H;clear H;go_enter Tryz.func47, Tryz.ntmps47
 go_upto_region 2 with (first | ((with_reducible refine gate_dst (N := 1) rfl ?_); refine box_event ?hg (N := 1) ?hd (cs := #[.slice cC aV.length cD, .string aa, .string aC, .string aA]) (t := 62) ?hr ?_; (case hd => rfl); (case hg => rfl); (case hr => first | (go_simp; done) | (go_simp; rfl)); intro Mr hg w4 hbox hb; have hY := am (hbox); have alP := am (bsz hg au51); have Fe := am (bsz hg au51); replace HB := am (below_step au51 hb); clear hb hbox hg; obtain ⟨uO, uP, uQ, uR, uS, uT, uU, uV⟩ := blkc4 hY.out) | ((with_reducible refine gate_dst (N := 8) rfl ?_); refine Kd.R_lit Kd.string _ 9 ?hg (N := 8) ?hd (xs := ([aa, aC] : List ByteArray)) (inner := [.string aa, .string aC]) (ok := fun _ => True) (okp := fun _ => True) ?hr ?hp (fun _ hk => hk) trivial (Below.refl _ _) (Nat.le_refl _) (by simp) ?_; (case hd => rfl); (case hg => rfl); (case hr => first | (go_simp; done) | (go_simp; rfl)); (case hp => exact (Reps.one (show Kd.M Kd.string _ _ _ aa [.string aa] from rfl) (Reps.one (show Kd.M Kd.string _ _ _ aC [.string aC] from rfl) (Reps.none _ _)))); intro anP w6 ho7 hb hg_ hnew_; clear hg_ hnew_; (first | rw [← RG.out] at ho7 | (simp only [Int.reduceToNat] at ho7; rw [← RG.out] at ho7)); have Ms := am (Kd.R_lower ho7 (below_size au30)); replace hY := am (blk_below (g := Mr) au56 hb); replace HB := am (below_step au30 hb); clear hb ho7; obtain ⟨O2, O3, X9⟩ := Kd.R_slice Ms.out; subst X9) | ((with_reducible refine gate_callee (f := 63) rfl ?_); refine goesL_ (some 9) rfl rfl Tryz.func63 (by kernel_rfl) rfl #[.slice O2 Pf.length O3] rfl au50 ?_; (with_reducible refine (spec_l2Join.calls k _ _ Pf ek _ ?ax ?ay A2.out).mono ?_); (case ax => repeat (first | exact (Kd.R_reads' Ms.out).2.2 | (with_reducible refine Kd.C_alloc ?_ _) | (with_reducible refine Kd.C_drewN ?_ _) | (with_reducible refine Kd.C_drew ?_))); (case ay => exact (Kd.R_reads' Ms.out).2.1); rintro e w' ⟨rfl, ⟨nd, rfl⟩⟩; refine ⟨_, rfl, ?_⟩))
 (try simp only [Act.put, List.setIfInBounds_toArray, List.set_cons_zero, List.set_cons_succ])
 go_cut [18] (fun Xa wc => ∃ (kq : Nat) (ni : Bool), Xa = .bool ni ∧ Aside0 (spec_l2Inverse.j0 kq ek ni aV aa aC aA = some r) ∧ Aside0 (kq ≤ k) ∧ Aside0 (wc.heap[Mr]? = some (.cells #[(.slice cC aV.length cD), .string aa, .string aC, .string aA] 62 (0, 0))) ∧ Aside0 (Below w.heap.size w wc))
 case first =>
  have H := pK.out;clear pK;by_cases c9 : (aV.length : Int) > 0
  ·
   rw [if_pos c9] at H;have c9b0 := dt c9;have c9b1 : decide (0 < aV.length) = true := dt (by omega);clear c9
   (first | rw [c9b0] | (simp only [i64_w, i32_w]; rw [c9b0]) | skip)
   have H' := am H;clear H;obtain ⟨k9, ka, kb, kc, ke, kf, kg, kh⟩ := blkc4 hY.out;go_wp2;go_meet
   case rel => exact ⟨_, (true), au107, H', ⟨by first | omega | exact Nat.le_refl _⟩, ⟨by (with_reducible repeat (first | refine blk_drewN ?_ _ | refine blk_drew ?_ | refine blk_alloc ?_ _)); exact hY.out⟩, ⟨by repeat (first | (with_reducible first | exact HB.out | apply below_alloc | apply pw_below_drewN | apply below_drew1 | refine below_set ?_ Fe.out) | exact HB.out)⟩⟩
  ·
   rw [if_neg c9] at H;have c9b0 := df c9;have c9b1 : decide (0 < aV.length) = false := df (by omega);clear c9
   (first | rw [c9b0] | (simp only [i64_w, i32_w]; rw [c9b0]) | skip)
   have H' := am H;clear H;obtain ⟨fi, fj, fk, fl, fm, fo, fp, fq⟩ := blkc4 hY.out;go_wp2;go_meet
   case rel => exact ⟨_, ((aA.toList != ([] : List UInt8))), (by first | rfl | (simp; done) | (simp [*]; done) | (simp; exact (show ∀ l_ : List UInt8, l_.isEmpty = !(l_ != ([] : List UInt8)) from fun l_ => by cases l_ <;> rfl) _)), H', ⟨by first | omega | exact Nat.le_refl _⟩, ⟨by (with_reducible repeat (first | refine blk_drewN ?_ _ | refine blk_drew ?_ | refine blk_alloc ?_ _)); exact hY.out⟩, ⟨by repeat (first | (with_reducible first | exact HB.out | apply below_alloc | apply pw_below_drewN | apply below_drew1 | refine below_set ?_ Fe.out) | exact HB.out)⟩⟩
 case rest =>
  clear pK
  try clear p2
  try clear c4
  try clear c6
  try clear c9
  try clear c9b0
  try clear c9b1
  try clear k9 ka kb kc ke kf kg kh
  try clear fi fj fk fl fm fo fp fq
  try clear uO uP uQ uR uS uT uU uV
  obtain ⟨kq, ni, rfl, HA, xH, hY, HB⟩ := hcut
  cases kq with
  | zero => exact absurd HA.out (by simp [spec_l2Inverse.j0])
  | succ GK =>
   have H := HA.out;clear HA;simp only [spec_l2Inverse.j0] at H;by_cases cu : ni = true
   ·
    subst cu;replace H := (if_pos rfl).symm.trans H;by_cases bW : ek.size + 2 ≤ 9223372036854775807
    ·
     rw [if_pos bW] at H;have c13b0 := eq_true bW;have c13b1 := dt bW
     try have c13b2 : (9223372036854775807 < ek.size + 2) = False := eq_false (Nat.not_lt.2 bW)
     replace H := ob H;obtain ⟨jj, kW, H⟩ := H
     try dsimp only at H
     have xG := am kW;clear kW;by_cases bV : (ek ++ (⟨#[44, 32]⟩ : ByteArray)).size + jj.size ≤ 9223372036854775807
     ·
      rw [if_pos bV] at H;have c15b0 := eq_true bV;have c15b1 := dt bV
      try have c15b2 : (9223372036854775807 < (ek ++ (⟨#[44, 32]⟩ : ByteArray)).size + jj.size) = False := eq_false (Nat.not_lt.2 bV)
      try have c15x : (9223372036854775807 < ek.size + 2 + jj.size) = False := eq_false (by have z_ := bV; simp only [ByteArray.size_append] at z_; have kV : (⟨#[44, 32]⟩ : ByteArray).size = 2 := rfl; omega)
      by_cases cb : aA.toList = ([] : List UInt8)
      · rw [if_pos cb] at H;have c16b0 := qt cb;have c16b1 := bf cb;clear cb;obtain rfl := ojz H;obtain ⟨ft, fu, fv, fw, fx, fy, fz, fA⟩ := blkc4 hY.out;exact spec_l2Inverse.L0
      ·
       rw [if_neg cb] at H;have c16b0 := qf cb;have c16b1 := bu cb;by_cases jt : ((ek ++ (⟨#[44, 32]⟩ : ByteArray)) ++ jj).size + 2 ≤ 9223372036854775807
       ·
        rw [if_pos jt] at H;have c20b0 := eq_true jt;have c20b1 := dt jt
        try have c20b2 : (9223372036854775807 < ((ek ++ (⟨#[44, 32]⟩ : ByteArray)) ++ jj).size + 2) = False := eq_false (Nat.not_lt.2 jt)
        try have c20x : (9223372036854775807 < ek.size + 2 + jj.size + 2) = False := eq_false (by have z_ := jt; simp only [ByteArray.size_append] at z_; have kV : (⟨#[44, 32]⟩ : ByteArray).size = 2 := rfl; omega)
        by_cases ew : (((ek ++ (⟨#[44, 32]⟩ : ByteArray)) ++ jj) ++ (⟨#[44, 32]⟩ : ByteArray)).size + aA.size ≤ 9223372036854775807
        ·
         rw [if_pos ew] at H;have c21b0 := eq_true ew;have c21b1 := dt ew
         try have c21b2 : (9223372036854775807 < (((ek ++ (⟨#[44, 32]⟩ : ByteArray)) ++ jj) ++ (⟨#[44, 32]⟩ : ByteArray)).size + aA.size) = False := eq_false (Nat.not_lt.2 ew)
         try have c21x : (9223372036854775807 < ek.size + 2 + jj.size + 2 + aA.size) = False := eq_false (by have z_ := ew; simp only [ByteArray.size_append] at z_; have kV : (⟨#[44, 32]⟩ : ByteArray).size = 2 := rfl; omega)
         obtain rfl := ojz H;obtain ⟨jJ, jK, jL, jM, jN, jO, jP, jQ⟩ := blkc4 hY.out;exact spec_l2Inverse.L0
        · rw [if_neg ew] at H;exact absurd H (by simp)
       · rw [if_neg jt] at H;exact absurd H (by simp)
     · rw [if_neg bV] at H;exact absurd H (by simp)
    · rw [if_neg bW] at H;exact absurd H (by simp)
   ·
    replace cu := Bool.eq_false_iff.mpr cu;subst cu;replace H := (if_neg (show ¬ (false = true) by decide)).symm.trans H;by_cases fJ : aA.toList = ([] : List UInt8)
    · rw [if_pos fJ] at H;have c25b0 := qt fJ;have c25b1 := bf fJ;clear fJ;obtain rfl := ojz H;obtain ⟨sG, sH, sI, sJ, sK, sL, sN, sO⟩ := blkc4 hY.out;exact spec_l2Inverse.L0
    ·
     rw [if_neg fJ] at H;have c25b0 := qf fJ;have c25b1 := bu fJ;by_cases ib : ek.size + 2 ≤ 9223372036854775807
     ·
      rw [if_pos ib] at H;have c27b0 := eq_true ib;have c27b1 := dt ib
      try have c27b2 : (9223372036854775807 < ek.size + 2) = False := eq_false (Nat.not_lt.2 ib)
      by_cases fM : (ek ++ (⟨#[44, 32]⟩ : ByteArray)).size + aA.size ≤ 9223372036854775807
      ·
       rw [if_pos fM] at H;have c28b0 := eq_true fM;have c28b1 := dt fM
       try have c28b2 : (9223372036854775807 < (ek ++ (⟨#[44, 32]⟩ : ByteArray)).size + aA.size) = False := eq_false (Nat.not_lt.2 fM)
       try have c28x : (9223372036854775807 < ek.size + 2 + aA.size) = False := eq_false (by have z_ := fM; simp only [ByteArray.size_append] at z_; have kV : (⟨#[44, 32]⟩ : ByteArray).size = 2 := rfl; omega)
       obtain rfl := ojz H;obtain ⟨rP, rQ, rR, rS, rT, rU, rV, rW⟩ := blkc4 hY.out;exact spec_l2Inverse.L0
      · rw [if_neg fM] at H;exact absurd H (by simp)
     · rw [if_neg ib] at H;exact absurd H (by simp)
def spec_l4Names.l0 : Nat → List (S62) → ByteArray → Int → Option (ByteArray)
 | 0, _, _, _ => none
 | k + 1, x0, x3, x4 => if x4 < (x0.length : Int) then (if x4 > 0 then (if x3.size + 2 ≤ 9223372036854775807 then (if 0 ≤ x4 then ((spec_l2Inverse.f k ((rd_T62 x0 x4).f0) ((rd_T62 x0 x4).f1) ((rd_T62 x0 x4).f2) ((rd_T62 x0 x4).f3)).bind fun uW => (if (x3 ++ (⟨#[59, 32]⟩ : ByteArray)).size + uW.size ≤ 9223372036854775807 then (spec_l4Names.l0 k x0 ((x3 ++ (⟨#[59, 32]⟩ : ByteArray)) ++ uW) (wrap64 (x4 + 1))) else (none))) else (none)) else (none)) else (if 0 ≤ x4 then ((spec_l2Inverse.f k ((rd_T62 x0 x4).f0) ((rd_T62 x0 x4).f1) ((rd_T62 x0 x4).f2) ((rd_T62 x0 x4).f3)).bind fun yL => (if x3.size + yL.size ≤ 9223372036854775807 then (spec_l4Names.l0 k x0 (x3 ++ yL) (wrap64 (x4 + 1))) else (none))) else (none))) else (some x3)
def spec_l4Names.f (k : Nat) (l0 : List (S62)) : Option (ByteArray) := spec_l4Names.l0 k l0 (⟨#[]⟩ : ByteArray) 0
theorem spec_l4Names.mono_l : ∀ k, (∀ y0 y1 y2, LeO (spec_l4Names.l0 k y0 y1 y2) (spec_l4Names.l0 (k + 1) y0 y1 y2))
 | 0 => fun _ _ _ r h => by simp [spec_l4Names.l0] at h
 | k + 1 => by
  have ih0 := spec_l4Names.mono_l k
  ·
   intro y0 y1 y2;unfold spec_l4Names.l0
   repeat' first
   | (with_reducible exact ih0 _ _ _)
   | (with_reducible exact spec_l2Inverse.mono _ _ _ _ _)
   | (with_reducible exact LeO.refl _)
   | (with_reducible exact LeO.none _)
   | (with_reducible refine LeO.ite ?_ ?_)
   | (with_reducible refine LeO.bind ?_ (fun _ => ?_))
   | exact ih0 _ _ _
   | exact spec_l2Inverse.mono _ _ _ _ _
   | exact LeO.none _
   | refine LeO.ite ?_ ?_
   | refine LeO.bind ?_ (fun _ => ?_)
theorem spec_l4Names.mono : ∀ a0 k, LeO (spec_l4Names.f k a0) (spec_l4Names.f (k + 1) a0) := by
 intro a0 k;have ih0 := spec_l4Names.mono_l k;unfold spec_l4Names.f
 repeat' first
   | (with_reducible exact ih0 _ _ _)
   | (with_reducible exact spec_l2Inverse.mono _ _ _ _ _)
   | (with_reducible exact LeO.refl _)
   | (with_reducible exact LeO.none _)
   | (with_reducible refine LeO.ite ?_ ?_)
   | (with_reducible refine LeO.bind ?_ (fun _ => ?_))
   | exact ih0 _ _ _
   | exact spec_l2Inverse.mono _ _ _ _ _
   | exact LeO.none _
   | refine LeO.ite ?_ ?_
   | refine LeO.bind ?_ (fun _ => ?_)
set_option maxHeartbeats 8000000 in
set_option maxRecDepth 100000 in
theorem spec_l4Names.calls (k : Nat) (A0 : Option Addr) (c0 : Nat) (l0 : List (S62)) (r : ByteArray) (w : World) (dn : Kd.C k62 w A0 l0.length l0) (d5 : l0.length ≤ c0) (h : spec_l4Names.f k l0 = some r) :
  Calls Tryz.prog 31 #[.slice A0 l0.length c0] w fun e w' => e = .returned (.string r) ∧ Below w.heap.size w w' := by
 have hu62 := Tryz.underlying62;have dM := am dn;have lr := am d5;clear dn d5;have HB := am (Below.refl w.heap.size w);have H : (spec_l4Names.l0 k l0 (⟨#[]⟩ : ByteArray) 0) = some r := h;clear h;have H' := am H;clear H;go_enter Tryz.func31, Tryz.ntmps31;go_wp2
 go_loopg [3, 4] k (fun kq v3 v4 w' => ∃ (aJ : ByteArray) (aU : Int), v3 = .string aJ ∧ v4 = .int .i64 aU ∧ Aside0 (spec_l4Names.l0 kq l0 aJ aU = some r) ∧ Aside0 (kq ≤ k) ∧ Aside0 (Below w.heap.size w w'))
 case atStart => exact ⟨((⟨#[]⟩ : ByteArray)), (0), au107, au107, H', ⟨Nat.le_refl _⟩, ⟨by repeat (first | (with_reducible first | exact HB.out | apply below_alloc | apply pw_below_drewN | apply below_drew1) | exact HB.out)⟩⟩
 case round =>
  clear H';obtain ⟨aJ, aU, rfl, rfl, HA, HK1, HB⟩ := hrel
  cases gk with
  | zero => exact absurd HA.out (by simp [spec_l4Names.l0])
  | succ k1 =>
   have H := HA.out;clear HA;simp only [spec_l4Names.l0] at H;by_cases c2 : aU < (l0.length : Int)
   ·
    rw [if_pos c2] at H;have c2b0 := dt c2;clear c2;by_cases c3 : aU > 0
    ·
     rw [if_pos c3] at H;have c3b0 := dt c3;clear c3;by_cases c4 : aJ.size + 2 ≤ 9223372036854775807
     ·
      rw [if_pos c4] at H;have c4b0 := eq_true c4;have c4b1 := dt c4
      try have c4b2 : (9223372036854775807 < aJ.size + 2) = False := eq_false (Nat.not_lt.2 c4)
      by_cases c5 : 0 ≤ aU
      ·
       rw [if_pos c5] at H;have c5b0 := dt c5;clear c5;replace H := ob H;obtain ⟨uW, fF, H⟩ := H
       try dsimp only at H
       have A6 := am fF;clear fF;by_cases c7 : (aJ ++ (⟨#[59, 32]⟩ : ByteArray)).size + uW.size ≤ 9223372036854775807
       ·
        rw [if_pos c7] at H;have c7b0 := eq_true c7;have c7b1 := dt c7
        try have c7b2 : (9223372036854775807 < (aJ ++ (⟨#[59, 32]⟩ : ByteArray)).size + uW.size) = False := eq_false (Nat.not_lt.2 c7)
        try have c7x : (9223372036854775807 < aJ.size + 2 + uW.size) = False := eq_false (by have z_ := c7; simp only [ByteArray.size_append] at z_; have kV : (⟨#[59, 32]⟩ : ByteArray).size = 2 := rfl; omega)
        have H' := am H;clear H;have Ph : 0 ≤ (aU : Int) := od au106;have Pi : aU < (l0.length : Int) := od au106;obtain ⟨alQ, Xb, Xc, a3M, K4, K5, K6, K7, K8, K9⟩ := at_T62 dM.out aU Ph Pi
        cases a3M
        replace K4 := bcl HB.out K4;replace K5 := bcl HB.out K5;replace K6 := bcl HB.out K6;replace K7 := bcl HB.out K7;have SI := am K9;have SJ := am K8;clear K9 K8;replace Ph := eq_true Ph;replace Pi := eq_true Pi;go_wp2_with (first | ((with_reducible refine gate_callee (f := 47) rfl ?_); refine goesL_ (some 20) rfl rfl Tryz.func47 (by kernel_rfl) rfl #[.agg #[.slice Xb ((rd_T62 l0 aU).f0).length Xc, .string ((rd_T62 l0 aU).f1), .string ((rd_T62 l0 aU).f2), .string ((rd_T62 l0 aU).f3)]] rfl au50 ?_; (with_reducible refine (spec_l2Inverse.calls k1 _ _ ((rd_T62 l0 aU).f0) ((rd_T62 l0 aU).f1) ((rd_T62 l0 aU).f2) ((rd_T62 l0 aU).f3) uW _ ?ax ?ay A6.out).mono ?_); (case ax => repeat (first | exact (Kd.C_below SI.out HB.out) | (with_reducible refine Kd.C_alloc ?_ _) | (with_reducible refine Kd.C_drewN ?_ _) | (with_reducible refine Kd.C_drew ?_))); (case ay => exact SJ.out); rintro e w8 ⟨rfl, hb⟩; refine ⟨_, rfl, ?_⟩; replace HB := am (below_step au51 hb); (try clear hb)))
        go_roundg k1
        case measure => have := HK1.out; omega
        case rel => exact ⟨((aJ ++ (⟨#[59, 32]⟩ : ByteArray)) ++ uW), (wrap64 (aU + 1)), au107, au107, H', ⟨by have := HK1.out; omega⟩, ⟨by repeat (first | (with_reducible first | exact HB.out | apply below_alloc | apply pw_below_drewN | apply below_drew1) | exact HB.out)⟩⟩
       · rw [if_neg c7] at H;exact absurd H (by simp)
      · rw [if_neg c5] at H;exact absurd H (by simp)
     · rw [if_neg c4] at H;exact absurd H (by simp)
    ·
     rw [if_neg c3] at H;have c3b0 := df c3;clear c3;by_cases c9 : 0 ≤ aU
     ·
      rw [if_pos c9] at H;have c9b0 := dt c9;clear c9;replace H := ob H;obtain ⟨yL, er, H⟩ := H
      try dsimp only at H
      have gB := am er;clear er;by_cases bH : aJ.size + yL.size ≤ 9223372036854775807
      ·
       rw [if_pos bH] at H;have c11b0 := eq_true bH;have c11b1 := dt bH
       try have c11b2 : (9223372036854775807 < aJ.size + yL.size) = False := eq_false (Nat.not_lt.2 bH)
       have H' := am H;clear H;have Pj : 0 ≤ (aU : Int) := od au106;have Pk : aU < (l0.length : Int) := od au106;obtain ⟨alR, Xd, Xe, a3N, Ka, Kb, Ke, Kf, Kg, Kh⟩ := at_T62 dM.out aU Pj Pk
       cases a3N
       replace Ka := bcl HB.out Ka;replace Kb := bcl HB.out Kb;replace Ke := bcl HB.out Ke;replace Kf := bcl HB.out Kf;have SK := am Kh;have SL := am Kg;clear Kh Kg;replace Pj := eq_true Pj;replace Pk := eq_true Pk;go_wp2_with (first | ((with_reducible refine gate_callee (f := 47) rfl ?_); refine goesL_ (some 20) rfl rfl Tryz.func47 (by kernel_rfl) rfl #[.agg #[.slice Xd ((rd_T62 l0 aU).f0).length Xe, .string ((rd_T62 l0 aU).f1), .string ((rd_T62 l0 aU).f2), .string ((rd_T62 l0 aU).f3)]] rfl au50 ?_; (with_reducible refine (spec_l2Inverse.calls k1 _ _ ((rd_T62 l0 aU).f0) ((rd_T62 l0 aU).f1) ((rd_T62 l0 aU).f2) ((rd_T62 l0 aU).f3) yL _ ?ax ?ay gB.out).mono ?_); (case ax => repeat (first | exact (Kd.C_below SK.out HB.out) | (with_reducible refine Kd.C_alloc ?_ _) | (with_reducible refine Kd.C_drewN ?_ _) | (with_reducible refine Kd.C_drew ?_))); (case ay => exact SL.out); rintro e Aw ⟨rfl, hb⟩; refine ⟨_, rfl, ?_⟩; replace HB := am (below_step au51 hb); (try clear hb)))
       go_roundg k1
       case measure => have := HK1.out; omega
       case rel => exact ⟨(aJ ++ yL), (wrap64 (aU + 1)), au107, au107, H', ⟨by have := HK1.out; omega⟩, ⟨by repeat (first | (with_reducible first | exact HB.out | apply below_alloc | apply pw_below_drewN | apply below_drew1) | exact HB.out)⟩⟩
      · rw [if_neg bH] at H;exact absurd H (by simp)
     · rw [if_neg c9] at H;exact absurd H (by simp)
   · rw [if_neg c2] at H;have c2b0 := df c2;clear c2;obtain rfl := ojz H;go_wp2;go_ret;exact ax1
def spec_l1Num.f : Nat → Int → Option (ByteArray)
 | 0, _ => none
 | k + 1, a0 => if a0 < 0 then ((spec_l1Num.f k (wrap64 (-a0))).bind fun u1 => (if 1 + u1.size ≤ 9223372036854775807 then (some ((⟨#[45]⟩ : ByteArray) ++ u1)) else (none))) else (if a0 < 10 then (if 0 ≤ a0 then (if a0 ≤ (wrap64 (a0 + 1)) then (if (wrap64 (a0 + 1)) ≤ 10 then (some ((⟨#[48, 49, 50, 51, 52, 53, 54, 55, 56, 57]⟩ : ByteArray).extract (a0 : Int).toNat ((wrap64 (a0 + 1)) : Int).toNat)) else (none)) else (none)) else (none)) else ((spec_l1Num.f k (wrap64 (Int.tdiv a0 10))).bind fun mX => (if 0 ≤ (Int.tmod a0 10) then (if (Int.tmod a0 10) ≤ (wrap64 ((Int.tmod a0 10) + 1)) then (if (wrap64 ((Int.tmod a0 10) + 1)) ≤ 10 then (if mX.size + ((⟨#[48, 49, 50, 51, 52, 53, 54, 55, 56, 57]⟩ : ByteArray).extract ((Int.tmod a0 10) : Int).toNat ((wrap64 ((Int.tmod a0 10) + 1)) : Int).toNat).size ≤ 9223372036854775807 then (some (mX ++ ((⟨#[48, 49, 50, 51, 52, 53, 54, 55, 56, 57]⟩ : ByteArray).extract ((Int.tmod a0 10) : Int).toNat ((wrap64 ((Int.tmod a0 10) + 1)) : Int).toNat))) else (none)) else (none)) else (none)) else (none))))
theorem spec_l1Num.mono_l : ∀ k, (∀ y0, LeO (spec_l1Num.f k y0) (spec_l1Num.f (k + 1) y0))
 | 0 => fun _ r h => by simp [spec_l1Num.f] at h
 | k + 1 => by
  have ih0 := spec_l1Num.mono_l k
  ·
   intro y0;unfold spec_l1Num.f
   repeat' first
   | (with_reducible exact ih0 _)
   | (with_reducible exact LeO.refl _)
   | (with_reducible exact LeO.none _)
   | (with_reducible refine LeO.ite ?_ ?_)
   | (with_reducible refine LeO.bind ?_ (fun _ => ?_))
   | exact ih0 _
   | exact LeO.none _
   | refine LeO.ite ?_ ?_
   | refine LeO.bind ?_ (fun _ => ?_)
theorem spec_l1Num.mono : ∀ a0 k, LeO (spec_l1Num.f k a0) (spec_l1Num.f (k + 1) a0) := by
 intro a0 k;have ih0 := spec_l1Num.mono_l k;exact ih0 a0
def spec_l1Num.T5 : Bool × List (List Nat × List Nat) := (true, [([], []), ([0], [0]), ([1], [1]), ([], []), ([3], [3]), ([], []), ([5], [5]), ([6], [6]), ([4, 7], [4, 7]), ([2, 8], [2, 8]), ([9, 2, 0, 1, 2, 3, 4, 5, 6, 7, 8, 9], [9])])
def spec_l1Num.B5 : List Nat := [0, 1, 3, 0, 8, 0, 32, 96, 248, 511, 1023]
theorem spec_l1Num.tab5 : rtab .any (opsOf Tryz.f33 5) = spec_l1Num.T5 := by kernel_rfl
theorem spec_l1Num.bits5 : waitsOk spec_l1Num.T5.2 spec_l1Num.B5 = true := by kernel_rfl
set_option maxHeartbeats 8000000 in
set_option maxRecDepth 100000 in
theorem spec_l1Num.calls (k : Nat) : ∀ (a0 : Int) (r : ByteArray) (w : World) (h : spec_l1Num.f k a0 = some r),
  Calls Tryz.prog 33 #[.int .i64 a0] w fun e w' => e = .returned (.string r) ∧ Below w.heap.size w w' := by
 induction k using Nat.strongRecOn with
 | _ k ih =>
 intro a0 r w h
 cases k with
 | zero => exact absurd h (by simp [spec_l1Num.f])
 | succ k =>
 simp only [spec_l1Num.f] at h;have HB := am (Below.refl w.heap.size w);have H : (if a0 < 0 then ((spec_l1Num.f k (wrap64 (-a0))).bind fun u1 => (if 1 + u1.size ≤ 9223372036854775807 then (some ((⟨#[45]⟩ : ByteArray) ++ u1)) else (none))) else (if a0 < 10 then (if 0 ≤ a0 then (if a0 ≤ (wrap64 (a0 + 1)) then (if (wrap64 (a0 + 1)) ≤ 10 then (some ((⟨#[48, 49, 50, 51, 52, 53, 54, 55, 56, 57]⟩ : ByteArray).extract (a0 : Int).toNat ((wrap64 (a0 + 1)) : Int).toNat)) else (none)) else (none)) else (none)) else ((spec_l1Num.f k (wrap64 (Int.tdiv a0 10))).bind fun mX => (if 0 ≤ (Int.tmod a0 10) then (if (Int.tmod a0 10) ≤ (wrap64 ((Int.tmod a0 10) + 1)) then (if (wrap64 ((Int.tmod a0 10) + 1)) ≤ 10 then (if mX.size + ((⟨#[48, 49, 50, 51, 52, 53, 54, 55, 56, 57]⟩ : ByteArray).extract ((Int.tmod a0 10) : Int).toNat ((wrap64 ((Int.tmod a0 10) + 1)) : Int).toNat).size ≤ 9223372036854775807 then (some (mX ++ ((⟨#[48, 49, 50, 51, 52, 53, 54, 55, 56, 57]⟩ : ByteArray).extract ((Int.tmod a0 10) : Int).toNat ((wrap64 ((Int.tmod a0 10) + 1)) : Int).toNat))) else (none)) else (none)) else (none)) else (none))))) = some r := h;clear h;by_cases c2 : a0 < 0
 ·
  rw [if_pos c2] at H;have c2b0 := dt c2;clear c2;replace H := ob H;obtain ⟨u1, d6, H⟩ := H
  try dsimp only at H
  have A3 := am d6;clear d6;by_cases c4 : 1 + u1.size ≤ 9223372036854775807
  ·
   rw [if_pos c4] at H;have c4b0 := eq_true c4;have c4b1 := dt c4
   try have c4b2 : (9223372036854775807 < 1 + u1.size) = False := eq_false (Nat.not_lt.2 c4)
   obtain rfl := ojz H;go_enter Tryz.func33, Tryz.ntmps33;go_wp2_with (first | ((with_reducible refine gate_callee (f := 33) rfl ?_); refine goesL_ (some 7) rfl rfl Tryz.func33 (by kernel_rfl) rfl #[.int .i64 (wrap64 (-a0))] rfl au50 ?_; (with_reducible refine (ih k (by omega) (wrap64 (-a0)) u1 _ A3.out).mono ?_); rintro e w5 ⟨rfl, hb⟩; refine ⟨_, rfl, ?_⟩; replace HB := am (below_step au51 hb); (try clear hb)));go_ret;exact ax1
  · rw [if_neg c4] at H;exact absurd H (by simp)
 ·
  rw [if_neg c2] at H;have c2b0 := df c2;clear c2;by_cases c6 : a0 < 10
  ·
   rw [if_pos c6] at H;have c6b0 := dt c6;clear c6;by_cases c7 : 0 ≤ a0
   ·
    rw [if_pos c7] at H;have c7b0 := eq_true c7;have c7b1 := dt c7;clear c7;by_cases c8 : a0 ≤ (wrap64 (a0 + 1))
    ·
     rw [if_pos c8] at H;have c8b0 := eq_true c8;have c8b1 := dt c8;by_cases c9 : (wrap64 (a0 + 1)) ≤ 10
     · rw [if_pos c9] at H;have c9b0 := eq_true c9;have c9b1 := dt c9;obtain rfl := ojz H;go_enter Tryz.func33, Tryz.ntmps33;go_wp2;go_ret;exact ax1
     · rw [if_neg c9] at H;exact absurd H (by simp)
    · rw [if_neg c8] at H;exact absurd H (by simp)
   · rw [if_neg c7] at H;exact absurd H (by simp)
  ·
   rw [if_neg c6] at H;have c6b0 := df c6;clear c6;replace H := ob H;obtain ⟨mX, er, H⟩ := H
   try dsimp only at H
   have gB := am er;clear er
   obtain ⟨hD, Fq⟩ : ∃ j_ : Int, (Int.tmod a0 10) = j_ := ⟨_, rfl⟩
   replace H : (if 0 ≤ (hD) then (if (hD) ≤ (wrap64 ((hD) + 1)) then (if (wrap64 ((hD) + 1)) ≤ 10 then (if mX.size + ((⟨#[48, 49, 50, 51, 52, 53, 54, 55, 56, 57]⟩ : ByteArray).extract ((hD) : Int).toNat ((wrap64 ((hD) + 1)) : Int).toNat).size ≤ 9223372036854775807 then (some (mX ++ ((⟨#[48, 49, 50, 51, 52, 53, 54, 55, 56, 57]⟩ : ByteArray).extract ((hD) : Int).toNat ((wrap64 ((hD) + 1)) : Int).toNat))) else (none)) else (none)) else (none)) else (none)) = some r := by first | (rw [Fq] at H; exact H) | (simp only [Fq] at H ⊢; exact H)
   (try rw [Fq] at gB)
   by_cases cu : 0 ≤ (hD)
   ·
    rw [if_pos cu] at H;have c12b0 := eq_true cu;have c12b1 := dt cu;clear cu;by_cases bW : (hD) ≤ (wrap64 ((hD) + 1))
    ·
     rw [if_pos bW] at H;have c13b0 := eq_true bW;have c13b1 := dt bW;by_cases cO : (wrap64 ((hD) + 1)) ≤ 10
     ·
      rw [if_pos cO] at H;have c14b0 := eq_true cO;have c14b1 := dt cO;by_cases bV : mX.size + ((⟨#[48, 49, 50, 51, 52, 53, 54, 55, 56, 57]⟩ : ByteArray).extract ((hD) : Int).toNat ((wrap64 ((hD) + 1)) : Int).toNat).size ≤ 9223372036854775807
      ·
       rw [if_pos bV] at H;have c15b0 := eq_true bV;have c15b1 := dt bV
       try have c15b2 : (9223372036854775807 < mX.size + ((⟨#[48, 49, 50, 51, 52, 53, 54, 55, 56, 57]⟩ : ByteArray).extract ((hD) : Int).toNat ((wrap64 ((hD) + 1)) : Int).toNat).size) = False := eq_false (Nat.not_lt.2 bV)
       try have c15x : (9223372036854775807 < mX.size + (((wrap64 ((hD) + 1)) : Int).toNat - ((hD) : Int).toNat)) = False := eq_false (by have z_ := bV; have hsz_ : (⟨#[48, 49, 50, 51, 52, 53, 54, 55, 56, 57]⟩ : ByteArray).size = 10 := rfl; rw [ByteArray.size_extract, hsz_] at z_; omega)
       obtain rfl := ojz H;go_enter Tryz.func33, Tryz.ntmps33
       try go_wp2
       replace HB := am (below_drew1 HB.out);refine start_ (n := 11) (S := fun w' => True) (ds := []) #[false, false, false, false, false, false, false, false, false, false, false] (by kernel_rfl) rfl rfl trivial (fun hHeld => ?_); refine with_tabW spec_l1Num.tab5 spec_l1Num.bits5 (fun HT_ HW_ => ?_);generalize w.drew = O1 at HB hHeld ⊢;refine pu_ 0 (some 15) #[true, false, false, false, false, false, false, false, false, false, false] HT_.out ?_;refine pu_ 1 (some 16) #[true, true, false, false, false, false, false, false, false, false, false] HT_.out ?_;refine pu_ 3 (some 18) #[true, true, false, true, false, false, false, false, false, false, false] HT_.out ?_;refine pu_ 4 (some 19) #[true, true, false, true, true, false, false, false, false, false, false] HT_.out ?_;refine pu_ 5 (some 20) #[true, true, false, true, true, true, false, false, false, false, false] HT_.out ?_;refine pu_ 6 (some 21) #[true, true, false, true, true, true, true, false, false, false, false] HT_.out ?_;refine pu_ 7 (some 22) #[true, true, false, true, true, true, true, true, false, false, false] HT_.out ?_;refine pu_ 8 (some 23) #[true, true, false, true, true, true, true, true, true, false, false] HT_.out ?_;refine on_ 2 (some 17) #[true, true, true, true, true, true, true, true, true, false, false] HT_.out (fun K hK => ?_);refine gs_ Tryz.func33 #[.int .i64 (wrap64 (Int.tdiv a0 10))] ?_
       with_reducible refine (ih k (by omega) (wrap64 (Int.tdiv a0 10)) mX _ gB.out).mono ?_
       rintro e Js ⟨rfl, hb⟩;refine ⟨_, rfl, ?_⟩;replace HB := am (below_step au51 hb)
       (try clear hb)
       refine hK.out _ _ trivial (fun hHeld => ?_);clear hK K;refine no_ (some 17) ?_;refine pu_ 9 (some 24) #[true, true, true, true, true, true, true, true, true, true, false] HT_.out ?_;refine pu_ 10 (some 2) #[true, true, true, true, true, true, true, true, true, true, true] HT_.out ?_;refine done_ (done_of HT_.out (by kernel_rfl)) ?_
       try go_wp2
       go_ret;exact ⟨by first | rfl | (simp [errW_none, errW_some] <;> rfl) | (simp only [← Fq]; first | rfl | (simp [errW_none, errW_some] <;> rfl)) | (simp [*, errW_none, errW_some] <;> rfl), by repeat (first | (with_reducible first | exact HB.out | apply below_alloc | apply pw_below_drewN | apply below_drew1) | exact HB.out)⟩
      · rw [if_neg bV] at H;exact absurd H (by simp)
     · rw [if_neg cO] at H;exact absurd H (by simp)
    · rw [if_neg bW] at H;exact absurd H (by simp)
   · rw [if_neg cu] at H;exact absurd H (by simp)
def spec_l3Pad.l0 : Nat → Int → ByteArray → Option (ByteArray)
 | 0, _, _ => none
 | k + 1, x1, x5 => if (x5.size : Int) < x1 then (if 1 + x5.size ≤ 9223372036854775807 then (spec_l3Pad.l0 k x1 ((⟨#[48]⟩ : ByteArray) ++ x5)) else (none)) else (some x5)
def spec_l3Pad.f (k : Nat) (a0 : Int) (a1 : Int) : Option (ByteArray) := (spec_l1Num.f k a0).bind fun Cw => (spec_l3Pad.l0 k a1 Cw)
theorem spec_l3Pad.mono_l : ∀ k, (∀ y0 y1, LeO (spec_l3Pad.l0 k y0 y1) (spec_l3Pad.l0 (k + 1) y0 y1))
 | 0 => fun _ _ r h => by simp [spec_l3Pad.l0] at h
 | k + 1 => by
  have ih0 := spec_l3Pad.mono_l k
  ·
   intro y0 y1;unfold spec_l3Pad.l0
   repeat' first
   | (with_reducible exact ih0 _ _)
   | (with_reducible exact spec_l1Num.mono _ _)
   | (with_reducible exact LeO.refl _)
   | (with_reducible exact LeO.none _)
   | (with_reducible refine LeO.ite ?_ ?_)
   | (with_reducible refine LeO.bind ?_ (fun _ => ?_))
   | exact ih0 _ _
   | exact spec_l1Num.mono _ _
   | exact LeO.none _
   | refine LeO.ite ?_ ?_
   | refine LeO.bind ?_ (fun _ => ?_)
theorem spec_l3Pad.mono : ∀ a0 a1 k, LeO (spec_l3Pad.f k a0 a1) (spec_l3Pad.f (k + 1) a0 a1) := by
 intro a0 a1 k;have ih0 := spec_l3Pad.mono_l k;unfold spec_l3Pad.f
 repeat' first
   | (with_reducible exact ih0 _ _)
   | (with_reducible exact spec_l1Num.mono _ _)
   | (with_reducible exact LeO.refl _)
   | (with_reducible exact LeO.none _)
   | (with_reducible refine LeO.ite ?_ ?_)
   | (with_reducible refine LeO.bind ?_ (fun _ => ?_))
   | exact ih0 _ _
   | exact spec_l1Num.mono _ _
   | exact LeO.none _
   | refine LeO.ite ?_ ?_
   | refine LeO.bind ?_ (fun _ => ?_)
set_option maxHeartbeats 8000000 in
set_option maxRecDepth 100000 in
theorem spec_l3Pad.calls (k : Nat) (a0 : Int) (a1 : Int) (r : ByteArray) (w : World) (h : spec_l3Pad.f k a0 a1 = some r) :
  Calls Tryz.prog 48 #[.int .i64 a0, .int .i64 a1] w fun e w' => e = .returned (.string r) ∧ Below w.heap.size w w' := by
 have HB := am (Below.refl w.heap.size w);have H : ((spec_l1Num.f k a0).bind fun Cw => (spec_l3Pad.l0 k a1 Cw)) = some r := h;clear h;replace H := ob H;obtain ⟨Cw, d6, H⟩ := H
 try dsimp only at H
 have A3 := am d6;clear d6;have H' := am H;clear H;go_enter Tryz.func48, Tryz.ntmps48;go_wp2_with (first | ((with_reducible refine gate_callee (f := 33) rfl ?_); refine goesL_ (some 7) rfl rfl Tryz.func33 (by kernel_rfl) rfl #[.int .i64 a0] rfl au50 ?_; (with_reducible refine (spec_l1Num.calls k a0 Cw _ A3.out).mono ?_); rintro e w4 ⟨rfl, hb⟩; refine ⟨_, rfl, ?_⟩; replace HB := am (below_step au51 hb); (try clear hb)))
 go_loopg [5] k (fun kq v5 w' => ∃ (az : ByteArray), v5 = .string az ∧ Aside0 (spec_l3Pad.l0 kq a1 az = some r) ∧ Aside0 (kq ≤ k) ∧ Aside0 (Below w.heap.size w w'))
 case atStart => exact ⟨(Cw), au107, H', ⟨Nat.le_refl _⟩, ⟨by repeat (first | (with_reducible first | exact HB.out | apply below_alloc | apply pw_below_drewN | apply below_drew1) | exact HB.out)⟩⟩
 case round =>
  clear H'
  try clear p2
  try clear c3
  try clear c4
  obtain ⟨az, rfl, HA, HK1, HB⟩ := hrel
  cases gk with
  | zero => exact absurd HA.out (by simp [spec_l3Pad.l0])
  | succ k1 =>
   have H := HA.out;clear HA;simp only [spec_l3Pad.l0] at H;by_cases c5 : (az.size : Int) < a1
   ·
    rw [if_pos c5] at H;have c5b0 := dt c5;clear c5;by_cases c6 : 1 + az.size ≤ 9223372036854775807
    ·
     rw [if_pos c6] at H;have c6b0 := eq_true c6;have c6b1 := dt c6
     try have c6b2 : (9223372036854775807 < 1 + az.size) = False := eq_false (Nat.not_lt.2 c6)
     have H' := am H;clear H;go_wp2
     go_roundg k1
     case measure => have := HK1.out; omega
     case rel => exact ⟨((⟨#[48]⟩ : ByteArray) ++ az), au107, H', ⟨by have := HK1.out; omega⟩, ⟨by repeat (first | (with_reducible first | exact HB.out | apply below_alloc | apply pw_below_drewN | apply below_drew1) | exact HB.out)⟩⟩
    · rw [if_neg c6] at H;exact absurd H (by simp)
   · rw [if_neg c5] at H;have c5b0 := df c5;clear c5;obtain rfl := ojz H;go_wp2;go_ret;exact ax1
def spec_l3Text.j0 : Nat → ByteArray → Int → Int → Int → Bool → Option (ByteArray)
 | 0, _, _, _, _, _ => none
 | k + 1, x3, abT, abU, Ki, Kj => if Ki > 0 then (if x3.size + 1 ≤ 9223372036854775807 then ((spec_l3Pad.f k Ki 2).bind fun mY => (if (x3 ++ (⟨#[45]⟩ : ByteArray)).size + mY.size ≤ 9223372036854775807 then (if Kj = true then (if 1 + ((x3 ++ (⟨#[45]⟩ : ByteArray)) ++ mY).size ≤ 9223372036854775807 then (some ((⟨#[99]⟩ : ByteArray) ++ ((x3 ++ (⟨#[45]⟩ : ByteArray)) ++ mY))) else (none)) else (some ((x3 ++ (⟨#[45]⟩ : ByteArray)) ++ mY))) else (none))) else (none)) else (if Kj = true then (if 1 + x3.size ≤ 9223372036854775807 then (some ((⟨#[99]⟩ : ByteArray) ++ x3)) else (none)) else (some x3))
def spec_l3Text.f (k : Nat) (ab : Int) (aa : Int) (aC : Int) (aA : Bool) : Option (ByteArray) := if ab = 0 then (some (⟨#[117, 110, 107, 110, 111, 119, 110]⟩ : ByteArray)) else ((spec_l3Pad.f k ab 4).bind fun hJ => (if aa > 0 then (if hJ.size + 1 ≤ 9223372036854775807 then ((spec_l3Pad.f k aa 2).bind fun pL => (if (hJ ++ (⟨#[45]⟩ : ByteArray)).size + pL.size ≤ 9223372036854775807 then (spec_l3Text.j0 k ((hJ ++ (⟨#[45]⟩ : ByteArray)) ++ pL) ab aa aC aA) else (none))) else (none)) else (spec_l3Text.j0 k hJ ab aa aC aA)))
theorem spec_l3Text.mono_l : ∀ k, (∀ y0 y1 y2 y3 y4, LeO (spec_l3Text.j0 k y0 y1 y2 y3 y4) (spec_l3Text.j0 (k + 1) y0 y1 y2 y3 y4))
 | 0 => fun _ _ _ _ _ r h => by simp [spec_l3Text.j0] at h
 | k + 1 => by
  have ih0 := spec_l3Text.mono_l k
  ·
   intro y0 y1 y2 y3 y4;unfold spec_l3Text.j0
   repeat' first
   | (with_reducible exact ih0 _ _ _ _ _)
   | (with_reducible exact spec_l3Pad.mono _ _ _)
   | (with_reducible exact LeO.refl _)
   | (with_reducible exact LeO.none _)
   | (with_reducible refine LeO.ite ?_ ?_)
   | (with_reducible refine LeO.bind ?_ (fun _ => ?_))
   | exact ih0 _ _ _ _ _
   | exact spec_l3Pad.mono _ _ _
   | exact LeO.none _
   | refine LeO.ite ?_ ?_
   | refine LeO.bind ?_ (fun _ => ?_)
theorem spec_l3Text.mono : ∀ a0 a1 a2 a3 k, LeO (spec_l3Text.f k a0 a1 a2 a3) (spec_l3Text.f (k + 1) a0 a1 a2 a3) := by
 intro a0 a1 a2 a3 k;have ih0 := spec_l3Text.mono_l k;unfold spec_l3Text.f
 repeat' first
   | (with_reducible exact ih0 _ _ _ _ _)
   | (with_reducible exact spec_l3Pad.mono _ _ _)
   | (with_reducible exact LeO.refl _)
   | (with_reducible exact LeO.none _)
   | (with_reducible refine LeO.ite ?_ ?_)
   | (with_reducible refine LeO.bind ?_ (fun _ => ?_))
   | exact ih0 _ _ _ _ _
   | exact spec_l3Pad.mono _ _ _
   | exact LeO.none _
   | refine LeO.ite ?_ ?_
   | refine LeO.bind ?_ (fun _ => ?_)
set_option maxRecDepth 100000 in
theorem spec_l3Text.L0 {P : Prop} (h : P := by
  go_wp2_with (first | ((with_reducible refine gate_callee (f := 48) rfl ?_); refine goesL_ (some 26) rfl rfl Tryz.func48 (by kernel_rfl) rfl #[.int .i64 aC, .int .i64 2] rfl au50 ?_; (with_reducible refine (spec_l3Pad.calls uz aC 2 mY _ Xf.out).mono ?_); rintro e w24 ⟨rfl, hb⟩; refine ⟨_, rfl, ?_⟩; replace fC := am (blk_below (g := AC) au57 hb); replace HB := am (below_step au31 hb); (try clear hb); obtain ⟨SN, SO, SP, SQ, SR, SS, SU, SV⟩ := blkc4 fC.out));go_ret
  exact ⟨by first | rfl | (simp [errW_none, errW_some] <;> rfl) | (simp [*, errW_none, errW_some] <;> rfl), by repeat (first | (with_reducible first | exact HB.out | apply below_alloc | apply pw_below_drewN | apply below_drew1 | refine below_set ?_ vF.out) | exact HB.out)⟩) : P := h
set_option maxHeartbeats 8000000 in
set_option maxRecDepth 100000 in
theorem spec_l3Text.calls (k : Nat) (ab : Int) (aa : Int) (aC : Int) (aA : Bool) (r : ByteArray) (w : World) (h : spec_l3Text.f k ab aa aC aA = some r) :
  Calls Tryz.prog 32 #[.agg #[.int .i64 ab, .int .i64 aa, .int .i64 aC, .bool aA]] w fun e w' => e = .returned (.string r) ∧ Below w.heap.size w w' := by
 have hu32 := Tryz.underlying32;have HB := am (Below.refl w.heap.size w);have H : (if ab = 0 then (some (⟨#[117, 110, 107, 110, 111, 119, 110]⟩ : ByteArray)) else ((spec_l3Pad.f k ab 4).bind fun hJ => (if aa > 0 then (if hJ.size + 1 ≤ 9223372036854775807 then ((spec_l3Pad.f k aa 2).bind fun pL => (if (hJ ++ (⟨#[45]⟩ : ByteArray)).size + pL.size ≤ 9223372036854775807 then (spec_l3Text.j0 k ((hJ ++ (⟨#[45]⟩ : ByteArray)) ++ pL) ab aa aC aA) else (none))) else (none)) else (spec_l3Text.j0 k hJ ab aa aC aA)))) = some r := h;clear h;by_cases c2 : ab = 0
 · rw [if_pos c2] at H;have c2b0 := qt c2;have c2b1 := bf c2;clear c2;obtain rfl := ojz H;go_enter Tryz.func32, Tryz.ntmps32;go_wp2_with (first | ((with_reducible refine gate_dst (N := 1) rfl ?_); refine box_event ?hg (N := 1) ?hd (cs := #[.int .i64 ab, .int .i64 aa, .int .i64 aC, .bool aA]) (t := 32) ?hr ?_; (case hd => rfl); (case hg => rfl); (case hr => first | (go_simp; done) | (go_simp; rfl)); intro AC hg w3 hbox hb; have fC := am (hbox); have a07 := am (bsz hg au51); have vF := am (bsz hg au51); replace HB := am (below_step au51 hb); clear hb hbox hg; obtain ⟨fU, fV, fW, fX, fY, fZ, ga, ge⟩ := blkc4 fC.out));go_ret;exact ⟨by first | rfl | (simp [errW_none, errW_some] <;> rfl) | (simp [*, errW_none, errW_some] <;> rfl), by repeat (first | (with_reducible first | exact HB.out | apply below_alloc | apply pw_below_drewN | apply below_drew1 | refine below_set ?_ vF.out) | exact HB.out)⟩
 ·
  rw [if_neg c2] at H;have c2b0 := qf c2;have c2b1 := bu c2;replace H := ob H;obtain ⟨hJ, mJ, H⟩ := H
  try dsimp only at H
  have A5 := am mJ;clear mJ;have uX := am H;clear H;go_enter Tryz.func32, Tryz.ntmps32
  go_upto_if 12 with (first | ((with_reducible refine gate_dst (N := 1) rfl ?_); refine box_event ?hg (N := 1) ?hd (cs := #[.int .i64 ab, .int .i64 aa, .int .i64 aC, .bool aA]) (t := 32) ?hr ?_; (case hd => rfl); (case hg => rfl); (case hr => first | (go_simp; done) | (go_simp; rfl)); intro AC hg w7 hbox hb; have fC := am (hbox); have a07 := am (bsz hg au51); have vF := am (bsz hg au51); replace HB := am (below_step au51 hb); clear hb hbox hg; obtain ⟨sP, sQ, sR, sS, mL, mM, mN, mO⟩ := blkc4 fC.out) | ((with_reducible refine gate_callee (f := 48) rfl ?_); refine goesL_ (some 9) rfl rfl Tryz.func48 (by kernel_rfl) rfl #[.int .i64 ab, .int .i64 4] rfl au50 ?_; (with_reducible refine (spec_l3Pad.calls k ab 4 hJ _ A5.out).mono ?_); rintro e w9 ⟨rfl, hb⟩; refine ⟨_, rfl, ?_⟩; replace fC := am (blk_below (g := AC) au57 hb); replace HB := am (below_step au31 hb); (try clear hb); obtain ⟨k9, ka, kb, kc, ke, kf, kg, kh⟩ := blkc4 fC.out))
  (try simp only [Act.put, List.setIfInBounds_toArray, List.set_cons_zero, List.set_cons_succ])
  go_cut [3] (fun v3 wc => ∃ (kq : Nat) (et : ByteArray), v3 = .string et ∧ Aside0 (spec_l3Text.j0 kq et ab aa aC aA = some r) ∧ Aside0 (kq ≤ k) ∧ Aside0 (wc.heap[AC]? = some (.cells #[.int .i64 ab, .int .i64 aa, .int .i64 aC, .bool aA] 32 (0, 0))) ∧ Aside0 (Below w.heap.size w wc))
  case first =>
   have H := uX.out;clear uX;by_cases bH : aa > 0
   ·
    rw [if_pos bH] at H;have c11b0 := dt bH;clear bH
    (first | rw [c11b0] | (simp only [i64_w, i32_w]; rw [c11b0]) | skip)
    by_cases cu : hJ.size + 1 ≤ 9223372036854775807
    ·
     rw [if_pos cu] at H;have c12b0 := eq_true cu;have c12b1 := dt cu
     try have c12b2 : (9223372036854775807 < hJ.size + 1) = False := eq_false (Nat.not_lt.2 cu)
     replace H := ob H;obtain ⟨pL, kS, H⟩ := H
     try dsimp only at H
     have uH := am kS;clear kS;by_cases cO : (hJ ++ (⟨#[45]⟩ : ByteArray)).size + pL.size ≤ 9223372036854775807
     ·
      rw [if_pos cO] at H;have c14b0 := eq_true cO;have c14b1 := dt cO
      try have c14b2 : (9223372036854775807 < (hJ ++ (⟨#[45]⟩ : ByteArray)).size + pL.size) = False := eq_false (Nat.not_lt.2 cO)
      try have c14x : (9223372036854775807 < hJ.size + 1 + pL.size) = False := eq_false (by have z_ := cO; simp only [ByteArray.size_append] at z_; have kV : (⟨#[45]⟩ : ByteArray).size = 1 := rfl; omega)
      have H' := am H;clear H;obtain ⟨eK, eL, eM, eN, eO, eP, eQ, eR⟩ := blkc4 fC.out;go_wp2_with (first | ((with_reducible refine gate_callee (f := 48) rfl ?_); refine goesL_ (some 17) rfl rfl Tryz.func48 (by kernel_rfl) rfl #[.int .i64 aa, .int .i64 2] rfl au50 ?_; (with_reducible refine (spec_l3Pad.calls k aa 2 pL _ uH.out).mono ?_); rintro e O1 ⟨rfl, hb⟩; refine ⟨_, rfl, ?_⟩; replace fC := am (blk_below (g := AC) au57 hb); replace HB := am (below_step au31 hb); (try clear hb)));go_meet
      case rel => exact ⟨_, ((hJ ++ (⟨#[45]⟩ : ByteArray)) ++ pL), au107, H', ⟨by first | omega | exact Nat.le_refl _⟩, ⟨by (with_reducible repeat (first | refine blk_drewN ?_ _ | refine blk_drew ?_ | refine blk_alloc ?_ _)); exact fC.out⟩, ⟨by repeat (first | (with_reducible first | exact HB.out | apply below_alloc | apply pw_below_drewN | apply below_drew1 | refine below_set ?_ vF.out) | exact HB.out)⟩⟩
     · rw [if_neg cO] at H;exact absurd H (by simp)
    · rw [if_neg cu] at H;exact absurd H (by simp)
   ·
    rw [if_neg bH] at H;have c11b0 := df bH;clear bH
    (first | rw [c11b0] | (simp only [i64_w, i32_w]; rw [c11b0]) | skip)
    have H' := am H;clear H;go_wp2;go_meet
    case rel => exact ⟨_, (hJ), au107, H', ⟨by first | omega | exact Nat.le_refl _⟩, ⟨by (with_reducible repeat (first | refine blk_drewN ?_ _ | refine blk_drew ?_ | refine blk_alloc ?_ _)); exact fC.out⟩, ⟨by repeat (first | (with_reducible first | exact HB.out | apply below_alloc | apply pw_below_drewN | apply below_drew1 | refine below_set ?_ vF.out) | exact HB.out)⟩⟩
  case rest =>
   clear uX
   try clear c1
   try clear c2
   try clear c2b0
   try clear c2b1
   try clear p2
   try clear c3
   try clear c4
   try clear bH
   try clear c11b0
   try clear cu
   try clear c12b0
   try clear c12b1
   try clear c12b2
   try clear cO
   try clear c14b0
   try clear c14b1
   try clear c14b2
   try clear k9 ka kb kc ke kf kg kh
   try clear eK eL eM eN eO eP eQ eR
   try clear fU fV fW fX fY fZ ga ge
   try clear sP sQ sR sS mL mM mN mO
   obtain ⟨kq, et, rfl, HA, HJ5, fC, HB⟩ := hcut
   cases kq with
   | zero => exact absurd HA.out (by simp [spec_l3Text.j0])
   | succ uz =>
    have H := HA.out;clear HA;simp only [spec_l3Text.j0] at H;by_cases eD : aC > 0
    ·
     rw [if_pos eD] at H;have c17b0 := dt eD;clear eD;by_cases eC : et.size + 1 ≤ 9223372036854775807
     ·
      rw [if_pos eC] at H;have c18b0 := eq_true eC;have c18b1 := dt eC
      try have c18b2 : (9223372036854775807 < et.size + 1) = False := eq_false (Nat.not_lt.2 eC)
      replace H := ob H;obtain ⟨mY, GM, H⟩ := H
      try dsimp only at H
      have Xf := am GM;clear GM;by_cases jt : (et ++ (⟨#[45]⟩ : ByteArray)).size + mY.size ≤ 9223372036854775807
      ·
       rw [if_pos jt] at H;have c20b0 := eq_true jt;have c20b1 := dt jt
       try have c20b2 : (9223372036854775807 < (et ++ (⟨#[45]⟩ : ByteArray)).size + mY.size) = False := eq_false (Nat.not_lt.2 jt)
       try have c20x : (9223372036854775807 < et.size + 1 + mY.size) = False := eq_false (by have z_ := jt; simp only [ByteArray.size_append] at z_; have kV : (⟨#[45]⟩ : ByteArray).size = 1 := rfl; omega)
       by_cases ew : aA = true
       ·
        subst ew;replace H := (if_pos rfl).symm.trans H;by_cases dy : 1 + ((et ++ (⟨#[45]⟩ : ByteArray)) ++ mY).size ≤ 9223372036854775807
        ·
         rw [if_pos dy] at H;have c22b0 := eq_true dy;have c22b1 := dt dy
         try have c22b2 : (9223372036854775807 < 1 + ((et ++ (⟨#[45]⟩ : ByteArray)) ++ mY).size) = False := eq_false (Nat.not_lt.2 dy)
         try have c22x : (9223372036854775807 < 1 + (et.size + 1 + mY.size)) = False := eq_false (by have z_ := dy; simp only [ByteArray.size_append] at z_; have kV : (⟨#[45]⟩ : ByteArray).size = 1 := rfl; omega)
         obtain rfl := ojz H;obtain ⟨mi, mj, ml, mm, mn, mo, mq, mr⟩ := blkc4 fC.out;exact spec_l3Text.L0
        · rw [if_neg dy] at H;exact absurd H (by simp)
       · replace ew := Bool.eq_false_iff.mpr ew;subst ew;replace H := (if_neg (show ¬ (false = true) by decide)).symm.trans H;obtain rfl := ojz H;obtain ⟨sG, sH, sI, sJ, sK, sL, sN, sO⟩ := blkc4 fC.out;exact spec_l3Text.L0
      · rw [if_neg jt] at H;exact absurd H (by simp)
     · rw [if_neg eC] at H;exact absurd H (by simp)
    ·
     rw [if_neg eD] at H;have c17b0 := df eD;clear eD;by_cases fL : aA = true
     ·
      subst fL;replace H := (if_pos rfl).symm.trans H;by_cases kX : 1 + et.size ≤ 9223372036854775807
      ·
       rw [if_pos kX] at H;have c30b0 := eq_true kX;have c30b1 := dt kX
       try have c30b2 : (9223372036854775807 < 1 + et.size) = False := eq_false (Nat.not_lt.2 kX)
       obtain rfl := ojz H;obtain ⟨m8, m9, ma, mb, mc, me, mf, mg⟩ := blkc4 fC.out;exact spec_l3Text.L0
      · rw [if_neg kX] at H;exact absurd H (by simp)
     · replace fL := Bool.eq_false_iff.mpr fL;subst fL;replace H := (if_neg (show ¬ (false = true) by decide)).symm.trans H;obtain rfl := ojz H;obtain ⟨Cx, Cy, Cz, CB, CC, CE, CF, CG⟩ := blkc4 fC.out;exact spec_l3Text.L0
def spec_l4Field.f (k : Nat) (ab : ByteArray) (aa : Int) (ai : List (S62)) (aj : List (S62)) (ak : ByteArray) (an : ByteArray) (ap : ByteArray) (ar : Int) (av : Int) (aw : Int) (af : Bool) (ac : Int) (ae : ByteArray) (ag : ByteArray) (a1 : ByteArray) : Option (ByteArray × Bool) := if a1.toList = ([97, 117, 116, 104, 111, 114, 115] : List UInt8) then ((spec_l4Names.f k ai).bind fun GN => (some (GN, true))) else (if a1.toList = ([101, 100, 105, 116, 111, 114, 115] : List UInt8) then ((spec_l4Names.f k aj).bind fun GO => (some (GO, true))) else (if a1.toList = ([116, 105, 116, 108, 101] : List UInt8) then (some (ak, true)) else (if a1.toList = ([99, 111, 110, 116, 97, 105, 110, 101, 114] : List UInt8) then (some (an, true)) else (if a1.toList = ([112, 117, 98, 108, 105, 115, 104, 101, 114] : List UInt8) then (some (ap, true)) else (if a1.toList = ([112, 97, 103, 101, 115] : List UInt8) then (some (ae, true)) else (if a1.toList = ([100, 97, 116, 101] : List UInt8) then (if ar = 0 then (some ((⟨#[]⟩ : ByteArray), true)) else ((spec_l3Text.f k ar av aw af).bind fun GP => (some (GP, true)))) else (if a1.toList = ([118, 111, 108, 117, 109, 101] : List UInt8) then (if ac = 0 then (some ((⟨#[]⟩ : ByteArray), true)) else ((spec_l1Num.f k ac).bind fun GQ => (some (GQ, true)))) else (some ((⟨#[]⟩ : ByteArray), false)))))))))
theorem spec_l4Field.mono : ∀ a0 a1 a2 a3 a4 a5 a6 a7 a8 a9 cP cQ cR cS eU k, LeO (spec_l4Field.f k a0 a1 a2 a3 a4 a5 a6 a7 a8 a9 cP cQ cR cS eU) (spec_l4Field.f (k + 1) a0 a1 a2 a3 a4 a5 a6 a7 a8 a9 cP cQ cR cS eU) := by
 intro a0 a1 a2 a3 a4 a5 a6 a7 a8 a9 cP cQ cR cS eU k;unfold spec_l4Field.f
 repeat' first
   | (with_reducible exact spec_l1Num.mono _ _)
   | (with_reducible exact spec_l3Text.mono _ _ _ _ _)
   | (with_reducible exact spec_l4Names.mono _ _)
   | (with_reducible exact LeO.refl _)
   | (with_reducible exact LeO.none _)
   | (with_reducible refine LeO.ite ?_ ?_)
   | (with_reducible refine LeO.bind ?_ (fun _ => ?_))
   | exact spec_l1Num.mono _ _
   | exact spec_l3Text.mono _ _ _ _ _
   | exact spec_l4Names.mono _ _
   | exact LeO.none _
   | refine LeO.ite ?_ ?_
   | refine LeO.bind ?_ (fun _ => ?_)
set_option maxRecDepth 100000 in
theorem spec_l4Field.L0 {P : Prop} (h : P := by
  go_enter Tryz.func16, Tryz.ntmps16;go_wp2_with (first | ((with_reducible refine gate_dst (N := 2) rfl ?_); refine box_event ?hg (N := 2) ?hd (cs := #[.string ab, .int .i64 aa, .slice bj ai.length bl, .slice bm aj.length bn, .string ak, .string an, .string ap, .int .i64 ar, .int .i64 av, .int .i64 aw, .bool af, .int .i64 ac, .string ae, .string ag]) (t := 34) ?hr ?_; (case hd => rfl); (case hg => rfl); (case hr => first | (go_simp; done) | (go_simp; rfl)); intro qb hg uw hbox hb; have iG := am (hbox); have Fs := am (bsz hg au51); have vG := am (bsz hg au51); replace HB := am (below_step au51 hb); clear hb hbox hg; obtain ⟨fi, fj, fk, fl, rD, rE, rF, rG, rH, rI, pj, pk, pm, pn, fm, fo, fp, fq, rJ, rK, rL, rM, rN, rO, po, pp, pq, pr⟩ := blkc14 iG.out) | ((with_reducible refine gate_callee (f := 31) rfl ?_); refine goesL_ (some 16) rfl rfl Tryz.func31 (by kernel_rfl) rfl #[.slice bm aj.length bn] rfl au50 ?_; (with_reducible refine (spec_l4Names.calls k _ _ aj GO _ ?ax ?ay A9.out).mono ?_); (case ax => repeat (first | exact (Kd.C_below cz.out HB.out) | (with_reducible refine Kd.C_alloc ?_ _) | (with_reducible refine Kd.C_drewN ?_ _) | (with_reducible refine Kd.C_drew ?_))); (case ay => exact cA.out); rintro e Aw ⟨rfl, hb⟩; refine ⟨_, rfl, ?_⟩; replace iG := am (blk_below (g := qb) au58 hb); replace HB := am (below_step au32 hb); (try clear hb)));go_ret2
  exact ax6) : P := h
set_option maxHeartbeats 8000000 in
set_option maxRecDepth 100000 in
theorem spec_l4Field.calls (k : Nat) (ab : ByteArray) (aa : Int) (bj : Option Addr) (bl : Nat) (ai : List (S62)) (bm : Option Addr) (bn : Nat) (aj : List (S62)) (ak : ByteArray) (an : ByteArray) (ap : ByteArray) (ar : Int) (av : Int) (aw : Int) (af : Bool) (ac : Int) (ae : ByteArray) (ag : ByteArray) (a1 : ByteArray) (r1 : ByteArray) (r2 : Bool) (w : World) (cV : Kd.C k62 w bj ai.length ai) (cL : ai.length ≤ bl) (cW : Kd.C k62 w bm aj.length aj) (cM : aj.length ≤ bn) (h : spec_l4Field.f k ab aa ai aj ak an ap ar av aw af ac ae ag a1 = some (r1, r2)) :
  Calls Tryz.prog 16 #[.agg #[.string ab, .int .i64 aa, .slice bj ai.length bl, .slice bm aj.length bn, .string ak, .string an, .string ap, .int .i64 ar, .int .i64 av, .int .i64 aw, .bool af, .int .i64 ac, .string ae, .string ag], .string a1] w fun e w' => e = .returned (.tuple #[.string r1, .bool r2]) ∧ Below w.heap.size w w' := by
 have hu34 := Tryz.underlying34;have hu32 := Tryz.underlying32;have ck := am cV;have cn := am cL;clear cV cL;have cz := am cW;have cA := am cM;clear cW cM;have HB := am (Below.refl w.heap.size w);have H : (if a1.toList = ([97, 117, 116, 104, 111, 114, 115] : List UInt8) then ((spec_l4Names.f k ai).bind fun GN => (some (GN, true))) else (if a1.toList = ([101, 100, 105, 116, 111, 114, 115] : List UInt8) then ((spec_l4Names.f k aj).bind fun GO => (some (GO, true))) else (if a1.toList = ([116, 105, 116, 108, 101] : List UInt8) then (some (ak, true)) else (if a1.toList = ([99, 111, 110, 116, 97, 105, 110, 101, 114] : List UInt8) then (some (an, true)) else (if a1.toList = ([112, 117, 98, 108, 105, 115, 104, 101, 114] : List UInt8) then (some (ap, true)) else (if a1.toList = ([112, 97, 103, 101, 115] : List UInt8) then (some (ae, true)) else (if a1.toList = ([100, 97, 116, 101] : List UInt8) then (if ar = 0 then (some ((⟨#[]⟩ : ByteArray), true)) else ((spec_l3Text.f k ar av aw af).bind fun GP => (some (GP, true)))) else (if a1.toList = ([118, 111, 108, 117, 109, 101] : List UInt8) then (if ac = 0 then (some ((⟨#[]⟩ : ByteArray), true)) else ((spec_l1Num.f k ac).bind fun GQ => (some (GQ, true)))) else (some ((⟨#[]⟩ : ByteArray), false)))))))))) = some (r1, r2) := h;clear h;by_cases c3 : a1.toList = ([97, 117, 116, 104, 111, 114, 115] : List UInt8)
 ·
  rw [if_pos c3] at H;have c3b0 := qt c3;have c3b1 := bf c3;clear c3;replace H := ob H;obtain ⟨GN, i8, H⟩ := H
  try dsimp only at H
  have A4 := am i8;clear i8;simp only [Option.some.injEq, Prod.mk.injEq] at H;obtain ⟨rfl, rfl⟩ := H;go_enter Tryz.func16, Tryz.ntmps16;go_wp2_with (first | ((with_reducible refine gate_dst (N := 2) rfl ?_); refine box_event ?hg (N := 2) ?hd (cs := #[.string ab, .int .i64 aa, .slice bj ai.length bl, .slice bm aj.length bn, .string ak, .string an, .string ap, .int .i64 ar, .int .i64 av, .int .i64 aw, .bool af, .int .i64 ac, .string ae, .string ag]) (t := 34) ?hr ?_; (case hd => rfl); (case hg => rfl); (case hr => first | (go_simp; done) | (go_simp; rfl)); intro qb hg w5 hbox hb; have iG := am (hbox); have Fs := am (bsz hg au51); have vG := am (bsz hg au51); replace HB := am (below_step au51 hb); clear hb hbox hg; obtain ⟨Xg, Xh, Xi, Xj, Xk, Xl, Xm, Xn, Xo, Xp, SX, SY, SZ, T0, Xq, Xr, Xs, Xt, Xu, Xv, Xw, Xx, Xy, Xz, T1, T2, T3, T4⟩ := blkc14 iG.out) | ((with_reducible refine gate_callee (f := 31) rfl ?_); refine goesL_ (some 11) rfl rfl Tryz.func31 (by kernel_rfl) rfl #[.slice bj ai.length bl] rfl au50 ?_; (with_reducible refine (spec_l4Names.calls k _ _ ai GN _ ?ax ?ay A4.out).mono ?_); (case ax => repeat (first | exact (Kd.C_below ck.out HB.out) | (with_reducible refine Kd.C_alloc ?_ _) | (with_reducible refine Kd.C_drewN ?_ _) | (with_reducible refine Kd.C_drew ?_))); (case ay => exact cn.out); rintro e w7 ⟨rfl, hb⟩; refine ⟨_, rfl, ?_⟩; replace iG := am (blk_below (g := qb) au58 hb); replace HB := am (below_step au32 hb); (try clear hb)));go_ret2;exact ax6
 ·
  rw [if_neg c3] at H;have c3b0 := qf c3;have c3b1 := bu c3;by_cases c8 : a1.toList = ([101, 100, 105, 116, 111, 114, 115] : List UInt8)
  ·
   rw [if_pos c8] at H;have c8b0 := qt c8;have c8b1 := bf c8;clear c8;replace H := ob H;obtain ⟨GO, jR, H⟩ := H
   try dsimp only at H
   have A9 := am jR;clear jR;simp only [Option.some.injEq, Prod.mk.injEq] at H;obtain ⟨rfl, rfl⟩ := H;exact spec_l4Field.L0
  ·
   rw [if_neg c8] at H;have c8b0 := qf c8;have c8b1 := bu c8;by_cases bW : a1.toList = ([116, 105, 116, 108, 101] : List UInt8)
   · rw [if_pos bW] at H;have c13b0 := qt bW;have c13b1 := bf bW;clear bW;simp only [Option.some.injEq, Prod.mk.injEq] at H;obtain ⟨rfl, rfl⟩ := H;exact spec_l4Field.L0
   ·
    rw [if_neg bW] at H;have c13b0 := qf bW;have c13b1 := bu bW;by_cases cb : a1.toList = ([99, 111, 110, 116, 97, 105, 110, 101, 114] : List UInt8)
    · rw [if_pos cb] at H;have c16b0 := qt cb;have c16b1 := bf cb;clear cb;simp only [Option.some.injEq, Prod.mk.injEq] at H;obtain ⟨rfl, rfl⟩ := H;exact spec_l4Field.L0
    ·
     rw [if_neg cb] at H;have c16b0 := qf cb;have c16b1 := bu cb;by_cases dp : a1.toList = ([112, 117, 98, 108, 105, 115, 104, 101, 114] : List UInt8)
     · rw [if_pos dp] at H;have c19b0 := qt dp;have c19b1 := bf dp;clear dp;simp only [Option.some.injEq, Prod.mk.injEq] at H;obtain ⟨rfl, rfl⟩ := H;exact spec_l4Field.L0
     ·
      rw [if_neg dp] at H;have c19b0 := qf dp;have c19b1 := bu dp;by_cases dy : a1.toList = ([112, 97, 103, 101, 115] : List UInt8)
      · rw [if_pos dy] at H;have c22b0 := qt dy;have c22b1 := bf dy;clear dy;simp only [Option.some.injEq, Prod.mk.injEq] at H;obtain ⟨rfl, rfl⟩ := H;exact spec_l4Field.L0
      ·
       rw [if_neg dy] at H;have c22b0 := qf dy;have c22b1 := bu dy;by_cases fJ : a1.toList = ([100, 97, 116, 101] : List UInt8)
       ·
        rw [if_pos fJ] at H;have c25b0 := qt fJ;have c25b1 := bf fJ;clear fJ;by_cases fe : ar = 0
        · rw [if_pos fe] at H;have c26b0 := qt fe;have c26b1 := bf fe;clear fe;simp only [Option.some.injEq, Prod.mk.injEq] at H;obtain ⟨rfl, rfl⟩ := H;exact spec_l4Field.L0
        ·
         rw [if_neg fe] at H;have c26b0 := qf fe;have c26b1 := bu fe;replace H := ob H;obtain ⟨GP, GR, H⟩ := H
         try dsimp only at H
         have XA := am GR;clear GR;simp only [Option.some.injEq, Prod.mk.injEq] at H;obtain ⟨rfl, rfl⟩ := H;go_enter Tryz.func16, Tryz.ntmps16;go_wp2_with (first | ((with_reducible refine gate_dst (N := 2) rfl ?_); refine box_event ?hg (N := 2) ?hd (cs := #[.string ab, .int .i64 aa, .slice bj ai.length bl, .slice bm aj.length bn, .string ak, .string an, .string ap, .int .i64 ar, .int .i64 av, .int .i64 aw, .bool af, .int .i64 ac, .string ae, .string ag]) (t := 34) ?hr ?_; (case hd => rfl); (case hg => rfl); (case hr => first | (go_simp; done) | (go_simp; rfl)); intro qb hg w30 hbox hb; have iG := am (hbox); have Fs := am (bsz hg au51); have vG := am (bsz hg au51); replace HB := am (below_step au51 hb); clear hb hbox hg; obtain ⟨m8, m9, ma, mb, sn, so, sq, sr, st, su, pC, pD, pE, pF, mc, me, mf, mg, sw, sx, sy, sB, sC, sF, pG, pH, pI, pJ⟩ := blkc14 iG.out) | ((with_reducible refine gate_callee (f := 32) rfl ?_); refine goesL_ (some 41) rfl rfl Tryz.func32 (by kernel_rfl) rfl #[.agg #[.int .i64 ar, .int .i64 av, .int .i64 aw, .bool af]] rfl au50 ?_; (with_reducible refine (spec_l3Text.calls k ar av aw af GP _ XA.out).mono ?_); rintro e w32 ⟨rfl, hb⟩; refine ⟨_, rfl, ?_⟩; replace iG := am (blk_below (g := qb) au58 hb); replace HB := am (below_step au32 hb); (try clear hb)));go_ret2;exact ax6
       ·
        rw [if_neg fJ] at H;have c25b0 := qf fJ;have c25b1 := bu fJ;by_cases GT : a1.toList = ([118, 111, 108, 117, 109, 101] : List UInt8)
        ·
         rw [if_pos GT] at H;have c33b0 := qt GT;have c33b1 := bf GT;clear GT;by_cases ux : ac = 0
         · rw [if_pos ux] at H;have c34b0 := qt ux;have c34b1 := bf ux;clear ux;simp only [Option.some.injEq, Prod.mk.injEq] at H;obtain ⟨rfl, rfl⟩ := H;exact spec_l4Field.L0
         ·
          rw [if_neg ux] at H;have c34b0 := qf ux;have c34b1 := bu ux;replace H := ob H;obtain ⟨GQ, GU, H⟩ := H
          try dsimp only at H
          have GV := am GU;clear GU;simp only [Option.some.injEq, Prod.mk.injEq] at H;obtain ⟨rfl, rfl⟩ := H;go_enter Tryz.func16, Tryz.ntmps16;go_wp2_with (first | ((with_reducible refine gate_dst (N := 2) rfl ?_); refine box_event ?hg (N := 2) ?hd (cs := #[.string ab, .int .i64 aa, .slice bj ai.length bl, .slice bm aj.length bn, .string ak, .string an, .string ap, .int .i64 ar, .int .i64 av, .int .i64 aw, .bool af, .int .i64 ac, .string ae, .string ag]) (t := 34) ?hr ?_; (case hd => rfl); (case hg => rfl); (case hr => first | (go_simp; done) | (go_simp; rfl)); intro qb hg w38 hbox hb; have iG := am (hbox); have Fs := am (bsz hg au51); have vG := am (bsz hg au51); replace HB := am (below_step au51 hb); clear hb hbox hg; obtain ⟨Su, Sv, Sw, Sx, abV, abW, abX, abY, abZ, ac0, a3O, a3P, a3Q, a3R, Sy, Sz, SA, SB, ac1, ac2, ac3, ac4, ac5, ac6, a3S, a3T, a3U, a3V⟩ := blkc14 iG.out) | ((with_reducible refine gate_callee (f := 33) rfl ?_); refine goesL_ (some 49) rfl rfl Tryz.func33 (by kernel_rfl) rfl #[.int .i64 ac] rfl au50 ?_; (with_reducible refine (spec_l1Num.calls k ac GQ _ GV.out).mono ?_); rintro e w40 ⟨rfl, hb⟩; refine ⟨_, rfl, ?_⟩; replace iG := am (blk_below (g := qb) au58 hb); replace HB := am (below_step au32 hb); (try clear hb)));go_ret2;exact ax6
        · rw [if_neg GT] at H;have c33b0 := qf GT;have c33b1 := bu GT;simp only [Option.some.injEq, Prod.mk.injEq] at H;obtain ⟨rfl, rfl⟩ := H;go_enter Tryz.func16, Tryz.ntmps16;go_wp2_with (first | ((with_reducible refine gate_dst (N := 2) rfl ?_); refine box_event ?hg (N := 2) ?hd (cs := #[.string ab, .int .i64 aa, .slice bj ai.length bl, .slice bm aj.length bn, .string ak, .string an, .string ap, .int .i64 ar, .int .i64 av, .int .i64 aw, .bool af, .int .i64 ac, .string ae, .string ag]) (t := 34) ?hr ?_; (case hd => rfl); (case hg => rfl); (case hr => first | (go_simp; done) | (go_simp; rfl)); intro qb hg w41 hbox hb; have iG := am (hbox); have Fs := am (bsz hg au51); have vG := am (bsz hg au51); replace HB := am (below_step au51 hb); clear hb hbox hg));go_ret2;exact ax6
end Go.Proofs.YthfbogcpjfledaaGreatDoor.G
