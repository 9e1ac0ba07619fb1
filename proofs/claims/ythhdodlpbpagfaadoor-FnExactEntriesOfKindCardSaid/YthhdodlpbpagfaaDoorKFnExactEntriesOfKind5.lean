/- Texts of this session for the law FnExactEntriesOfKind, put together by a program (merge.py): each ends with its namespace; conditions stand with each theorem. -/
import Derived.Test.YthhdodlpbpagfaaDoorKFnExactEntriesOfKind2
import Derived.Test.YthhdodlpbpagfaaDoorKFnExactEntriesOfKind4
namespace Go.Proofs.YthhdodlpbpagfaaDoor.G
open Go.RowKit Go.Proofs.YthhdodlpbpagfaaDoorW.PrintWords Go.Proofs.YthhdodlpbpagfaaDoorW.PrintLast Go.Proofs.YthhdodlpbpagfaaDoorW.PrintMore
open Go.Proofs.YthhdodlpbpagfaaDoor.Gl Go.Proofs.YthhdodlpbpagfaaDoor.Ext
attribute [local go_sem] max2_int min2_int max_two min_two max_three min_three max_four min_four   -- for this text's walks alone
set_option linter.unusedVariables false
set_option linter.unusedSimpArgs false

/-! ### impl_IsValidEntry: function 25 -/
def impl_IsValidEntry.j0 : Nat → Bool → ByteArray → Int → List (S70) → List (S70) → ByteArray → ByteArray → ByteArray → Int → Int → Int → Bool → Int → ByteArray → ByteArray → Option (Bool)
 | 0, _, _, _, _, _, _, _, _, _, _, _, _, _, _, _ => none
 | k + 1, x36, x273000, x273001, x273002, x273003, x273004, x273005, x273006, x273007, x273008, x273009, x273010, x273011, x273012, x273013 => if x36 = true then (some false) else ((impl_isText.f k x273004).bind fun t279 => (if t279 = true then ((impl_isText.f k x273005).bind fun t280 => (if t280 = true then ((impl_isText.f k x273006).bind fun t281 => (if t281 = true then ((impl_isText.f k x273012).bind fun t282 => (if t282 = true then (if x273013.toList = ([] : List UInt8) then (some true) else ((impl_isKey.f k x273013).bind fun t283 => (if t283 = true then (some (x273013.toList != x273000.toList)) else (some false)))) else (some false))) else (some false))) else (some false))) else (some false)))
def impl_IsValidEntry.f (k : Nat) (a0_0 : ByteArray) (a0_1 : Int) (l0_2 : List (S70)) (l0_3 : List (S70)) (a0_4 : ByteArray) (a0_5 : ByteArray) (a0_6 : ByteArray) (a0_7 : Int) (a0_8 : Int) (a0_9 : Int) (a0_10 : Bool) (a0_11 : Int) (a0_12 : ByteArray) (a0_13 : ByteArray) : Option (Bool) := (impl_isKey.f k a0_0).bind fun t273 => (if t273 = true then ((impl_isKind.f a0_1).bind fun t274 => (if t274 = true then ((impl_areNames.f k l0_2).bind fun t275 => (if t275 = true then ((impl_areNames.f k l0_3).bind fun t276 => (if t276 = true then ((impl_IsValidDate.f k a0_7 a0_8 a0_9 a0_10).bind fun t277 => (if t277 = true then ((impl_inside.f a0_11 0 9999).bind fun t278 => (impl_IsValidEntry.j0 k (!t278) a0_0 a0_1 l0_2 l0_3 a0_4 a0_5 a0_6 a0_7 a0_8 a0_9 a0_10 a0_11 a0_12 a0_13)) else (impl_IsValidEntry.j0 k true a0_0 a0_1 l0_2 l0_3 a0_4 a0_5 a0_6 a0_7 a0_8 a0_9 a0_10 a0_11 a0_12 a0_13))) else (impl_IsValidEntry.j0 k true a0_0 a0_1 l0_2 l0_3 a0_4 a0_5 a0_6 a0_7 a0_8 a0_9 a0_10 a0_11 a0_12 a0_13))) else (impl_IsValidEntry.j0 k true a0_0 a0_1 l0_2 l0_3 a0_4 a0_5 a0_6 a0_7 a0_8 a0_9 a0_10 a0_11 a0_12 a0_13))) else (impl_IsValidEntry.j0 k true a0_0 a0_1 l0_2 l0_3 a0_4 a0_5 a0_6 a0_7 a0_8 a0_9 a0_10 a0_11 a0_12 a0_13))) else (impl_IsValidEntry.j0 k true a0_0 a0_1 l0_2 l0_3 a0_4 a0_5 a0_6 a0_7 a0_8 a0_9 a0_10 a0_11 a0_12 a0_13))
theorem impl_IsValidEntry.mono_l : ∀ k, (∀ y0 y1 y2 y3 y4 y5 y6 y7 y8 y9 y10 y11 y12 y13 y14, LeO (impl_IsValidEntry.j0 k y0 y1 y2 y3 y4 y5 y6 y7 y8 y9 y10 y11 y12 y13 y14) (impl_IsValidEntry.j0 (k + 1) y0 y1 y2 y3 y4 y5 y6 y7 y8 y9 y10 y11 y12 y13 y14))
 | 0 => fun _ _ _ _ _ _ _ _ _ _ _ _ _ _ _ r h => by simp [impl_IsValidEntry.j0] at h
 | k + 1 => by
  have ih0 := impl_IsValidEntry.mono_l k
  ·
   intro y0 y1 y2 y3 y4 y5 y6 y7 y8 y9 y10 y11 y12 y13 y14
   unfold impl_IsValidEntry.j0
   repeat' first
   | (with_reducible exact ih0 _ _ _ _ _ _ _ _ _ _ _ _ _ _ _)
   | (with_reducible exact impl_IsValidDate.mono _ _ _ _ _)
   | (with_reducible exact impl_areNames.mono _ _)
   | (with_reducible exact impl_isKey.mono _ _)
   | (with_reducible exact impl_isText.mono _ _)
   | (with_reducible exact LeO.refl _)
   | (with_reducible exact LeO.none _)
   | (with_reducible refine LeO.ite ?_ ?_)
   | (with_reducible refine LeO.bind ?_ (fun _ => ?_))
   | exact ih0 _ _ _ _ _ _ _ _ _ _ _ _ _ _ _
   | exact impl_IsValidDate.mono _ _ _ _ _
   | exact impl_areNames.mono _ _
   | exact impl_isKey.mono _ _
   | exact impl_isText.mono _ _
   | exact LeO.none _
   | refine LeO.ite ?_ ?_
   | refine LeO.bind ?_ (fun _ => ?_)
theorem impl_IsValidEntry.mono : ∀ a0 a1 a2 a3 a4 a5 a6 a7 a8 a9 a10 a11 a12 a13 k, LeO (impl_IsValidEntry.f k a0 a1 a2 a3 a4 a5 a6 a7 a8 a9 a10 a11 a12 a13) (impl_IsValidEntry.f (k + 1) a0 a1 a2 a3 a4 a5 a6 a7 a8 a9 a10 a11 a12 a13) := by
 intro a0 a1 a2 a3 a4 a5 a6 a7 a8 a9 a10 a11 a12 a13 k
 have ih0 := impl_IsValidEntry.mono_l k
 unfold impl_IsValidEntry.f
 repeat' first
   | (with_reducible exact ih0 _ _ _ _ _ _ _ _ _ _ _ _ _ _ _)
   | (with_reducible exact impl_IsValidDate.mono _ _ _ _ _)
   | (with_reducible exact impl_areNames.mono _ _)
   | (with_reducible exact impl_isKey.mono _ _)
   | (with_reducible exact impl_isText.mono _ _)
   | (with_reducible exact LeO.refl _)
   | (with_reducible exact LeO.none _)
   | (with_reducible refine LeO.ite ?_ ?_)
   | (with_reducible refine LeO.bind ?_ (fun _ => ?_))
   | exact ih0 _ _ _ _ _ _ _ _ _ _ _ _ _ _ _
   | exact impl_IsValidDate.mono _ _ _ _ _
   | exact impl_areNames.mono _ _
   | exact impl_isKey.mono _ _
   | exact impl_isText.mono _ _
   | exact LeO.none _
   | refine LeO.ite ?_ ?_
   | refine LeO.bind ?_ (fun _ => ?_)
set_option maxRecDepth 100000 in
theorem impl_IsValidEntry.L0 {P : Prop} (h : P := by
  go_wp2_with (first | ((with_reducible refine gate_callee (f := 36) rfl ?_); refine goesL_ (some 5) rfl rfl Tryd.func36 (by kernel_rfl) rfl #[.string a0_0] rfl au35 ?_; (with_reducible refine (impl_isKey.calls k a0_0 _ _ A4.out).mono ?_); rintro e w' ⟨rfl, ⟨nd, rfl⟩⟩; refine ⟨_, rfl, ?_⟩) | (go_at_call 18; (with_reducible refine (impl_isKind.calls a0_1 _ _ A6.out).mono ?_); rintro e w' ⟨rfl, ⟨nd, rfl⟩⟩) | (go_at_call 37; (with_reducible refine (impl_areNames.calls (hG := au0) k _ _ l0_2 _ _ ?side1 ?side2 A8.out).mono ?_); (case side1 => repeat (first | exact (Kd.C_below HR0_2.out au27) | (with_reducible refine Kd.C_alloc ?_ _) | (with_reducible refine Kd.C_drewN ?_ _) | (with_reducible refine Kd.C_drew ?_))); (case side2 => exact HC0_2.out); rintro e w16 ⟨rfl, hb⟩; replace BK272 := Aside0.mk (blk_below (g := gb272) au53 hb); replace HB := Aside0.mk (below_step au27 hb); (try clear hb); obtain ⟨hcz17_0, hcz17_1, hcz17_2, hcz17_3, hcz17_4, hcz17_5, hcz17_6, hcz17_7, hcz17_8, hcz17_9, hcz17_10, hcz17_11, hcz17_12, hcz17_13, hfz17_0, hfz17_1, hfz17_2, hfz17_3, hfz17_4, hfz17_5, hfz17_6, hfz17_7, hfz17_8, hfz17_9, hfz17_10, hfz17_11, hfz17_12, hfz17_13⟩ := blkc14 BK272.out) | (go_at_call 37; (with_reducible refine (impl_areNames.calls (hG := au0) k _ _ l0_3 _ _ ?side1 ?side2 A10.out).mono ?_); (case side1 => repeat (first | exact (Kd.C_below HR0_3.out HB.out) | (with_reducible refine Kd.C_alloc ?_ _) | (with_reducible refine Kd.C_drewN ?_ _) | (with_reducible refine Kd.C_drew ?_))); (case side2 => exact HC0_3.out); rintro e w18 ⟨rfl, hb⟩; replace BK272 := Aside0.mk (blk_below (g := gb272) au53 hb); replace HB := Aside0.mk (below_step au27 hb); (try clear hb); obtain ⟨hcz19_0, hcz19_1, hcz19_2, hcz19_3, hcz19_4, hcz19_5, hcz19_6, hcz19_7, hcz19_8, hcz19_9, hcz19_10, hcz19_11, hcz19_12, hcz19_13, hfz19_0, hfz19_1, hfz19_2, hfz19_3, hfz19_4, hfz19_5, hfz19_6, hfz19_7, hfz19_8, hfz19_9, hfz19_10, hfz19_11, hfz19_12, hfz19_13⟩ := blkc14 BK272.out) | (go_at_call 38; (with_reducible refine (impl_IsValidDate.calls k a0_7 a0_8 a0_9 a0_10 _ _ A12.out).mono ?_); rintro e w20 ⟨rfl, hb⟩; replace BK272 := Aside0.mk (blk_below (g := gb272) au53 hb); replace HB := Aside0.mk (below_step au27 hb); (try clear hb); obtain ⟨hcz21_0, hcz21_1, hcz21_2, hcz21_3, hcz21_4, hcz21_5, hcz21_6, hcz21_7, hcz21_8, hcz21_9, hcz21_10, hcz21_11, hcz21_12, hcz21_13, hfz21_0, hfz21_1, hfz21_2, hfz21_3, hfz21_4, hfz21_5, hfz21_6, hfz21_7, hfz21_8, hfz21_9, hfz21_10, hfz21_11, hfz21_12, hfz21_13⟩ := blkc14 BK272.out) | (go_at_call 26; (with_reducible refine (impl_inside.calls a0_11 0 9999 t278 _ A14.out).mono ?_); rintro e w' ⟨rfl, ⟨nd, rfl⟩⟩))
  go_meet
  case rel => first | (exact ⟨_, (!t278), au72, H', ⟨by first | omega | exact Nat.le_refl _⟩, ⟨by (with_reducible repeat (first | refine blk_drewN ?_ _ | refine blk_drew ?_ | refine blk_alloc ?_ _)); exact BK272.out⟩, ⟨by repeat (first | (with_reducible first | exact HB.out | apply below_alloc | apply pw_below_drewN | apply below_drew1 | refine below_set ?_ GE272.out) | exact HB.out)⟩⟩) | (exact ⟨_, (true), au72, H', ⟨by first | omega | exact Nat.le_refl _⟩, ⟨by (with_reducible repeat (first | refine blk_drewN ?_ _ | refine blk_drew ?_ | refine blk_alloc ?_ _)); exact BK272.out⟩, ⟨by repeat (first | (with_reducible first | exact HB.out | apply below_alloc | apply pw_below_drewN | apply below_drew1 | refine below_set ?_ GE272.out) | exact HB.out)⟩⟩)) : P := h
set_option maxRecDepth 100000 in
theorem impl_IsValidEntry.L1 {P : Prop} (h : P := by
  go_wp2_with (first | ((with_reducible refine gate_callee (f := 39) rfl ?_); refine goesL_ (some 39) rfl rfl Tryd.func39 (by kernel_rfl) rfl #[.string a0_4] rfl au35 ?_; (with_reducible refine (impl_isText.calls kj1 a0_4 _ _ A37.out).mono ?_); rintro e w58 ⟨rfl, hb⟩; refine ⟨_, rfl, ?_⟩; replace BK272 := Aside0.mk (blk_below (g := gb272) au53 hb); replace HB := Aside0.mk (below_step au27 hb); (try clear hb); obtain ⟨hcz59_0, hcz59_1, hcz59_2, hcz59_3, hcz59_4, hcz59_5, hcz59_6, hcz59_7, hcz59_8, hcz59_9, hcz59_10, hcz59_11, hcz59_12, hcz59_13, hfz59_0, hfz59_1, hfz59_2, hfz59_3, hfz59_4, hfz59_5, hfz59_6, hfz59_7, hfz59_8, hfz59_9, hfz59_10, hfz59_11, hfz59_12, hfz59_13⟩ := blkc14 BK272.out) | (go_at_call 39; (with_reducible refine (impl_isText.calls kj1 a0_5 _ _ A39.out).mono ?_); rintro e w60 ⟨rfl, hb⟩; replace BK272 := Aside0.mk (blk_below (g := gb272) au53 hb); replace HB := Aside0.mk (below_step au27 hb); (try clear hb); obtain ⟨hcz61_0, hcz61_1, hcz61_2, hcz61_3, hcz61_4, hcz61_5, hcz61_6, hcz61_7, hcz61_8, hcz61_9, hcz61_10, hcz61_11, hcz61_12, hcz61_13, hfz61_0, hfz61_1, hfz61_2, hfz61_3, hfz61_4, hfz61_5, hfz61_6, hfz61_7, hfz61_8, hfz61_9, hfz61_10, hfz61_11, hfz61_12, hfz61_13⟩ := blkc14 BK272.out) | (go_at_call 39; (with_reducible refine (impl_isText.calls kj1 a0_6 _ _ A41.out).mono ?_); rintro e w62 ⟨rfl, hb⟩; replace BK272 := Aside0.mk (blk_below (g := gb272) au53 hb); replace HB := Aside0.mk (below_step au27 hb); (try clear hb); obtain ⟨hcz63_0, hcz63_1, hcz63_2, hcz63_3, hcz63_4, hcz63_5, hcz63_6, hcz63_7, hcz63_8, hcz63_9, hcz63_10, hcz63_11, hcz63_12, hcz63_13, hfz63_0, hfz63_1, hfz63_2, hfz63_3, hfz63_4, hfz63_5, hfz63_6, hfz63_7, hfz63_8, hfz63_9, hfz63_10, hfz63_11, hfz63_12, hfz63_13⟩ := blkc14 BK272.out) | (go_at_call 39; (with_reducible refine (impl_isText.calls kj1 a0_12 _ _ A43.out).mono ?_); rintro e w64 ⟨rfl, hb⟩; replace BK272 := Aside0.mk (blk_below (g := gb272) au53 hb); replace HB := Aside0.mk (below_step au27 hb); (try clear hb); obtain ⟨hcz65_0, hcz65_1, hcz65_2, hcz65_3, hcz65_4, hcz65_5, hcz65_6, hcz65_7, hcz65_8, hcz65_9, hcz65_10, hcz65_11, hcz65_12, hcz65_13, hfz65_0, hfz65_1, hfz65_2, hfz65_3, hfz65_4, hfz65_5, hfz65_6, hfz65_7, hfz65_8, hfz65_9, hfz65_10, hfz65_11, hfz65_12, hfz65_13⟩ := blkc14 BK272.out) | (go_at_call 36; (with_reducible refine (impl_isKey.calls kj1 a0_13 _ _ A55.out).mono ?_); rintro e w' ⟨rfl, ⟨nd, rfl⟩⟩))
  go_ret
  exact ax9) : P := h
set_option maxHeartbeats 8000000 in
set_option maxRecDepth 100000 in
theorem impl_IsValidEntry.calls (k : Nat) (a0_0 : ByteArray) (a0_1 : Int) (A0_2 : Option Addr) (c0_2 : Nat) (l0_2 : List (S70)) (A0_3 : Option Addr) (c0_3 : Nat) (l0_3 : List (S70)) (a0_4 : ByteArray) (a0_5 : ByteArray) (a0_6 : ByteArray) (a0_7 : Int) (a0_8 : Int) (a0_9 : Int) (a0_10 : Bool) (a0_11 : Int) (a0_12 : ByteArray) (a0_13 : ByteArray) (r : Bool) (w : World) {gF1 gF2 gF3 : Bool} (hG : GL gF1 gF2 gF3 w) (hr0_2 : Kd.C k70 w A0_2 l0_2.length l0_2) (hc0_2 : l0_2.length ≤ c0_2) (hr0_3 : Kd.C k70 w A0_3 l0_3.length l0_3) (hc0_3 : l0_3.length ≤ c0_3) (h : impl_IsValidEntry.f k a0_0 a0_1 l0_2 l0_3 a0_4 a0_5 a0_6 a0_7 a0_8 a0_9 a0_10 a0_11 a0_12 a0_13 = some r) :
  Calls Tryd.prog 25 #[.agg #[.string a0_0, .int .i64 a0_1, .slice A0_2 l0_2.length c0_2, .slice A0_3 l0_3.length c0_3, .string a0_4, .string a0_5, .string a0_6, .int .i64 a0_7, .int .i64 a0_8, .int .i64 a0_9, .bool a0_10, .int .i64 a0_11, .string a0_12, .string a0_13]] w fun e w' => e = .returned (.bool r) ∧ Below w.heap.size w w' := by
 have HG := Aside0.mk hG
 clear hG
 have hu45 := Tryd.underlying45
 have hu43 := Tryd.underlying43
 have HR0_2 := Aside0.mk hr0_2
 have HC0_2 := Aside0.mk hc0_2
 clear hr0_2 hc0_2
 have HR0_3 := Aside0.mk hr0_3
 have HC0_3 := Aside0.mk hc0_3
 clear hr0_3 hc0_3
 have HB := Aside0.mk (Below.refl w.heap.size w)
 have H : ((impl_isKey.f k a0_0).bind fun t273 => (if t273 = true then ((impl_isKind.f a0_1).bind fun t274 => (if t274 = true then ((impl_areNames.f k l0_2).bind fun t275 => (if t275 = true then ((impl_areNames.f k l0_3).bind fun t276 => (if t276 = true then ((impl_IsValidDate.f k a0_7 a0_8 a0_9 a0_10).bind fun t277 => (if t277 = true then ((impl_inside.f a0_11 0 9999).bind fun t278 => (impl_IsValidEntry.j0 k (!t278) a0_0 a0_1 l0_2 l0_3 a0_4 a0_5 a0_6 a0_7 a0_8 a0_9 a0_10 a0_11 a0_12 a0_13)) else (impl_IsValidEntry.j0 k true a0_0 a0_1 l0_2 l0_3 a0_4 a0_5 a0_6 a0_7 a0_8 a0_9 a0_10 a0_11 a0_12 a0_13))) else (impl_IsValidEntry.j0 k true a0_0 a0_1 l0_2 l0_3 a0_4 a0_5 a0_6 a0_7 a0_8 a0_9 a0_10 a0_11 a0_12 a0_13))) else (impl_IsValidEntry.j0 k true a0_0 a0_1 l0_2 l0_3 a0_4 a0_5 a0_6 a0_7 a0_8 a0_9 a0_10 a0_11 a0_12 a0_13))) else (impl_IsValidEntry.j0 k true a0_0 a0_1 l0_2 l0_3 a0_4 a0_5 a0_6 a0_7 a0_8 a0_9 a0_10 a0_11 a0_12 a0_13))) else (impl_IsValidEntry.j0 k true a0_0 a0_1 l0_2 l0_3 a0_4 a0_5 a0_6 a0_7 a0_8 a0_9 a0_10 a0_11 a0_12 a0_13))) = some r := h
 clear h
 have HC2 := Aside0.mk H
 clear H
 go_enter Tryd.func25, Tryd.ntmps25
 go_upto_region 1 with (first | ((with_reducible refine gate_dst (N := 1) rfl ?_); refine box_event ?hg (N := 1) ?hd (cs := #[.string a0_0, .int .i64 a0_1, .slice A0_2 l0_2.length c0_2, .slice A0_3 l0_3.length c0_3, .string a0_4, .string a0_5, .string a0_6, .int .i64 a0_7, .int .i64 a0_8, .int .i64 a0_9, .bool a0_10, .int .i64 a0_11, .string a0_12, .string a0_13]) (t := 45) ?hr ?_; (case hd => rfl); (case hg => rfl); (case hr => first | (go_simp; done) | (go_simp; rfl)); intro gb272 hg w3 hbox hb; have BK272 := Aside0.mk (hbox); have GW272 := Aside0.mk (bsz hg au36); have GE272 := Aside0.mk (bsz hg au36); replace HB := Aside0.mk (below_step au36 hb); clear hb hbox hg))
 (try simp only [Act.put, List.setIfInBounds_toArray, List.set_cons_zero, List.set_cons_succ])
 go_cut [36] (fun v36 wc => ∃ (kq : Nat) (x36_1 : Bool), v36 = .bool x36_1 ∧ Aside0 (impl_IsValidEntry.j0 kq x36_1 a0_0 a0_1 l0_2 l0_3 a0_4 a0_5 a0_6 a0_7 a0_8 a0_9 a0_10 a0_11 a0_12 a0_13 = some r) ∧ Aside0 (kq ≤ k) ∧ Aside0 (wc.heap[gb272]? = some (.cells #[.string a0_0, .int .i64 a0_1, (.slice A0_2 l0_2.length c0_2), (.slice A0_3 l0_3.length c0_3), .string a0_4, .string a0_5, .string a0_6, .int .i64 a0_7, .int .i64 a0_8, .int .i64 a0_9, .bool a0_10, .int .i64 a0_11, .string a0_12, .string a0_13] 45 (0, 0))) ∧ Aside0 (Below w.heap.size w wc))
 case first =>
  have H := HC2.out
  clear HC2
  replace H := Option.bind_eq_some_iff.mp H
  obtain ⟨t273, A40, H⟩ := H
  try dsimp only at H
  have A4 := Aside0.mk A40
  clear A40
  by_cases c5 : t273 = true
  ·
   subst c5
   replace H := (if_pos rfl).symm.trans H
   replace H := Option.bind_eq_some_iff.mp H
   obtain ⟨t274, A60, H⟩ := H
   try dsimp only at H
   have A6 := Aside0.mk A60
   clear A60
   by_cases c7 : t274 = true
   ·
    subst c7
    replace H := (if_pos rfl).symm.trans H
    replace H := Option.bind_eq_some_iff.mp H
    obtain ⟨t275, A80, H⟩ := H
    try dsimp only at H
    have A8 := Aside0.mk A80
    clear A80
    by_cases c9 : t275 = true
    ·
     subst c9
     replace H := (if_pos rfl).symm.trans H
     replace H := Option.bind_eq_some_iff.mp H
     obtain ⟨t276, A100, H⟩ := H
     try dsimp only at H
     have A10 := Aside0.mk A100
     clear A100
     by_cases c11 : t276 = true
     ·
      subst c11
      replace H := (if_pos rfl).symm.trans H
      replace H := Option.bind_eq_some_iff.mp H
      obtain ⟨t277, A120, H⟩ := H
      try dsimp only at H
      have A12 := Aside0.mk A120
      clear A120
      by_cases c13 : t277 = true
      ·
       subst c13
       replace H := (if_pos rfl).symm.trans H
       replace H := Option.bind_eq_some_iff.mp H
       obtain ⟨t278, A140, H⟩ := H
       try dsimp only at H
       have A14 := Aside0.mk A140
       clear A140
       have H' := Aside0.mk H
       clear H
       obtain ⟨hcz15_0, hcz15_1, hcz15_2, hcz15_3, hcz15_4, hcz15_5, hcz15_6, hcz15_7, hcz15_8, hcz15_9, hcz15_10, hcz15_11, hcz15_12, hcz15_13, hfz15_0, hfz15_1, hfz15_2, hfz15_3, hfz15_4, hfz15_5, hfz15_6, hfz15_7, hfz15_8, hfz15_9, hfz15_10, hfz15_11, hfz15_12, hfz15_13⟩ := blkc14 BK272.out
       exact impl_IsValidEntry.L0
      ·
       replace c13 := Bool.eq_false_iff.mpr c13
       subst c13
       replace H := (if_neg (show ¬ (false = true) by decide)).symm.trans H
       have H' := Aside0.mk H
       clear H
       obtain ⟨hcz22_0, hcz22_1, hcz22_2, hcz22_3, hcz22_4, hcz22_5, hcz22_6, hcz22_7, hcz22_8, hcz22_9, hcz22_10, hcz22_11, hcz22_12, hcz22_13, hfz22_0, hfz22_1, hfz22_2, hfz22_3, hfz22_4, hfz22_5, hfz22_6, hfz22_7, hfz22_8, hfz22_9, hfz22_10, hfz22_11, hfz22_12, hfz22_13⟩ := blkc14 BK272.out
       go_wp2_with (first | ((with_reducible refine gate_callee (f := 36) rfl ?_); refine goesL_ (some 5) rfl rfl Tryd.func36 (by kernel_rfl) rfl #[.string a0_0] rfl au35 ?_; (with_reducible refine (impl_isKey.calls k a0_0 _ _ A4.out).mono ?_); rintro e w' ⟨rfl, ⟨nd, rfl⟩⟩; refine ⟨_, rfl, ?_⟩) | (go_at_call 18; (with_reducible refine (impl_isKind.calls a0_1 _ _ A6.out).mono ?_); rintro e w' ⟨rfl, ⟨nd, rfl⟩⟩) | (go_at_call 37; (with_reducible refine (impl_areNames.calls (hG := au0) k _ _ l0_2 _ _ ?side1 ?side2 A8.out).mono ?_); (case side1 => repeat (first | exact (Kd.C_below HR0_2.out au27) | (with_reducible refine Kd.C_alloc ?_ _) | (with_reducible refine Kd.C_drewN ?_ _) | (with_reducible refine Kd.C_drew ?_))); (case side2 => exact HC0_2.out); rintro e w23 ⟨rfl, hb⟩; replace BK272 := Aside0.mk (blk_below (g := gb272) au53 hb); replace HB := Aside0.mk (below_step au27 hb); (try clear hb); obtain ⟨hcz24_0, hcz24_1, hcz24_2, hcz24_3, hcz24_4, hcz24_5, hcz24_6, hcz24_7, hcz24_8, hcz24_9, hcz24_10, hcz24_11, hcz24_12, hcz24_13, hfz24_0, hfz24_1, hfz24_2, hfz24_3, hfz24_4, hfz24_5, hfz24_6, hfz24_7, hfz24_8, hfz24_9, hfz24_10, hfz24_11, hfz24_12, hfz24_13⟩ := blkc14 BK272.out) | (go_at_call 37; (with_reducible refine (impl_areNames.calls (hG := au0) k _ _ l0_3 _ _ ?side1 ?side2 A10.out).mono ?_); (case side1 => repeat (first | exact (Kd.C_below HR0_3.out HB.out) | (with_reducible refine Kd.C_alloc ?_ _) | (with_reducible refine Kd.C_drewN ?_ _) | (with_reducible refine Kd.C_drew ?_))); (case side2 => exact HC0_3.out); rintro e w25 ⟨rfl, hb⟩; replace BK272 := Aside0.mk (blk_below (g := gb272) au53 hb); replace HB := Aside0.mk (below_step au27 hb); (try clear hb); obtain ⟨hcz26_0, hcz26_1, hcz26_2, hcz26_3, hcz26_4, hcz26_5, hcz26_6, hcz26_7, hcz26_8, hcz26_9, hcz26_10, hcz26_11, hcz26_12, hcz26_13, hfz26_0, hfz26_1, hfz26_2, hfz26_3, hfz26_4, hfz26_5, hfz26_6, hfz26_7, hfz26_8, hfz26_9, hfz26_10, hfz26_11, hfz26_12, hfz26_13⟩ := blkc14 BK272.out) | (go_at_call 38; (with_reducible refine (impl_IsValidDate.calls k a0_7 a0_8 a0_9 a0_10 _ _ A12.out).mono ?_); rintro e w27 ⟨rfl, hb⟩; replace BK272 := Aside0.mk (blk_below (g := gb272) au53 hb); replace HB := Aside0.mk (below_step au27 hb); (try clear hb)))
       go_meet
       case rel => exact ⟨_, (true), au72, H', ⟨by first | omega | exact Nat.le_refl _⟩, ⟨by (with_reducible repeat (first | refine blk_drewN ?_ _ | refine blk_drew ?_ | refine blk_alloc ?_ _)); exact BK272.out⟩, ⟨by repeat (first | (with_reducible first | exact HB.out | apply below_alloc | apply pw_below_drewN | apply below_drew1 | refine below_set ?_ GE272.out) | exact HB.out)⟩⟩
     ·
      replace c11 := Bool.eq_false_iff.mpr c11
      subst c11
      replace H := (if_neg (show ¬ (false = true) by decide)).symm.trans H
      have H' := Aside0.mk H
      clear H
      obtain ⟨hcz28_0, hcz28_1, hcz28_2, hcz28_3, hcz28_4, hcz28_5, hcz28_6, hcz28_7, hcz28_8, hcz28_9, hcz28_10, hcz28_11, hcz28_12, hcz28_13, hfz28_0, hfz28_1, hfz28_2, hfz28_3, hfz28_4, hfz28_5, hfz28_6, hfz28_7, hfz28_8, hfz28_9, hfz28_10, hfz28_11, hfz28_12, hfz28_13⟩ := blkc14 BK272.out
      go_wp2_with (first | ((with_reducible refine gate_callee (f := 36) rfl ?_); refine goesL_ (some 5) rfl rfl Tryd.func36 (by kernel_rfl) rfl #[.string a0_0] rfl au35 ?_; (with_reducible refine (impl_isKey.calls k a0_0 _ _ A4.out).mono ?_); rintro e w' ⟨rfl, ⟨nd, rfl⟩⟩; refine ⟨_, rfl, ?_⟩) | (go_at_call 18; (with_reducible refine (impl_isKind.calls a0_1 _ _ A6.out).mono ?_); rintro e w' ⟨rfl, ⟨nd, rfl⟩⟩) | (go_at_call 37; (with_reducible refine (impl_areNames.calls (hG := au0) k _ _ l0_2 _ _ ?side1 ?side2 A8.out).mono ?_); (case side1 => repeat (first | exact (Kd.C_below HR0_2.out au27) | (with_reducible refine Kd.C_alloc ?_ _) | (with_reducible refine Kd.C_drewN ?_ _) | (with_reducible refine Kd.C_drew ?_))); (case side2 => exact HC0_2.out); rintro e w29 ⟨rfl, hb⟩; replace BK272 := Aside0.mk (blk_below (g := gb272) au53 hb); replace HB := Aside0.mk (below_step au27 hb); (try clear hb); obtain ⟨hcz30_0, hcz30_1, hcz30_2, hcz30_3, hcz30_4, hcz30_5, hcz30_6, hcz30_7, hcz30_8, hcz30_9, hcz30_10, hcz30_11, hcz30_12, hcz30_13, hfz30_0, hfz30_1, hfz30_2, hfz30_3, hfz30_4, hfz30_5, hfz30_6, hfz30_7, hfz30_8, hfz30_9, hfz30_10, hfz30_11, hfz30_12, hfz30_13⟩ := blkc14 BK272.out) | (go_at_call 37; (with_reducible refine (impl_areNames.calls (hG := au0) k _ _ l0_3 _ _ ?side1 ?side2 A10.out).mono ?_); (case side1 => repeat (first | exact (Kd.C_below HR0_3.out HB.out) | (with_reducible refine Kd.C_alloc ?_ _) | (with_reducible refine Kd.C_drewN ?_ _) | (with_reducible refine Kd.C_drew ?_))); (case side2 => exact HC0_3.out); rintro e w31 ⟨rfl, hb⟩; replace BK272 := Aside0.mk (blk_below (g := gb272) au53 hb); replace HB := Aside0.mk (below_step au27 hb); (try clear hb)))
      go_meet
      case rel => exact ⟨_, (true), au72, H', ⟨by first | omega | exact Nat.le_refl _⟩, ⟨by (with_reducible repeat (first | refine blk_drewN ?_ _ | refine blk_drew ?_ | refine blk_alloc ?_ _)); exact BK272.out⟩, ⟨by repeat (first | (with_reducible first | exact HB.out | apply below_alloc | apply pw_below_drewN | apply below_drew1 | refine below_set ?_ GE272.out) | exact HB.out)⟩⟩
    ·
     replace c9 := Bool.eq_false_iff.mpr c9
     subst c9
     replace H := (if_neg (show ¬ (false = true) by decide)).symm.trans H
     have H' := Aside0.mk H
     clear H
     obtain ⟨hcz32_0, hcz32_1, hcz32_2, hcz32_3, hcz32_4, hcz32_5, hcz32_6, hcz32_7, hcz32_8, hcz32_9, hcz32_10, hcz32_11, hcz32_12, hcz32_13, hfz32_0, hfz32_1, hfz32_2, hfz32_3, hfz32_4, hfz32_5, hfz32_6, hfz32_7, hfz32_8, hfz32_9, hfz32_10, hfz32_11, hfz32_12, hfz32_13⟩ := blkc14 BK272.out
     go_wp2_with (first | ((with_reducible refine gate_callee (f := 36) rfl ?_); refine goesL_ (some 5) rfl rfl Tryd.func36 (by kernel_rfl) rfl #[.string a0_0] rfl au35 ?_; (with_reducible refine (impl_isKey.calls k a0_0 _ _ A4.out).mono ?_); rintro e w' ⟨rfl, ⟨nd, rfl⟩⟩; refine ⟨_, rfl, ?_⟩) | (go_at_call 18; (with_reducible refine (impl_isKind.calls a0_1 _ _ A6.out).mono ?_); rintro e w' ⟨rfl, ⟨nd, rfl⟩⟩) | (go_at_call 37; (with_reducible refine (impl_areNames.calls (hG := au0) k _ _ l0_2 _ _ ?side1 ?side2 A8.out).mono ?_); (case side1 => repeat (first | exact (Kd.C_below HR0_2.out au27) | (with_reducible refine Kd.C_alloc ?_ _) | (with_reducible refine Kd.C_drewN ?_ _) | (with_reducible refine Kd.C_drew ?_))); (case side2 => exact HC0_2.out); rintro e w33 ⟨rfl, hb⟩; replace BK272 := Aside0.mk (blk_below (g := gb272) au53 hb); replace HB := Aside0.mk (below_step au27 hb); (try clear hb)))
     go_meet
     case rel => exact ⟨_, (true), au72, H', ⟨by first | omega | exact Nat.le_refl _⟩, ⟨by (with_reducible repeat (first | refine blk_drewN ?_ _ | refine blk_drew ?_ | refine blk_alloc ?_ _)); exact BK272.out⟩, ⟨by repeat (first | (with_reducible first | exact HB.out | apply below_alloc | apply pw_below_drewN | apply below_drew1 | refine below_set ?_ GE272.out) | exact HB.out)⟩⟩
   ·
    replace c7 := Bool.eq_false_iff.mpr c7
    subst c7
    replace H := (if_neg (show ¬ (false = true) by decide)).symm.trans H
    have H' := Aside0.mk H
    clear H
    obtain ⟨hcz34_0, hcz34_1, hcz34_2, hcz34_3, hcz34_4, hcz34_5, hcz34_6, hcz34_7, hcz34_8, hcz34_9, hcz34_10, hcz34_11, hcz34_12, hcz34_13, hfz34_0, hfz34_1, hfz34_2, hfz34_3, hfz34_4, hfz34_5, hfz34_6, hfz34_7, hfz34_8, hfz34_9, hfz34_10, hfz34_11, hfz34_12, hfz34_13⟩ := blkc14 BK272.out
    exact impl_IsValidEntry.L0
  ·
   replace c5 := Bool.eq_false_iff.mpr c5
   subst c5
   replace H := (if_neg (show ¬ (false = true) by decide)).symm.trans H
   have H' := Aside0.mk H
   clear H
   obtain ⟨hcz35_0, hcz35_1, hcz35_2, hcz35_3, hcz35_4, hcz35_5, hcz35_6, hcz35_7, hcz35_8, hcz35_9, hcz35_10, hcz35_11, hcz35_12, hcz35_13, hfz35_0, hfz35_1, hfz35_2, hfz35_3, hfz35_4, hfz35_5, hfz35_6, hfz35_7, hfz35_8, hfz35_9, hfz35_10, hfz35_11, hfz35_12, hfz35_13⟩ := blkc14 BK272.out
   exact impl_IsValidEntry.L0
 case rest =>
  clear HC2
  try clear c1
  try clear c2
  try clear p2
  try clear c3
  try clear c5
  try clear c7
  try clear c9
  try clear c11
  try clear c13
  try clear c25
  try clear hcz15_0
  try clear hcz15_1
  try clear hcz15_10
  try clear hcz15_11
  try clear hcz15_12
  try clear hcz15_13
  try clear hcz15_2
  try clear hcz15_3
  try clear hcz15_4
  try clear hcz15_5
  try clear hcz15_6
  try clear hcz15_7
  try clear hcz15_8
  try clear hcz15_9
  try clear hcz17_0
  try clear hcz17_1
  try clear hcz17_10
  try clear hcz17_11
  try clear hcz17_12
  try clear hcz17_13
  try clear hcz17_2
  try clear hcz17_3
  try clear hcz17_4
  try clear hcz17_5
  try clear hcz17_6
  try clear hcz17_7
  try clear hcz17_8
  try clear hcz17_9
  try clear hcz19_0
  try clear hcz19_1
  try clear hcz19_10
  try clear hcz19_11
  try clear hcz19_12
  try clear hcz19_13
  try clear hcz19_2
  try clear hcz19_3
  try clear hcz19_4
  try clear hcz19_5
  try clear hcz19_6
  try clear hcz19_7
  try clear hcz19_8
  try clear hcz19_9
  try clear hcz21_0
  try clear hcz21_1
  try clear hcz21_10
  try clear hcz21_11
  try clear hcz21_12
  try clear hcz21_13
  try clear hcz21_2
  try clear hcz21_3
  try clear hcz21_4
  try clear hcz21_5
  try clear hcz21_6
  try clear hcz21_7
  try clear hcz21_8
  try clear hcz21_9
  try clear hcz22_0
  try clear hcz22_1
  try clear hcz22_10
  try clear hcz22_11
  try clear hcz22_12
  try clear hcz22_13
  try clear hcz22_2
  try clear hcz22_3
  try clear hcz22_4
  try clear hcz22_5
  try clear hcz22_6
  try clear hcz22_7
  try clear hcz22_8
  try clear hcz22_9
  try clear hcz24_0
  try clear hcz24_1
  try clear hcz24_10
  try clear hcz24_11
  try clear hcz24_12
  try clear hcz24_13
  try clear hcz24_2
  try clear hcz24_3
  try clear hcz24_4
  try clear hcz24_5
  try clear hcz24_6
  try clear hcz24_7
  try clear hcz24_8
  try clear hcz24_9
  try clear hcz26_0
  try clear hcz26_1
  try clear hcz26_10
  try clear hcz26_11
  try clear hcz26_12
  try clear hcz26_13
  try clear hcz26_2
  try clear hcz26_3
  try clear hcz26_4
  try clear hcz26_5
  try clear hcz26_6
  try clear hcz26_7
  try clear hcz26_8
  try clear hcz26_9
  try clear hcz28_0
  try clear hcz28_1
  try clear hcz28_10
  try clear hcz28_11
  try clear hcz28_12
  try clear hcz28_13
  try clear hcz28_2
  try clear hcz28_3
  try clear hcz28_4
  try clear hcz28_5
  try clear hcz28_6
  try clear hcz28_7
  try clear hcz28_8
  try clear hcz28_9
  try clear hcz30_0
  try clear hcz30_1
  try clear hcz30_10
  try clear hcz30_11
  try clear hcz30_12
  try clear hcz30_13
  try clear hcz30_2
  try clear hcz30_3
  try clear hcz30_4
  try clear hcz30_5
  try clear hcz30_6
  try clear hcz30_7
  try clear hcz30_8
  try clear hcz30_9
  try clear hcz32_0
  try clear hcz32_1
  try clear hcz32_10
  try clear hcz32_11
  try clear hcz32_12
  try clear hcz32_13
  try clear hcz32_2
  try clear hcz32_3
  try clear hcz32_4
  try clear hcz32_5
  try clear hcz32_6
  try clear hcz32_7
  try clear hcz32_8
  try clear hcz32_9
  try clear hcz34_0
  try clear hcz34_1
  try clear hcz34_10
  try clear hcz34_11
  try clear hcz34_12
  try clear hcz34_13
  try clear hcz34_2
  try clear hcz34_3
  try clear hcz34_4
  try clear hcz34_5
  try clear hcz34_6
  try clear hcz34_7
  try clear hcz34_8
  try clear hcz34_9
  try clear hcz35_0
  try clear hcz35_1
  try clear hcz35_10
  try clear hcz35_11
  try clear hcz35_12
  try clear hcz35_13
  try clear hcz35_2
  try clear hcz35_3
  try clear hcz35_4
  try clear hcz35_5
  try clear hcz35_6
  try clear hcz35_7
  try clear hcz35_8
  try clear hcz35_9
  try clear hfz15_0
  try clear hfz15_1
  try clear hfz15_10
  try clear hfz15_11
  try clear hfz15_12
  try clear hfz15_13
  try clear hfz15_2
  try clear hfz15_3
  try clear hfz15_4
  try clear hfz15_5
  try clear hfz15_6
  try clear hfz15_7
  try clear hfz15_8
  try clear hfz15_9
  try clear hfz17_0
  try clear hfz17_1
  try clear hfz17_10
  try clear hfz17_11
  try clear hfz17_12
  try clear hfz17_13
  try clear hfz17_2
  try clear hfz17_3
  try clear hfz17_4
  try clear hfz17_5
  try clear hfz17_6
  try clear hfz17_7
  try clear hfz17_8
  try clear hfz17_9
  try clear hfz19_0
  try clear hfz19_1
  try clear hfz19_10
  try clear hfz19_11
  try clear hfz19_12
  try clear hfz19_13
  try clear hfz19_2
  try clear hfz19_3
  try clear hfz19_4
  try clear hfz19_5
  try clear hfz19_6
  try clear hfz19_7
  try clear hfz19_8
  try clear hfz19_9
  try clear hfz21_0
  try clear hfz21_1
  try clear hfz21_10
  try clear hfz21_11
  try clear hfz21_12
  try clear hfz21_13
  try clear hfz21_2
  try clear hfz21_3
  try clear hfz21_4
  try clear hfz21_5
  try clear hfz21_6
  try clear hfz21_7
  try clear hfz21_8
  try clear hfz21_9
  try clear hfz22_0
  try clear hfz22_1
  try clear hfz22_10
  try clear hfz22_11
  try clear hfz22_12
  try clear hfz22_13
  try clear hfz22_2
  try clear hfz22_3
  try clear hfz22_4
  try clear hfz22_5
  try clear hfz22_6
  try clear hfz22_7
  try clear hfz22_8
  try clear hfz22_9
  try clear hfz24_0
  try clear hfz24_1
  try clear hfz24_10
  try clear hfz24_11
  try clear hfz24_12
  try clear hfz24_13
  try clear hfz24_2
  try clear hfz24_3
  try clear hfz24_4
  try clear hfz24_5
  try clear hfz24_6
  try clear hfz24_7
  try clear hfz24_8
  try clear hfz24_9
  try clear hfz26_0
  try clear hfz26_1
  try clear hfz26_10
  try clear hfz26_11
  try clear hfz26_12
  try clear hfz26_13
  try clear hfz26_2
  try clear hfz26_3
  try clear hfz26_4
  try clear hfz26_5
  try clear hfz26_6
  try clear hfz26_7
  try clear hfz26_8
  try clear hfz26_9
  try clear hfz28_0
  try clear hfz28_1
  try clear hfz28_10
  try clear hfz28_11
  try clear hfz28_12
  try clear hfz28_13
  try clear hfz28_2
  try clear hfz28_3
  try clear hfz28_4
  try clear hfz28_5
  try clear hfz28_6
  try clear hfz28_7
  try clear hfz28_8
  try clear hfz28_9
  try clear hfz30_0
  try clear hfz30_1
  try clear hfz30_10
  try clear hfz30_11
  try clear hfz30_12
  try clear hfz30_13
  try clear hfz30_2
  try clear hfz30_3
  try clear hfz30_4
  try clear hfz30_5
  try clear hfz30_6
  try clear hfz30_7
  try clear hfz30_8
  try clear hfz30_9
  try clear hfz32_0
  try clear hfz32_1
  try clear hfz32_10
  try clear hfz32_11
  try clear hfz32_12
  try clear hfz32_13
  try clear hfz32_2
  try clear hfz32_3
  try clear hfz32_4
  try clear hfz32_5
  try clear hfz32_6
  try clear hfz32_7
  try clear hfz32_8
  try clear hfz32_9
  try clear hfz34_0
  try clear hfz34_1
  try clear hfz34_10
  try clear hfz34_11
  try clear hfz34_12
  try clear hfz34_13
  try clear hfz34_2
  try clear hfz34_3
  try clear hfz34_4
  try clear hfz34_5
  try clear hfz34_6
  try clear hfz34_7
  try clear hfz34_8
  try clear hfz34_9
  try clear hfz35_0
  try clear hfz35_1
  try clear hfz35_10
  try clear hfz35_11
  try clear hfz35_12
  try clear hfz35_13
  try clear hfz35_2
  try clear hfz35_3
  try clear hfz35_4
  try clear hfz35_5
  try clear hfz35_6
  try clear hfz35_7
  try clear hfz35_8
  try clear hfz35_9
  obtain ⟨kq, x36_1, rfl, HA, HJ1, BK272, HB⟩ := hcut
  cases kq with
  | zero => exact absurd HA.out (by simp [impl_IsValidEntry.j0])
  | succ kj1 =>
   have H := HA.out
   clear HA
   simp only [impl_IsValidEntry.j0] at H
   by_cases c36 : x36_1 = true
   ·
    subst c36
    replace H := (if_pos rfl).symm.trans H
    obtain rfl := Option.some.inj H
    exact impl_IsValidEntry.L1
   ·
    replace c36 := Bool.eq_false_iff.mpr c36
    subst c36
    replace H := (if_neg (show ¬ (false = true) by decide)).symm.trans H
    replace H := Option.bind_eq_some_iff.mp H
    obtain ⟨t279, A370, H⟩ := H
    try dsimp only at H
    have A37 := Aside0.mk A370
    clear A370
    by_cases c38 : t279 = true
    ·
     subst c38
     replace H := (if_pos rfl).symm.trans H
     replace H := Option.bind_eq_some_iff.mp H
     obtain ⟨t280, A390, H⟩ := H
     try dsimp only at H
     have A39 := Aside0.mk A390
     clear A390
     by_cases c40 : t280 = true
     ·
      subst c40
      replace H := (if_pos rfl).symm.trans H
      replace H := Option.bind_eq_some_iff.mp H
      obtain ⟨t281, A410, H⟩ := H
      try dsimp only at H
      have A41 := Aside0.mk A410
      clear A410
      by_cases c42 : t281 = true
      ·
       subst c42
       replace H := (if_pos rfl).symm.trans H
       replace H := Option.bind_eq_some_iff.mp H
       obtain ⟨t282, A430, H⟩ := H
       try dsimp only at H
       have A43 := Aside0.mk A430
       clear A430
       by_cases c44 : t282 = true
       ·
        subst c44
        replace H := (if_pos rfl).symm.trans H
        by_cases c45 : a0_13.toList = ([] : List UInt8)
        ·
         rw [if_pos c45] at H
         have c45b0 : (a0_13.toList == ([] : List UInt8)) = true := beq_iff_eq.mpr c45
         have c45b1 : (a0_13.toList != ([] : List UInt8)) = false := bne_eq_false_iff_eq.mpr c45
         clear c45
         obtain rfl := Option.some.inj H
         obtain ⟨hcz46_0, hcz46_1, hcz46_2, hcz46_3, hcz46_4, hcz46_5, hcz46_6, hcz46_7, hcz46_8, hcz46_9, hcz46_10, hcz46_11, hcz46_12, hcz46_13, hfz46_0, hfz46_1, hfz46_2, hfz46_3, hfz46_4, hfz46_5, hfz46_6, hfz46_7, hfz46_8, hfz46_9, hfz46_10, hfz46_11, hfz46_12, hfz46_13⟩ := blkc14 BK272.out
         exact impl_IsValidEntry.L1
        ·
         rw [if_neg c45] at H
         have c45b0 : (a0_13.toList == ([] : List UInt8)) = false := beq_eq_false_iff_ne.mpr c45
         have c45b1 : (a0_13.toList != ([] : List UInt8)) = true := bne_iff_ne.mpr c45
         replace H := Option.bind_eq_some_iff.mp H
         obtain ⟨t283, A550, H⟩ := H
         try dsimp only at H
         have A55 := Aside0.mk A550
         clear A550
         by_cases c56 : t283 = true
         ·
          subst c56
          replace H := (if_pos rfl).symm.trans H
          obtain rfl := Option.some.inj H
          obtain ⟨hcz57_0, hcz57_1, hcz57_2, hcz57_3, hcz57_4, hcz57_5, hcz57_6, hcz57_7, hcz57_8, hcz57_9, hcz57_10, hcz57_11, hcz57_12, hcz57_13, hfz57_0, hfz57_1, hfz57_2, hfz57_3, hfz57_4, hfz57_5, hfz57_6, hfz57_7, hfz57_8, hfz57_9, hfz57_10, hfz57_11, hfz57_12, hfz57_13⟩ := blkc14 BK272.out
          exact impl_IsValidEntry.L1
         ·
          replace c56 := Bool.eq_false_iff.mpr c56
          subst c56
          replace H := (if_neg (show ¬ (false = true) by decide)).symm.trans H
          obtain rfl := Option.some.inj H
          obtain ⟨hcz66_0, hcz66_1, hcz66_2, hcz66_3, hcz66_4, hcz66_5, hcz66_6, hcz66_7, hcz66_8, hcz66_9, hcz66_10, hcz66_11, hcz66_12, hcz66_13, hfz66_0, hfz66_1, hfz66_2, hfz66_3, hfz66_4, hfz66_5, hfz66_6, hfz66_7, hfz66_8, hfz66_9, hfz66_10, hfz66_11, hfz66_12, hfz66_13⟩ := blkc14 BK272.out
          exact impl_IsValidEntry.L1
       ·
        replace c44 := Bool.eq_false_iff.mpr c44
        subst c44
        replace H := (if_neg (show ¬ (false = true) by decide)).symm.trans H
        obtain rfl := Option.some.inj H
        obtain ⟨hcz75_0, hcz75_1, hcz75_2, hcz75_3, hcz75_4, hcz75_5, hcz75_6, hcz75_7, hcz75_8, hcz75_9, hcz75_10, hcz75_11, hcz75_12, hcz75_13, hfz75_0, hfz75_1, hfz75_2, hfz75_3, hfz75_4, hfz75_5, hfz75_6, hfz75_7, hfz75_8, hfz75_9, hfz75_10, hfz75_11, hfz75_12, hfz75_13⟩ := blkc14 BK272.out
        go_wp2_with (first | ((with_reducible refine gate_callee (f := 39) rfl ?_); refine goesL_ (some 39) rfl rfl Tryd.func39 (by kernel_rfl) rfl #[.string a0_4] rfl au35 ?_; (with_reducible refine (impl_isText.calls kj1 a0_4 _ _ A37.out).mono ?_); rintro e w76 ⟨rfl, hb⟩; refine ⟨_, rfl, ?_⟩; replace BK272 := Aside0.mk (blk_below (g := gb272) au53 hb); replace HB := Aside0.mk (below_step au27 hb); (try clear hb); obtain ⟨hcz77_0, hcz77_1, hcz77_2, hcz77_3, hcz77_4, hcz77_5, hcz77_6, hcz77_7, hcz77_8, hcz77_9, hcz77_10, hcz77_11, hcz77_12, hcz77_13, hfz77_0, hfz77_1, hfz77_2, hfz77_3, hfz77_4, hfz77_5, hfz77_6, hfz77_7, hfz77_8, hfz77_9, hfz77_10, hfz77_11, hfz77_12, hfz77_13⟩ := blkc14 BK272.out) | (go_at_call 39; (with_reducible refine (impl_isText.calls kj1 a0_5 _ _ A39.out).mono ?_); rintro e w78 ⟨rfl, hb⟩; replace BK272 := Aside0.mk (blk_below (g := gb272) au53 hb); replace HB := Aside0.mk (below_step au27 hb); (try clear hb); obtain ⟨hcz79_0, hcz79_1, hcz79_2, hcz79_3, hcz79_4, hcz79_5, hcz79_6, hcz79_7, hcz79_8, hcz79_9, hcz79_10, hcz79_11, hcz79_12, hcz79_13, hfz79_0, hfz79_1, hfz79_2, hfz79_3, hfz79_4, hfz79_5, hfz79_6, hfz79_7, hfz79_8, hfz79_9, hfz79_10, hfz79_11, hfz79_12, hfz79_13⟩ := blkc14 BK272.out) | (go_at_call 39; (with_reducible refine (impl_isText.calls kj1 a0_6 _ _ A41.out).mono ?_); rintro e w80 ⟨rfl, hb⟩; replace BK272 := Aside0.mk (blk_below (g := gb272) au53 hb); replace HB := Aside0.mk (below_step au27 hb); (try clear hb); obtain ⟨hcz81_0, hcz81_1, hcz81_2, hcz81_3, hcz81_4, hcz81_5, hcz81_6, hcz81_7, hcz81_8, hcz81_9, hcz81_10, hcz81_11, hcz81_12, hcz81_13, hfz81_0, hfz81_1, hfz81_2, hfz81_3, hfz81_4, hfz81_5, hfz81_6, hfz81_7, hfz81_8, hfz81_9, hfz81_10, hfz81_11, hfz81_12, hfz81_13⟩ := blkc14 BK272.out) | (go_at_call 39; (with_reducible refine (impl_isText.calls kj1 a0_12 _ _ A43.out).mono ?_); rintro e w82 ⟨rfl, hb⟩; replace BK272 := Aside0.mk (blk_below (g := gb272) au53 hb); replace HB := Aside0.mk (below_step au27 hb); (try clear hb)))
        go_ret
        exact ax9
      ·
       replace c42 := Bool.eq_false_iff.mpr c42
       subst c42
       replace H := (if_neg (show ¬ (false = true) by decide)).symm.trans H
       obtain rfl := Option.some.inj H
       obtain ⟨hcz83_0, hcz83_1, hcz83_2, hcz83_3, hcz83_4, hcz83_5, hcz83_6, hcz83_7, hcz83_8, hcz83_9, hcz83_10, hcz83_11, hcz83_12, hcz83_13, hfz83_0, hfz83_1, hfz83_2, hfz83_3, hfz83_4, hfz83_5, hfz83_6, hfz83_7, hfz83_8, hfz83_9, hfz83_10, hfz83_11, hfz83_12, hfz83_13⟩ := blkc14 BK272.out
       go_wp2_with (first | ((with_reducible refine gate_callee (f := 39) rfl ?_); refine goesL_ (some 39) rfl rfl Tryd.func39 (by kernel_rfl) rfl #[.string a0_4] rfl au35 ?_; (with_reducible refine (impl_isText.calls kj1 a0_4 _ _ A37.out).mono ?_); rintro e w84 ⟨rfl, hb⟩; refine ⟨_, rfl, ?_⟩; replace BK272 := Aside0.mk (blk_below (g := gb272) au53 hb); replace HB := Aside0.mk (below_step au27 hb); (try clear hb); obtain ⟨hcz85_0, hcz85_1, hcz85_2, hcz85_3, hcz85_4, hcz85_5, hcz85_6, hcz85_7, hcz85_8, hcz85_9, hcz85_10, hcz85_11, hcz85_12, hcz85_13, hfz85_0, hfz85_1, hfz85_2, hfz85_3, hfz85_4, hfz85_5, hfz85_6, hfz85_7, hfz85_8, hfz85_9, hfz85_10, hfz85_11, hfz85_12, hfz85_13⟩ := blkc14 BK272.out) | (go_at_call 39; (with_reducible refine (impl_isText.calls kj1 a0_5 _ _ A39.out).mono ?_); rintro e w86 ⟨rfl, hb⟩; replace BK272 := Aside0.mk (blk_below (g := gb272) au53 hb); replace HB := Aside0.mk (below_step au27 hb); (try clear hb); obtain ⟨hcz87_0, hcz87_1, hcz87_2, hcz87_3, hcz87_4, hcz87_5, hcz87_6, hcz87_7, hcz87_8, hcz87_9, hcz87_10, hcz87_11, hcz87_12, hcz87_13, hfz87_0, hfz87_1, hfz87_2, hfz87_3, hfz87_4, hfz87_5, hfz87_6, hfz87_7, hfz87_8, hfz87_9, hfz87_10, hfz87_11, hfz87_12, hfz87_13⟩ := blkc14 BK272.out) | (go_at_call 39; (with_reducible refine (impl_isText.calls kj1 a0_6 _ _ A41.out).mono ?_); rintro e w88 ⟨rfl, hb⟩; replace BK272 := Aside0.mk (blk_below (g := gb272) au53 hb); replace HB := Aside0.mk (below_step au27 hb); (try clear hb)))
       go_ret
       exact ax9
     ·
      replace c40 := Bool.eq_false_iff.mpr c40
      subst c40
      replace H := (if_neg (show ¬ (false = true) by decide)).symm.trans H
      obtain rfl := Option.some.inj H
      obtain ⟨hcz89_0, hcz89_1, hcz89_2, hcz89_3, hcz89_4, hcz89_5, hcz89_6, hcz89_7, hcz89_8, hcz89_9, hcz89_10, hcz89_11, hcz89_12, hcz89_13, hfz89_0, hfz89_1, hfz89_2, hfz89_3, hfz89_4, hfz89_5, hfz89_6, hfz89_7, hfz89_8, hfz89_9, hfz89_10, hfz89_11, hfz89_12, hfz89_13⟩ := blkc14 BK272.out
      go_wp2_with (first | ((with_reducible refine gate_callee (f := 39) rfl ?_); refine goesL_ (some 39) rfl rfl Tryd.func39 (by kernel_rfl) rfl #[.string a0_4] rfl au35 ?_; (with_reducible refine (impl_isText.calls kj1 a0_4 _ _ A37.out).mono ?_); rintro e w90 ⟨rfl, hb⟩; refine ⟨_, rfl, ?_⟩; replace BK272 := Aside0.mk (blk_below (g := gb272) au53 hb); replace HB := Aside0.mk (below_step au27 hb); (try clear hb); obtain ⟨hcz91_0, hcz91_1, hcz91_2, hcz91_3, hcz91_4, hcz91_5, hcz91_6, hcz91_7, hcz91_8, hcz91_9, hcz91_10, hcz91_11, hcz91_12, hcz91_13, hfz91_0, hfz91_1, hfz91_2, hfz91_3, hfz91_4, hfz91_5, hfz91_6, hfz91_7, hfz91_8, hfz91_9, hfz91_10, hfz91_11, hfz91_12, hfz91_13⟩ := blkc14 BK272.out) | (go_at_call 39; (with_reducible refine (impl_isText.calls kj1 a0_5 _ _ A39.out).mono ?_); rintro e w92 ⟨rfl, hb⟩; replace BK272 := Aside0.mk (blk_below (g := gb272) au53 hb); replace HB := Aside0.mk (below_step au27 hb); (try clear hb)))
      go_ret
      exact ax9
    ·
     replace c38 := Bool.eq_false_iff.mpr c38
     subst c38
     replace H := (if_neg (show ¬ (false = true) by decide)).symm.trans H
     obtain rfl := Option.some.inj H
     obtain ⟨hcz93_0, hcz93_1, hcz93_2, hcz93_3, hcz93_4, hcz93_5, hcz93_6, hcz93_7, hcz93_8, hcz93_9, hcz93_10, hcz93_11, hcz93_12, hcz93_13, hfz93_0, hfz93_1, hfz93_2, hfz93_3, hfz93_4, hfz93_5, hfz93_6, hfz93_7, hfz93_8, hfz93_9, hfz93_10, hfz93_11, hfz93_12, hfz93_13⟩ := blkc14 BK272.out
     go_wp2_with (first | ((with_reducible refine gate_callee (f := 39) rfl ?_); refine goesL_ (some 39) rfl rfl Tryd.func39 (by kernel_rfl) rfl #[.string a0_4] rfl au35 ?_; (with_reducible refine (impl_isText.calls kj1 a0_4 _ _ A37.out).mono ?_); rintro e w94 ⟨rfl, hb⟩; refine ⟨_, rfl, ?_⟩; replace BK272 := Aside0.mk (blk_below (g := gb272) au53 hb); replace HB := Aside0.mk (below_step au27 hb); (try clear hb)))
     go_ret
     exact ax9


attribute [local go_sem high] gtr_s geq_s leq_s
/-! ### impl_IsValidLibrary: function 17 -/
def impl_IsValidLibrary.l0 : Nat → List (S45) → Int → Int → List (S45) → Option (Bool)
 | 0, _, _, _, _ => none
 | k + 1, x6, x7, x8, x285000 => if x8 < x7 then (if 0 ≤ x8 then (if x8 < (x6.length : Int) then ((impl_IsValidEntry.f k ((rd_T45 x6 x8).f0) ((rd_T45 x6 x8).f1) ((rd_T45 x6 x8).f2) ((rd_T45 x6 x8).f3) ((rd_T45 x6 x8).f4) ((rd_T45 x6 x8).f5) ((rd_T45 x6 x8).f6) ((rd_T45 x6 x8).f7.f0) ((rd_T45 x6 x8).f7.f1) ((rd_T45 x6 x8).f7.f2) ((rd_T45 x6 x8).f7.f3) ((rd_T45 x6 x8).f8) ((rd_T45 x6 x8).f9) ((rd_T45 x6 x8).f10)).bind fun t287 => (if t287 = true then (if x8 > 0 then (if 0 ≤ (wrap64 (x8 - 1)) then (if (wrap64 (x8 - 1)) < (x285000.length : Int) then (if ((Op.bytesLess (((rd_T45 x285000 (wrap64 (x8 - 1))).f0).toList) (((rd_T45 x6 x8).f0).toList)) = true) then (impl_IsValidLibrary.l0 k x6 x7 (wrap64 (x8 + 1)) x285000) else (some false)) else (none)) else (none)) else (impl_IsValidLibrary.l0 k x6 x7 (wrap64 (x8 + 1)) x285000)) else (some false))) else (none)) else (none)) else (some (decide ((x285000.length : Int) ≤ 8)))
def impl_IsValidLibrary.f (k : Nat) (l0_0 : List (S45)) : Option (Bool) := impl_IsValidLibrary.l0 k l0_0 (l0_0.length : Int) 0 l0_0
theorem impl_IsValidLibrary.mono_l : ∀ k, (∀ y0 y1 y2 y3, LeO (impl_IsValidLibrary.l0 k y0 y1 y2 y3) (impl_IsValidLibrary.l0 (k + 1) y0 y1 y2 y3))
 | 0 => fun _ _ _ _ r h => by simp [impl_IsValidLibrary.l0] at h
 | k + 1 => by
  have ih0 := impl_IsValidLibrary.mono_l k
  ·
   intro y0 y1 y2 y3
   unfold impl_IsValidLibrary.l0
   repeat' first
   | (with_reducible exact ih0 _ _ _ _)
   | (with_reducible exact impl_IsValidEntry.mono _ _ _ _ _ _ _ _ _ _ _ _ _ _ _)
   | (with_reducible exact LeO.refl _)
   | (with_reducible exact LeO.none _)
   | (with_reducible refine LeO.ite ?_ ?_)
   | (with_reducible refine LeO.bind ?_ (fun _ => ?_))
   | exact ih0 _ _ _ _
   | exact impl_IsValidEntry.mono _ _ _ _ _ _ _ _ _ _ _ _ _ _ _
   | exact LeO.none _
   | refine LeO.ite ?_ ?_
   | refine LeO.bind ?_ (fun _ => ?_)
theorem impl_IsValidLibrary.mono : ∀ a0 k, LeO (impl_IsValidLibrary.f k a0) (impl_IsValidLibrary.f (k + 1) a0) := by
 intro a0 k
 have ih0 := impl_IsValidLibrary.mono_l k
 unfold impl_IsValidLibrary.f
 repeat' first
   | (with_reducible exact ih0 _ _ _ _)
   | (with_reducible exact impl_IsValidEntry.mono _ _ _ _ _ _ _ _ _ _ _ _ _ _ _)
   | (with_reducible exact LeO.refl _)
   | (with_reducible exact LeO.none _)
   | (with_reducible refine LeO.ite ?_ ?_)
   | (with_reducible refine LeO.bind ?_ (fun _ => ?_))
   | exact ih0 _ _ _ _
   | exact impl_IsValidEntry.mono _ _ _ _ _ _ _ _ _ _ _ _ _ _ _
   | exact LeO.none _
   | refine LeO.ite ?_ ?_
   | refine LeO.bind ?_ (fun _ => ?_)
def impl_IsValidLibrary.T4 : Bool × List (List Nat × List Nat) := (true, [([], []), ([0], [0]), ([1], [1]), ([2, 1], [2]), ([3], [3]), ([4, 3], [3, 4]), ([5, 3, 3], [3, 5]), ([6], [6]), ([7, 6], [6, 7]), ([6], [6]), ([9, 6], [6, 9]), ([8, 10, 6], [6, 8, 10]), ([11, 6], [6, 11]), ([12, 6], [6, 12]), ([6], [6]), ([14, 6], [6, 14]), ([13, 15, 6], [6, 13, 15]), ([6, 16, 3], [3, 6, 16]), ([3, 17], [3, 17])])
def impl_IsValidLibrary.B4 : List Nat := [0, 1, 3, 7, 15, 31, 63, 127, 255, 127, 639, 2047, 4095, 8191, 127, 16511, 65535, 131071, 262143]
theorem impl_IsValidLibrary.tab4 : rtab .any (opsOf Tryd.f17 4) = impl_IsValidLibrary.T4 := by kernel_rfl
theorem impl_IsValidLibrary.bits4 : waitsOk impl_IsValidLibrary.T4.2 impl_IsValidLibrary.B4 = true := by kernel_rfl
set_option maxRecDepth 100000 in
theorem impl_IsValidLibrary.L0 {P : Prop} (h : P := by
  try go_wp2_with (first | ((with_reducible refine gate_dst (N := 4) rfl ?_); refine box_event ?hg (N := 4) ?hd (cs := #[.string (⟨#[]⟩ : ByteArray), .int .i64 0, .slice none 0 0, .slice none 0 0, .string (⟨#[]⟩ : ByteArray), .string (⟨#[]⟩ : ByteArray), .string (⟨#[]⟩ : ByteArray), .int .i64 0, .int .i64 0, .int .i64 0, .bool false, .int .i64 0, .string (⟨#[]⟩ : ByteArray), .string (⟨#[]⟩ : ByteArray)]) (t := 45) ?hr ?_; (case hd => rfl); (case hg => rfl); (case hr => first | (go_simp; done) | (go_simp; rfl)); intro gb286 hg w14 hbox hb; have BK286 := Aside0.mk (hbox); have GW286 := Aside0.mk (bsz hg au28); have GE286 := Aside0.mk (bsz hg au28); replace HB := Aside0.mk (below_step au28 hb); have NB284_286 := Aside0.mk (bne (g := gb284) hg au54); have NB286_284 := Aside0.mk (ben (g := gb284) hg au54); replace BK284 := Aside0.mk (blk_below (g := gb284) au54 hb); clear hb hbox hg; have hnb15 := NB286_284.out; have hnc15 := NB284_286.out; obtain ⟨hcz16_0, hcz16_1, hcz16_2, hcz16_3, hcz16_4, hcz16_5, hcz16_6, hcz16_7, hcz16_8, hcz16_9, hcz16_10, hcz16_11, hcz16_12, hcz16_13, hfz16_0, hfz16_1, hfz16_2, hfz16_3, hfz16_4, hfz16_5, hfz16_6, hfz16_7, hfz16_8, hfz16_9, hfz16_10, hfz16_11, hfz16_12, hfz16_13⟩ := blkc14 BK286.out))
  have n0_ : Aside0 (((((((((((((((w14.setCell ⟨gb286, 0, none⟩ (.string ((rd_T45 l0_0 x8_1).f0))).setCell ⟨gb286, 1, none⟩ (.int .i64 ((rd_T45 l0_0 x8_1).f1))).setCell ⟨gb286, 2, none⟩ (.slice A285_2 ((rd_T45 l0_0 x8_1).f2).length c285_2)).setCell ⟨gb286, 3, none⟩ (.slice A285_3 ((rd_T45 l0_0 x8_1).f3).length c285_3)).setCell ⟨gb286, 4, none⟩ (.string ((rd_T45 l0_0 x8_1).f4))).setCell ⟨gb286, 5, none⟩ (.string ((rd_T45 l0_0 x8_1).f5))).setCell ⟨gb286, 6, none⟩ (.string ((rd_T45 l0_0 x8_1).f6))).setCell ⟨gb286, 7, none⟩ (.int .i64 ((rd_T45 l0_0 x8_1).f7.f0))).setCell ⟨gb286, 8, none⟩ (.int .i64 ((rd_T45 l0_0 x8_1).f7.f1))).setCell ⟨gb286, 9, none⟩ (.int .i64 ((rd_T45 l0_0 x8_1).f7.f2))).setCell ⟨gb286, 10, none⟩ (.bool ((rd_T45 l0_0 x8_1).f7.f3))).setCell ⟨gb286, 11, none⟩ (.int .i64 ((rd_T45 l0_0 x8_1).f8))).setCell ⟨gb286, 12, none⟩ (.string ((rd_T45 l0_0 x8_1).f9))).setCell ⟨gb286, 13, none⟩ (.string ((rd_T45 l0_0 x8_1).f10))).heap[gb284]? = some (.cells #[.slice (some ad285) l0_0.length c0_0] 31 (0, 0))) := ⟨by (with_reducible repeat (first | refine blk_drewN ?_ _ | refine blk_drew ?_ | refine blk_alloc ?_ _)); refine blk_far ?_ NB284_286.out _; (with_reducible repeat (first | refine blk_drewN ?_ _ | refine blk_drew ?_ | refine blk_alloc ?_ _)); refine blk_far ?_ NB284_286.out _; (with_reducible repeat (first | refine blk_drewN ?_ _ | refine blk_drew ?_ | refine blk_alloc ?_ _)); refine blk_far ?_ NB284_286.out _; (with_reducible repeat (first | refine blk_drewN ?_ _ | refine blk_drew ?_ | refine blk_alloc ?_ _)); refine blk_far ?_ NB284_286.out _; (with_reducible repeat (first | refine blk_drewN ?_ _ | refine blk_drew ?_ | refine blk_alloc ?_ _)); refine blk_far ?_ NB284_286.out _; (with_reducible repeat (first | refine blk_drewN ?_ _ | refine blk_drew ?_ | refine blk_alloc ?_ _)); refine blk_far ?_ NB284_286.out _; (with_reducible repeat (first | refine blk_drewN ?_ _ | refine blk_drew ?_ | refine blk_alloc ?_ _)); refine blk_far ?_ NB284_286.out _; (with_reducible repeat (first | refine blk_drewN ?_ _ | refine blk_drew ?_ | refine blk_alloc ?_ _)); refine blk_far ?_ NB284_286.out _; (with_reducible repeat (first | refine blk_drewN ?_ _ | refine blk_drew ?_ | refine blk_alloc ?_ _)); refine blk_far ?_ NB284_286.out _; (with_reducible repeat (first | refine blk_drewN ?_ _ | refine blk_drew ?_ | refine blk_alloc ?_ _)); refine blk_far ?_ NB284_286.out _; (with_reducible repeat (first | refine blk_drewN ?_ _ | refine blk_drew ?_ | refine blk_alloc ?_ _)); refine blk_far ?_ NB284_286.out _; (with_reducible repeat (first | refine blk_drewN ?_ _ | refine blk_drew ?_ | refine blk_alloc ?_ _)); refine blk_far ?_ NB284_286.out _; (with_reducible repeat (first | refine blk_drewN ?_ _ | refine blk_drew ?_ | refine blk_alloc ?_ _)); refine blk_far ?_ NB284_286.out _; (with_reducible repeat (first | refine blk_drewN ?_ _ | refine blk_drew ?_ | refine blk_alloc ?_ _)); refine blk_far ?_ NB284_286.out _; (with_reducible repeat (first | refine blk_drewN ?_ _ | refine blk_drew ?_ | refine blk_alloc ?_ _)); exact BK284.out⟩
  have n1_ : Aside0 (((((((((((((((w14.setCell ⟨gb286, 0, none⟩ (.string ((rd_T45 l0_0 x8_1).f0))).setCell ⟨gb286, 1, none⟩ (.int .i64 ((rd_T45 l0_0 x8_1).f1))).setCell ⟨gb286, 2, none⟩ (.slice A285_2 ((rd_T45 l0_0 x8_1).f2).length c285_2)).setCell ⟨gb286, 3, none⟩ (.slice A285_3 ((rd_T45 l0_0 x8_1).f3).length c285_3)).setCell ⟨gb286, 4, none⟩ (.string ((rd_T45 l0_0 x8_1).f4))).setCell ⟨gb286, 5, none⟩ (.string ((rd_T45 l0_0 x8_1).f5))).setCell ⟨gb286, 6, none⟩ (.string ((rd_T45 l0_0 x8_1).f6))).setCell ⟨gb286, 7, none⟩ (.int .i64 ((rd_T45 l0_0 x8_1).f7.f0))).setCell ⟨gb286, 8, none⟩ (.int .i64 ((rd_T45 l0_0 x8_1).f7.f1))).setCell ⟨gb286, 9, none⟩ (.int .i64 ((rd_T45 l0_0 x8_1).f7.f2))).setCell ⟨gb286, 10, none⟩ (.bool ((rd_T45 l0_0 x8_1).f7.f3))).setCell ⟨gb286, 11, none⟩ (.int .i64 ((rd_T45 l0_0 x8_1).f8))).setCell ⟨gb286, 12, none⟩ (.string ((rd_T45 l0_0 x8_1).f9))).setCell ⟨gb286, 13, none⟩ (.string ((rd_T45 l0_0 x8_1).f10))).heap[gb286]? = some (.cells #[.string ((rd_T45 l0_0 x8_1).f0), .int .i64 ((rd_T45 l0_0 x8_1).f1), .slice A285_2 ((rd_T45 l0_0 x8_1).f2).length c285_2, .slice A285_3 ((rd_T45 l0_0 x8_1).f3).length c285_3, .string ((rd_T45 l0_0 x8_1).f4), .string ((rd_T45 l0_0 x8_1).f5), .string ((rd_T45 l0_0 x8_1).f6), .int .i64 ((rd_T45 l0_0 x8_1).f7.f0), .int .i64 ((rd_T45 l0_0 x8_1).f7.f1), .int .i64 ((rd_T45 l0_0 x8_1).f7.f2), .bool ((rd_T45 l0_0 x8_1).f7.f3), .int .i64 ((rd_T45 l0_0 x8_1).f8), .string ((rd_T45 l0_0 x8_1).f9), .string ((rd_T45 l0_0 x8_1).f10)] 45 (0, 0))) := ⟨by (with_reducible repeat (first | refine blk_drewN ?_ _ | refine blk_drew ?_ | refine blk_alloc ?_ _)); refine blk_put (cs := #[.string ((rd_T45 l0_0 x8_1).f0), .int .i64 ((rd_T45 l0_0 x8_1).f1), .slice A285_2 ((rd_T45 l0_0 x8_1).f2).length c285_2, .slice A285_3 ((rd_T45 l0_0 x8_1).f3).length c285_3, .string ((rd_T45 l0_0 x8_1).f4), .string ((rd_T45 l0_0 x8_1).f5), .string ((rd_T45 l0_0 x8_1).f6), .int .i64 ((rd_T45 l0_0 x8_1).f7.f0), .int .i64 ((rd_T45 l0_0 x8_1).f7.f1), .int .i64 ((rd_T45 l0_0 x8_1).f7.f2), .bool ((rd_T45 l0_0 x8_1).f7.f3), .int .i64 ((rd_T45 l0_0 x8_1).f8), .string ((rd_T45 l0_0 x8_1).f9), .string (⟨#[]⟩ : ByteArray)]) ?_ 13 _ rfl; (with_reducible repeat (first | refine blk_drewN ?_ _ | refine blk_drew ?_ | refine blk_alloc ?_ _)); refine blk_put (cs := #[.string ((rd_T45 l0_0 x8_1).f0), .int .i64 ((rd_T45 l0_0 x8_1).f1), .slice A285_2 ((rd_T45 l0_0 x8_1).f2).length c285_2, .slice A285_3 ((rd_T45 l0_0 x8_1).f3).length c285_3, .string ((rd_T45 l0_0 x8_1).f4), .string ((rd_T45 l0_0 x8_1).f5), .string ((rd_T45 l0_0 x8_1).f6), .int .i64 ((rd_T45 l0_0 x8_1).f7.f0), .int .i64 ((rd_T45 l0_0 x8_1).f7.f1), .int .i64 ((rd_T45 l0_0 x8_1).f7.f2), .bool ((rd_T45 l0_0 x8_1).f7.f3), .int .i64 ((rd_T45 l0_0 x8_1).f8), .string (⟨#[]⟩ : ByteArray), .string (⟨#[]⟩ : ByteArray)]) ?_ 12 _ rfl; (with_reducible repeat (first | refine blk_drewN ?_ _ | refine blk_drew ?_ | refine blk_alloc ?_ _)); refine blk_put (cs := #[.string ((rd_T45 l0_0 x8_1).f0), .int .i64 ((rd_T45 l0_0 x8_1).f1), .slice A285_2 ((rd_T45 l0_0 x8_1).f2).length c285_2, .slice A285_3 ((rd_T45 l0_0 x8_1).f3).length c285_3, .string ((rd_T45 l0_0 x8_1).f4), .string ((rd_T45 l0_0 x8_1).f5), .string ((rd_T45 l0_0 x8_1).f6), .int .i64 ((rd_T45 l0_0 x8_1).f7.f0), .int .i64 ((rd_T45 l0_0 x8_1).f7.f1), .int .i64 ((rd_T45 l0_0 x8_1).f7.f2), .bool ((rd_T45 l0_0 x8_1).f7.f3), .int .i64 0, .string (⟨#[]⟩ : ByteArray), .string (⟨#[]⟩ : ByteArray)]) ?_ 11 _ rfl; (with_reducible repeat (first | refine blk_drewN ?_ _ | refine blk_drew ?_ | refine blk_alloc ?_ _)); refine blk_put (cs := #[.string ((rd_T45 l0_0 x8_1).f0), .int .i64 ((rd_T45 l0_0 x8_1).f1), .slice A285_2 ((rd_T45 l0_0 x8_1).f2).length c285_2, .slice A285_3 ((rd_T45 l0_0 x8_1).f3).length c285_3, .string ((rd_T45 l0_0 x8_1).f4), .string ((rd_T45 l0_0 x8_1).f5), .string ((rd_T45 l0_0 x8_1).f6), .int .i64 ((rd_T45 l0_0 x8_1).f7.f0), .int .i64 ((rd_T45 l0_0 x8_1).f7.f1), .int .i64 ((rd_T45 l0_0 x8_1).f7.f2), .bool false, .int .i64 0, .string (⟨#[]⟩ : ByteArray), .string (⟨#[]⟩ : ByteArray)]) ?_ 10 _ rfl; (with_reducible repeat (first | refine blk_drewN ?_ _ | refine blk_drew ?_ | refine blk_alloc ?_ _)); refine blk_put (cs := #[.string ((rd_T45 l0_0 x8_1).f0), .int .i64 ((rd_T45 l0_0 x8_1).f1), .slice A285_2 ((rd_T45 l0_0 x8_1).f2).length c285_2, .slice A285_3 ((rd_T45 l0_0 x8_1).f3).length c285_3, .string ((rd_T45 l0_0 x8_1).f4), .string ((rd_T45 l0_0 x8_1).f5), .string ((rd_T45 l0_0 x8_1).f6), .int .i64 ((rd_T45 l0_0 x8_1).f7.f0), .int .i64 ((rd_T45 l0_0 x8_1).f7.f1), .int .i64 0, .bool false, .int .i64 0, .string (⟨#[]⟩ : ByteArray), .string (⟨#[]⟩ : ByteArray)]) ?_ 9 _ rfl; (with_reducible repeat (first | refine blk_drewN ?_ _ | refine blk_drew ?_ | refine blk_alloc ?_ _)); refine blk_put (cs := #[.string ((rd_T45 l0_0 x8_1).f0), .int .i64 ((rd_T45 l0_0 x8_1).f1), .slice A285_2 ((rd_T45 l0_0 x8_1).f2).length c285_2, .slice A285_3 ((rd_T45 l0_0 x8_1).f3).length c285_3, .string ((rd_T45 l0_0 x8_1).f4), .string ((rd_T45 l0_0 x8_1).f5), .string ((rd_T45 l0_0 x8_1).f6), .int .i64 ((rd_T45 l0_0 x8_1).f7.f0), .int .i64 0, .int .i64 0, .bool false, .int .i64 0, .string (⟨#[]⟩ : ByteArray), .string (⟨#[]⟩ : ByteArray)]) ?_ 8 _ rfl; (with_reducible repeat (first | refine blk_drewN ?_ _ | refine blk_drew ?_ | refine blk_alloc ?_ _)); refine blk_put (cs := #[.string ((rd_T45 l0_0 x8_1).f0), .int .i64 ((rd_T45 l0_0 x8_1).f1), .slice A285_2 ((rd_T45 l0_0 x8_1).f2).length c285_2, .slice A285_3 ((rd_T45 l0_0 x8_1).f3).length c285_3, .string ((rd_T45 l0_0 x8_1).f4), .string ((rd_T45 l0_0 x8_1).f5), .string ((rd_T45 l0_0 x8_1).f6), .int .i64 0, .int .i64 0, .int .i64 0, .bool false, .int .i64 0, .string (⟨#[]⟩ : ByteArray), .string (⟨#[]⟩ : ByteArray)]) ?_ 7 _ rfl; (with_reducible repeat (first | refine blk_drewN ?_ _ | refine blk_drew ?_ | refine blk_alloc ?_ _)); refine blk_put (cs := #[.string ((rd_T45 l0_0 x8_1).f0), .int .i64 ((rd_T45 l0_0 x8_1).f1), .slice A285_2 ((rd_T45 l0_0 x8_1).f2).length c285_2, .slice A285_3 ((rd_T45 l0_0 x8_1).f3).length c285_3, .string ((rd_T45 l0_0 x8_1).f4), .string ((rd_T45 l0_0 x8_1).f5), .string (⟨#[]⟩ : ByteArray), .int .i64 0, .int .i64 0, .int .i64 0, .bool false, .int .i64 0, .string (⟨#[]⟩ : ByteArray), .string (⟨#[]⟩ : ByteArray)]) ?_ 6 _ rfl; (with_reducible repeat (first | refine blk_drewN ?_ _ | refine blk_drew ?_ | refine blk_alloc ?_ _)); refine blk_put (cs := #[.string ((rd_T45 l0_0 x8_1).f0), .int .i64 ((rd_T45 l0_0 x8_1).f1), .slice A285_2 ((rd_T45 l0_0 x8_1).f2).length c285_2, .slice A285_3 ((rd_T45 l0_0 x8_1).f3).length c285_3, .string ((rd_T45 l0_0 x8_1).f4), .string (⟨#[]⟩ : ByteArray), .string (⟨#[]⟩ : ByteArray), .int .i64 0, .int .i64 0, .int .i64 0, .bool false, .int .i64 0, .string (⟨#[]⟩ : ByteArray), .string (⟨#[]⟩ : ByteArray)]) ?_ 5 _ rfl; (with_reducible repeat (first | refine blk_drewN ?_ _ | refine blk_drew ?_ | refine blk_alloc ?_ _)); refine blk_put (cs := #[.string ((rd_T45 l0_0 x8_1).f0), .int .i64 ((rd_T45 l0_0 x8_1).f1), .slice A285_2 ((rd_T45 l0_0 x8_1).f2).length c285_2, .slice A285_3 ((rd_T45 l0_0 x8_1).f3).length c285_3, .string (⟨#[]⟩ : ByteArray), .string (⟨#[]⟩ : ByteArray), .string (⟨#[]⟩ : ByteArray), .int .i64 0, .int .i64 0, .int .i64 0, .bool false, .int .i64 0, .string (⟨#[]⟩ : ByteArray), .string (⟨#[]⟩ : ByteArray)]) ?_ 4 _ rfl; (with_reducible repeat (first | refine blk_drewN ?_ _ | refine blk_drew ?_ | refine blk_alloc ?_ _)); refine blk_put (cs := #[.string ((rd_T45 l0_0 x8_1).f0), .int .i64 ((rd_T45 l0_0 x8_1).f1), .slice A285_2 ((rd_T45 l0_0 x8_1).f2).length c285_2, .slice none 0 0, .string (⟨#[]⟩ : ByteArray), .string (⟨#[]⟩ : ByteArray), .string (⟨#[]⟩ : ByteArray), .int .i64 0, .int .i64 0, .int .i64 0, .bool false, .int .i64 0, .string (⟨#[]⟩ : ByteArray), .string (⟨#[]⟩ : ByteArray)]) ?_ 3 _ rfl; (with_reducible repeat (first | refine blk_drewN ?_ _ | refine blk_drew ?_ | refine blk_alloc ?_ _)); refine blk_put (cs := #[.string ((rd_T45 l0_0 x8_1).f0), .int .i64 ((rd_T45 l0_0 x8_1).f1), .slice none 0 0, .slice none 0 0, .string (⟨#[]⟩ : ByteArray), .string (⟨#[]⟩ : ByteArray), .string (⟨#[]⟩ : ByteArray), .int .i64 0, .int .i64 0, .int .i64 0, .bool false, .int .i64 0, .string (⟨#[]⟩ : ByteArray), .string (⟨#[]⟩ : ByteArray)]) ?_ 2 _ rfl; (with_reducible repeat (first | refine blk_drewN ?_ _ | refine blk_drew ?_ | refine blk_alloc ?_ _)); refine blk_put (cs := #[.string ((rd_T45 l0_0 x8_1).f0), .int .i64 0, .slice none 0 0, .slice none 0 0, .string (⟨#[]⟩ : ByteArray), .string (⟨#[]⟩ : ByteArray), .string (⟨#[]⟩ : ByteArray), .int .i64 0, .int .i64 0, .int .i64 0, .bool false, .int .i64 0, .string (⟨#[]⟩ : ByteArray), .string (⟨#[]⟩ : ByteArray)]) ?_ 1 _ rfl; (with_reducible repeat (first | refine blk_drewN ?_ _ | refine blk_drew ?_ | refine blk_alloc ?_ _)); refine blk_put (cs := #[.string (⟨#[]⟩ : ByteArray), .int .i64 0, .slice none 0 0, .slice none 0 0, .string (⟨#[]⟩ : ByteArray), .string (⟨#[]⟩ : ByteArray), .string (⟨#[]⟩ : ByteArray), .int .i64 0, .int .i64 0, .int .i64 0, .bool false, .int .i64 0, .string (⟨#[]⟩ : ByteArray), .string (⟨#[]⟩ : ByteArray)]) ?_ 0 _ rfl; (with_reducible repeat (first | refine blk_drewN ?_ _ | refine blk_drew ?_ | refine blk_alloc ?_ _)); exact BK286.out⟩
  have n2_ : Aside0 (Below w.heap.size w ((((((((((((((w14.setCell ⟨gb286, 0, none⟩ (.string ((rd_T45 l0_0 x8_1).f0))).setCell ⟨gb286, 1, none⟩ (.int .i64 ((rd_T45 l0_0 x8_1).f1))).setCell ⟨gb286, 2, none⟩ (.slice A285_2 ((rd_T45 l0_0 x8_1).f2).length c285_2)).setCell ⟨gb286, 3, none⟩ (.slice A285_3 ((rd_T45 l0_0 x8_1).f3).length c285_3)).setCell ⟨gb286, 4, none⟩ (.string ((rd_T45 l0_0 x8_1).f4))).setCell ⟨gb286, 5, none⟩ (.string ((rd_T45 l0_0 x8_1).f5))).setCell ⟨gb286, 6, none⟩ (.string ((rd_T45 l0_0 x8_1).f6))).setCell ⟨gb286, 7, none⟩ (.int .i64 ((rd_T45 l0_0 x8_1).f7.f0))).setCell ⟨gb286, 8, none⟩ (.int .i64 ((rd_T45 l0_0 x8_1).f7.f1))).setCell ⟨gb286, 9, none⟩ (.int .i64 ((rd_T45 l0_0 x8_1).f7.f2))).setCell ⟨gb286, 10, none⟩ (.bool ((rd_T45 l0_0 x8_1).f7.f3))).setCell ⟨gb286, 11, none⟩ (.int .i64 ((rd_T45 l0_0 x8_1).f8))).setCell ⟨gb286, 12, none⟩ (.string ((rd_T45 l0_0 x8_1).f9))).setCell ⟨gb286, 13, none⟩ (.string ((rd_T45 l0_0 x8_1).f10)))) := ⟨by repeat (first | (with_reducible first | exact HB.out | apply below_alloc | apply pw_below_drewN | apply below_drew1 | refine below_set ?_ GE284.out | refine below_set ?_ GE286.out) | exact HB.out)⟩
  (try clear BK284)
  (try clear BK286)
  (try clear HB)
  generalize ((((((((((((((w14.setCell ⟨gb286, 0, none⟩ (.string ((rd_T45 l0_0 x8_1).f0))).setCell ⟨gb286, 1, none⟩ (.int .i64 ((rd_T45 l0_0 x8_1).f1))).setCell ⟨gb286, 2, none⟩ (.slice A285_2 ((rd_T45 l0_0 x8_1).f2).length c285_2)).setCell ⟨gb286, 3, none⟩ (.slice A285_3 ((rd_T45 l0_0 x8_1).f3).length c285_3)).setCell ⟨gb286, 4, none⟩ (.string ((rd_T45 l0_0 x8_1).f4))).setCell ⟨gb286, 5, none⟩ (.string ((rd_T45 l0_0 x8_1).f5))).setCell ⟨gb286, 6, none⟩ (.string ((rd_T45 l0_0 x8_1).f6))).setCell ⟨gb286, 7, none⟩ (.int .i64 ((rd_T45 l0_0 x8_1).f7.f0))).setCell ⟨gb286, 8, none⟩ (.int .i64 ((rd_T45 l0_0 x8_1).f7.f1))).setCell ⟨gb286, 9, none⟩ (.int .i64 ((rd_T45 l0_0 x8_1).f7.f2))).setCell ⟨gb286, 10, none⟩ (.bool ((rd_T45 l0_0 x8_1).f7.f3))).setCell ⟨gb286, 11, none⟩ (.int .i64 ((rd_T45 l0_0 x8_1).f8))).setCell ⟨gb286, 12, none⟩ (.string ((rd_T45 l0_0 x8_1).f9))).setCell ⟨gb286, 13, none⟩ (.string ((rd_T45 l0_0 x8_1).f10))) = w17 at n0_ n1_ n2_ ⊢
  have BK284 := n0_
  have BK286 := n1_
  have HB := n2_
  clear n0_ n1_ n2_
  replace BK284 := Aside0.mk (blk_drew BK284.out)
  replace BK286 := Aside0.mk (blk_drew BK286.out)
  replace HB := Aside0.mk (below_drew1 HB.out)
  have p288 : 0 ≤ ((ji10) : Int) := of_decide_eq_true au71
  have q288 : (ji10) < (l0_0.length : Int) := of_decide_eq_true au71
  obtain ⟨ad288, A288_2, c288_2, A288_3, c288_3, e288, hx288_0, hx288_1, hx288_2, hx288_3, hx288_4, hx288_5, hx288_6, hx288_7, hx288_8, hx288_9, hx288_10, hx288_11, hx288_12, hx288_13, hl288_2, hi288_2, hl288_3, hi288_3⟩ := at_T45 HR0_0.out (ji10) p288 q288
  have hw288_13 := hx288_13
  have hw288_12 := hx288_12
  have hw288_11 := hx288_11
  have hw288_10 := hx288_10
  have hw288_9 := hx288_9
  have hw288_8 := hx288_8
  have hw288_7 := hx288_7
  have hw288_6 := hx288_6
  have hw288_5 := hx288_5
  have hw288_4 := hx288_4
  have hw288_3 := hx288_3
  have hw288_2 := hx288_2
  have hw288_1 := hx288_1
  have hw288_0 := hx288_0
  obtain rfl : ad285 = ad288 := (by injection e288)
  replace hx288_0 := bcl HB.out hx288_0
  replace hx288_1 := bcl HB.out hx288_1
  replace hx288_2 := bcl HB.out hx288_2
  replace hx288_3 := bcl HB.out hx288_3
  replace hx288_4 := bcl HB.out hx288_4
  replace hx288_5 := bcl HB.out hx288_5
  replace hx288_6 := bcl HB.out hx288_6
  replace hx288_7 := bcl HB.out hx288_7
  replace hx288_8 := bcl HB.out hx288_8
  replace hx288_9 := bcl HB.out hx288_9
  replace hx288_10 := bcl HB.out hx288_10
  replace hx288_11 := bcl HB.out hx288_11
  replace hx288_12 := bcl HB.out hx288_12
  replace hx288_13 := bcl HB.out hx288_13
  have HR288_2 := Aside0.mk hi288_2
  have HC288_2 := Aside0.mk hl288_2
  clear hi288_2 hl288_2
  have HR288_3 := Aside0.mk hi288_3
  have HC288_3 := Aside0.mk hl288_3
  clear hi288_3 hl288_3
  replace p288 := eq_true p288
  replace q288 := eq_true q288
  refine start_ (n := 19) (S := fun w' => w'.cell? ⟨gb286, 0, none⟩ = some (.string ((rd_T45 l0_0 x8_1).f0)) ∧ w'.cell? ⟨gb286, 1, none⟩ = some (.int .i64 ((rd_T45 l0_0 x8_1).f1)) ∧ w'.cell? ⟨gb286, 2, none⟩ = some (.slice A285_2 ((rd_T45 l0_0 x8_1).f2).length c285_2) ∧ w'.cell? ⟨gb286, 3, none⟩ = some (.slice A285_3 ((rd_T45 l0_0 x8_1).f3).length c285_3) ∧ w'.cell? ⟨gb286, 4, none⟩ = some (.string ((rd_T45 l0_0 x8_1).f4)) ∧ w'.cell? ⟨gb286, 5, none⟩ = some (.string ((rd_T45 l0_0 x8_1).f5)) ∧ w'.cell? ⟨gb286, 6, none⟩ = some (.string ((rd_T45 l0_0 x8_1).f6)) ∧ w'.cell? ⟨gb286, 7, none⟩ = some (.int .i64 ((rd_T45 l0_0 x8_1).f7.f0)) ∧ w'.cell? ⟨gb286, 8, none⟩ = some (.int .i64 ((rd_T45 l0_0 x8_1).f7.f1)) ∧ w'.cell? ⟨gb286, 9, none⟩ = some (.int .i64 ((rd_T45 l0_0 x8_1).f7.f2)) ∧ w'.cell? ⟨gb286, 10, none⟩ = some (.bool ((rd_T45 l0_0 x8_1).f7.f3)) ∧ w'.cell? ⟨gb286, 11, none⟩ = some (.int .i64 ((rd_T45 l0_0 x8_1).f8)) ∧ w'.cell? ⟨gb286, 12, none⟩ = some (.string ((rd_T45 l0_0 x8_1).f9)) ∧ w'.cell? ⟨gb286, 13, none⟩ = some (.string ((rd_T45 l0_0 x8_1).f10)) ∧ w'.cell? ⟨gb284, 0, none⟩ = some (.slice (some ad285) l0_0.length c0_0) ∧ w'.cell? (ad285.add (((ji10)).toNat * 14)) = some (.string ((rd_T45 l0_0 (ji10)).f0)) ∧ w'.cell? ⟨(ad285.add (((ji10)).toNat * 14)).block, (ad285.add (((ji10)).toNat * 14)).off + 1, none⟩ = some (.int .i64 ((rd_T45 l0_0 (ji10)).f1)) ∧ w'.cell? ⟨(ad285.add (((ji10)).toNat * 14)).block, (ad285.add (((ji10)).toNat * 14)).off + 2, none⟩ = some (.slice A288_2 ((rd_T45 l0_0 (ji10)).f2).length c288_2) ∧ w'.cell? ⟨(ad285.add (((ji10)).toNat * 14)).block, (ad285.add (((ji10)).toNat * 14)).off + 3, none⟩ = some (.slice A288_3 ((rd_T45 l0_0 (ji10)).f3).length c288_3) ∧ w'.cell? ⟨(ad285.add (((ji10)).toNat * 14)).block, (ad285.add (((ji10)).toNat * 14)).off + 4, none⟩ = some (.string ((rd_T45 l0_0 (ji10)).f4)) ∧ w'.cell? ⟨(ad285.add (((ji10)).toNat * 14)).block, (ad285.add (((ji10)).toNat * 14)).off + 5, none⟩ = some (.string ((rd_T45 l0_0 (ji10)).f5)) ∧ w'.cell? ⟨(ad285.add (((ji10)).toNat * 14)).block, (ad285.add (((ji10)).toNat * 14)).off + 6, none⟩ = some (.string ((rd_T45 l0_0 (ji10)).f6)) ∧ w'.cell? ⟨(ad285.add (((ji10)).toNat * 14)).block, (ad285.add (((ji10)).toNat * 14)).off + 7, none⟩ = some (.int .i64 ((rd_T45 l0_0 (ji10)).f7.f0)) ∧ w'.cell? ⟨(ad285.add (((ji10)).toNat * 14)).block, (ad285.add (((ji10)).toNat * 14)).off + 8, none⟩ = some (.int .i64 ((rd_T45 l0_0 (ji10)).f7.f1)) ∧ w'.cell? ⟨(ad285.add (((ji10)).toNat * 14)).block, (ad285.add (((ji10)).toNat * 14)).off + 9, none⟩ = some (.int .i64 ((rd_T45 l0_0 (ji10)).f7.f2)) ∧ w'.cell? ⟨(ad285.add (((ji10)).toNat * 14)).block, (ad285.add (((ji10)).toNat * 14)).off + 10, none⟩ = some (.bool ((rd_T45 l0_0 (ji10)).f7.f3)) ∧ w'.cell? ⟨(ad285.add (((ji10)).toNat * 14)).block, (ad285.add (((ji10)).toNat * 14)).off + 11, none⟩ = some (.int .i64 ((rd_T45 l0_0 (ji10)).f8)) ∧ w'.cell? ⟨(ad285.add (((ji10)).toNat * 14)).block, (ad285.add (((ji10)).toNat * 14)).off + 12, none⟩ = some (.string ((rd_T45 l0_0 (ji10)).f9)) ∧ w'.cell? ⟨(ad285.add (((ji10)).toNat * 14)).block, (ad285.add (((ji10)).toNat * 14)).off + 13, none⟩ = some (.string ((rd_T45 l0_0 (ji10)).f10))) (ds := []) #[false, false, false, false, false, false, false, false, false, false, false, false, false, false, false, false, false, false, false] (by kernel_rfl) rfl rfl ⟨(blk_cell BK286.out 0).trans rfl, (blk_cell BK286.out 1).trans rfl, (blk_cell BK286.out 2).trans rfl, (blk_cell BK286.out 3).trans rfl, (blk_cell BK286.out 4).trans rfl, (blk_cell BK286.out 5).trans rfl, (blk_cell BK286.out 6).trans rfl, (blk_cell BK286.out 7).trans rfl, (blk_cell BK286.out 8).trans rfl, (blk_cell BK286.out 9).trans rfl, (blk_cell BK286.out 10).trans rfl, (blk_cell BK286.out 11).trans rfl, (blk_cell BK286.out 12).trans rfl, (blk_cell BK286.out 13).trans rfl, (blk_cell BK284.out 0).trans rfl, (bcl HB.out hw288_0), (bcl HB.out hw288_1), (bcl HB.out hw288_2), (bcl HB.out hw288_3), (bcl HB.out hw288_4), (bcl HB.out hw288_5), (bcl HB.out hw288_6), (bcl HB.out hw288_7), (bcl HB.out hw288_8), (bcl HB.out hw288_9), (bcl HB.out hw288_10), (bcl HB.out hw288_11), (bcl HB.out hw288_12), (bcl HB.out hw288_13)⟩ (fun hHeld => ?_); refine with_tabW impl_IsValidLibrary.tab4 impl_IsValidLibrary.bits4 (fun HT_ HW_ => ?_)
  generalize w17.drew = w18 at BK284 BK286 HB HR288_2 HR288_3 hx288_0 hx288_1 hx288_10 hx288_11 hx288_12 hx288_13 hx288_2 hx288_3 hx288_4 hx288_5 hx288_6 hx288_7 hx288_8 hx288_9 hHeld ⊢
  refine ta2_ 0 (some 13) #[true, false, false, false, false, false, false, false, false, false, false, false, false, false, false, false, false, false, false] HT_.out HW_.out hHeld ?_
  refine on_ 1 (some 14) #[true, true, false, false, false, false, false, false, false, false, false, false, false, false, false, false, false, false, false] HT_.out (fun K hK => ?_)
  refine gs_ Tryd.func25 #[.agg #[.string ((rd_T45 l0_0 x8_1).f0), .int .i64 ((rd_T45 l0_0 x8_1).f1), .slice A285_2 ((rd_T45 l0_0 x8_1).f2).length c285_2, .slice A285_3 ((rd_T45 l0_0 x8_1).f3).length c285_3, .string ((rd_T45 l0_0 x8_1).f4), .string ((rd_T45 l0_0 x8_1).f5), .string ((rd_T45 l0_0 x8_1).f6), .int .i64 ((rd_T45 l0_0 x8_1).f7.f0), .int .i64 ((rd_T45 l0_0 x8_1).f7.f1), .int .i64 ((rd_T45 l0_0 x8_1).f7.f2), .bool ((rd_T45 l0_0 x8_1).f7.f3), .int .i64 ((rd_T45 l0_0 x8_1).f8), .string ((rd_T45 l0_0 x8_1).f9), .string ((rd_T45 l0_0 x8_1).f10)]] ?_
  with_reducible refine (impl_IsValidEntry.calls (hG := au0) k1 ((rd_T45 l0_0 x8_1).f0) ((rd_T45 l0_0 x8_1).f1) _ _ ((rd_T45 l0_0 x8_1).f2) _ _ ((rd_T45 l0_0 x8_1).f3) ((rd_T45 l0_0 x8_1).f4) ((rd_T45 l0_0 x8_1).f5) ((rd_T45 l0_0 x8_1).f6) ((rd_T45 l0_0 x8_1).f7.f0) ((rd_T45 l0_0 x8_1).f7.f1) ((rd_T45 l0_0 x8_1).f7.f2) ((rd_T45 l0_0 x8_1).f7.f3) ((rd_T45 l0_0 x8_1).f8) ((rd_T45 l0_0 x8_1).f9) ((rd_T45 l0_0 x8_1).f10) _ _ ?side1 ?side2 ?side3 ?side4 A7.out).mono ?_
  (case side1 => repeat (first | exact (Kd.C_below HR285_2.out HB.out) | (with_reducible refine Kd.C_alloc ?_ _) | (with_reducible refine Kd.C_drewN ?_ _) | (with_reducible refine Kd.C_drew ?_)))
  (case side2 => exact HC285_2.out)
  (case side3 => repeat (first | exact (Kd.C_below HR285_3.out HB.out) | (with_reducible refine Kd.C_alloc ?_ _) | (with_reducible refine Kd.C_drewN ?_ _) | (with_reducible refine Kd.C_drew ?_)))
  (case side4 => exact HC285_3.out)
  rintro e w19 ⟨rfl, hb⟩
  refine ⟨_, rfl, ?_⟩
  replace BK284 := Aside0.mk (blk_below (g := gb284) au54 hb)
  replace BK286 := Aside0.mk (blk_below (g := gb286) au55 hb)
  replace HB := Aside0.mk (below_step au12 hb)
  (try clear hb)
  refine hK.out _ _ ⟨(blk_cell BK286.out 0).trans rfl, (blk_cell BK286.out 1).trans rfl, (blk_cell BK286.out 2).trans rfl, (blk_cell BK286.out 3).trans rfl, (blk_cell BK286.out 4).trans rfl, (blk_cell BK286.out 5).trans rfl, (blk_cell BK286.out 6).trans rfl, (blk_cell BK286.out 7).trans rfl, (blk_cell BK286.out 8).trans rfl, (blk_cell BK286.out 9).trans rfl, (blk_cell BK286.out 10).trans rfl, (blk_cell BK286.out 11).trans rfl, (blk_cell BK286.out 12).trans rfl, (blk_cell BK286.out 13).trans rfl, (blk_cell BK284.out 0).trans rfl, (bcl HB.out hw288_0), (bcl HB.out hw288_1), (bcl HB.out hw288_2), (bcl HB.out hw288_3), (bcl HB.out hw288_4), (bcl HB.out hw288_5), (bcl HB.out hw288_6), (bcl HB.out hw288_7), (bcl HB.out hw288_8), (bcl HB.out hw288_9), (bcl HB.out hw288_10), (bcl HB.out hw288_11), (bcl HB.out hw288_12), (bcl HB.out hw288_13)⟩ (fun hHeld => ?_)
  clear hK K
  refine no_ (some 14) ?_
  refine pu_ 2 (some 15) #[true, true, true, false, false, false, false, false, false, false, false, false, false, false, false, false, false, false, false] HT_.out ?_
  refine pu_ 3 (some 16) #[true, true, true, true, false, false, false, false, false, false, false, false, false, false, false, false, false, false, false] HT_.out ?_
  refine pu_ 4 (some 17) #[true, true, true, true, true, false, false, false, false, false, false, false, false, false, false, false, false, false, false] HT_.out ?_
  refine pu_ 5 (some 18) #[true, true, true, true, true, true, false, false, false, false, false, false, false, false, false, false, false, false, false] HT_.out ?_
  refine pu_ 6 (some 19) #[true, true, true, true, true, true, true, false, false, false, false, false, false, false, false, false, false, false, false] HT_.out ?_
  refine pu_ 7 (some 20) #[true, true, true, true, true, true, true, true, false, false, false, false, false, false, false, false, false, false, false] HT_.out ?_
  refine pu_ 9 (some 22) #[true, true, true, true, true, true, true, true, false, true, false, false, false, false, false, false, false, false, false] HT_.out ?_
  refine pu_ 10 (some 23) #[true, true, true, true, true, true, true, true, false, true, true, false, false, false, false, false, false, false, false] HT_.out ?_
  refine pu_ 14 (some 27) #[true, true, true, true, true, true, true, true, false, true, true, false, false, false, true, false, false, false, false] HT_.out ?_
  refine ta2_ 8 (some 21) #[true, true, true, true, true, true, true, true, true, true, true, false, false, false, true, false, false, false, false] HT_.out HW_.out hHeld ?_
  refine pu_ 11 (some 24) #[true, true, true, true, true, true, true, true, true, true, true, true, false, false, true, false, false, false, false] HT_.out ?_
  refine pu_ 12 (some 25) #[true, true, true, true, true, true, true, true, true, true, true, true, true, false, true, false, false, false, false] HT_.out ?_
  refine ta2_ 13 (some 26) #[true, true, true, true, true, true, true, true, true, true, true, true, true, true, true, false, false, false, false] HT_.out HW_.out hHeld ?_
  refine ta2_ 15 (some 28) #[true, true, true, true, true, true, true, true, true, true, true, true, true, true, true, true, false, false, false] HT_.out HW_.out hHeld ?_
  refine pu_ 16 (some 29) #[true, true, true, true, true, true, true, true, true, true, true, true, true, true, true, true, true, false, false] HT_.out ?_
  refine pu_ 17 (some 30) #[true, true, true, true, true, true, true, true, true, true, true, true, true, true, true, true, true, true, false] HT_.out ?_
  refine pu_ 18 (some 31) #[true, true, true, true, true, true, true, true, true, true, true, true, true, true, true, true, true, true, true] HT_.out ?_
  refine done_ (done_of HT_.out (by kernel_rfl)) ?_
  try go_wp2
  first
  |
   have g_ : (Op.bytesLess (((rd_T45 l0_0 (ji10)).f0).toList) (((rd_T45 l0_0 x8_1).f0).toList)) = true := c13b0
   clear g_
   go_roundg k1
   case measure => have := HK1.out; omega
   case rel => exact ⟨(wrap64 (x8_1 + 1)), au72, H', ⟨by have := HK1.out; omega⟩, ⟨by (with_reducible repeat (first | refine blk_drewN ?_ _ | refine blk_drew ?_ | refine blk_alloc ?_ _)); exact BK284.out⟩, ⟨by repeat (first | (with_reducible first | exact HB.out | apply below_alloc | apply pw_below_drewN | apply below_drew1 | refine below_set ?_ GE284.out | refine below_set ?_ GE286.out) | exact HB.out)⟩⟩
  |
   have g_ : (Op.bytesLess (((rd_T45 l0_0 (ji10)).f0).toList) (((rd_T45 l0_0 x8_1).f0).toList)) = false := c13b0
   clear g_
   go_ret
   exact ⟨by first | rfl | (simp [errW_none, errW_some] <;> rfl) | (simp only [← hji10]; first | rfl | (simp [errW_none, errW_some] <;> rfl)) | (simp [*, errW_none, errW_some] <;> rfl), by repeat (first | (with_reducible first | exact HB.out | apply below_alloc | apply pw_below_drewN | apply below_drew1 | refine below_set ?_ GE284.out | refine below_set ?_ GE286.out) | exact HB.out)⟩) : P := h
set_option maxRecDepth 100000 in
theorem impl_IsValidLibrary.L1 {P : Prop} (h : P := by
  try go_wp2_with (first | ((with_reducible refine gate_dst (N := 4) rfl ?_); refine box_event ?hg (N := 4) ?hd (cs := #[.string (⟨#[]⟩ : ByteArray), .int .i64 0, .slice none 0 0, .slice none 0 0, .string (⟨#[]⟩ : ByteArray), .string (⟨#[]⟩ : ByteArray), .string (⟨#[]⟩ : ByteArray), .int .i64 0, .int .i64 0, .int .i64 0, .bool false, .int .i64 0, .string (⟨#[]⟩ : ByteArray), .string (⟨#[]⟩ : ByteArray)]) (t := 45) ?hr ?_; (case hd => rfl); (case hg => rfl); (case hr => first | (go_simp; done) | (go_simp; rfl)); intro gb286 hg w32 hbox hb; have BK286 := Aside0.mk (hbox); have GW286 := Aside0.mk (bsz hg au28); have GE286 := Aside0.mk (bsz hg au28); replace HB := Aside0.mk (below_step au28 hb); have NB284_286 := Aside0.mk (bne (g := gb284) hg au54); have NB286_284 := Aside0.mk (ben (g := gb284) hg au54); replace BK284 := Aside0.mk (blk_below (g := gb284) au54 hb); clear hb hbox hg; have hnb33 := NB286_284.out; have hnc33 := NB284_286.out; obtain ⟨hcz34_0, hcz34_1, hcz34_2, hcz34_3, hcz34_4, hcz34_5, hcz34_6, hcz34_7, hcz34_8, hcz34_9, hcz34_10, hcz34_11, hcz34_12, hcz34_13, hfz34_0, hfz34_1, hfz34_2, hfz34_3, hfz34_4, hfz34_5, hfz34_6, hfz34_7, hfz34_8, hfz34_9, hfz34_10, hfz34_11, hfz34_12, hfz34_13⟩ := blkc14 BK286.out))
  have n0_ : Aside0 (((((((((((((((w32.setCell ⟨gb286, 0, none⟩ (.string ((rd_T45 l0_0 x8_1).f0))).setCell ⟨gb286, 1, none⟩ (.int .i64 ((rd_T45 l0_0 x8_1).f1))).setCell ⟨gb286, 2, none⟩ (.slice A285_2 ((rd_T45 l0_0 x8_1).f2).length c285_2)).setCell ⟨gb286, 3, none⟩ (.slice A285_3 ((rd_T45 l0_0 x8_1).f3).length c285_3)).setCell ⟨gb286, 4, none⟩ (.string ((rd_T45 l0_0 x8_1).f4))).setCell ⟨gb286, 5, none⟩ (.string ((rd_T45 l0_0 x8_1).f5))).setCell ⟨gb286, 6, none⟩ (.string ((rd_T45 l0_0 x8_1).f6))).setCell ⟨gb286, 7, none⟩ (.int .i64 ((rd_T45 l0_0 x8_1).f7.f0))).setCell ⟨gb286, 8, none⟩ (.int .i64 ((rd_T45 l0_0 x8_1).f7.f1))).setCell ⟨gb286, 9, none⟩ (.int .i64 ((rd_T45 l0_0 x8_1).f7.f2))).setCell ⟨gb286, 10, none⟩ (.bool ((rd_T45 l0_0 x8_1).f7.f3))).setCell ⟨gb286, 11, none⟩ (.int .i64 ((rd_T45 l0_0 x8_1).f8))).setCell ⟨gb286, 12, none⟩ (.string ((rd_T45 l0_0 x8_1).f9))).setCell ⟨gb286, 13, none⟩ (.string ((rd_T45 l0_0 x8_1).f10))).heap[gb284]? = some (.cells #[.slice (some ad285) l0_0.length c0_0] 31 (0, 0))) := ⟨by (with_reducible repeat (first | refine blk_drewN ?_ _ | refine blk_drew ?_ | refine blk_alloc ?_ _)); refine blk_far ?_ NB284_286.out _; (with_reducible repeat (first | refine blk_drewN ?_ _ | refine blk_drew ?_ | refine blk_alloc ?_ _)); refine blk_far ?_ NB284_286.out _; (with_reducible repeat (first | refine blk_drewN ?_ _ | refine blk_drew ?_ | refine blk_alloc ?_ _)); refine blk_far ?_ NB284_286.out _; (with_reducible repeat (first | refine blk_drewN ?_ _ | refine blk_drew ?_ | refine blk_alloc ?_ _)); refine blk_far ?_ NB284_286.out _; (with_reducible repeat (first | refine blk_drewN ?_ _ | refine blk_drew ?_ | refine blk_alloc ?_ _)); refine blk_far ?_ NB284_286.out _; (with_reducible repeat (first | refine blk_drewN ?_ _ | refine blk_drew ?_ | refine blk_alloc ?_ _)); refine blk_far ?_ NB284_286.out _; (with_reducible repeat (first | refine blk_drewN ?_ _ | refine blk_drew ?_ | refine blk_alloc ?_ _)); refine blk_far ?_ NB284_286.out _; (with_reducible repeat (first | refine blk_drewN ?_ _ | refine blk_drew ?_ | refine blk_alloc ?_ _)); refine blk_far ?_ NB284_286.out _; (with_reducible repeat (first | refine blk_drewN ?_ _ | refine blk_drew ?_ | refine blk_alloc ?_ _)); refine blk_far ?_ NB284_286.out _; (with_reducible repeat (first | refine blk_drewN ?_ _ | refine blk_drew ?_ | refine blk_alloc ?_ _)); refine blk_far ?_ NB284_286.out _; (with_reducible repeat (first | refine blk_drewN ?_ _ | refine blk_drew ?_ | refine blk_alloc ?_ _)); refine blk_far ?_ NB284_286.out _; (with_reducible repeat (first | refine blk_drewN ?_ _ | refine blk_drew ?_ | refine blk_alloc ?_ _)); refine blk_far ?_ NB284_286.out _; (with_reducible repeat (first | refine blk_drewN ?_ _ | refine blk_drew ?_ | refine blk_alloc ?_ _)); refine blk_far ?_ NB284_286.out _; (with_reducible repeat (first | refine blk_drewN ?_ _ | refine blk_drew ?_ | refine blk_alloc ?_ _)); refine blk_far ?_ NB284_286.out _; (with_reducible repeat (first | refine blk_drewN ?_ _ | refine blk_drew ?_ | refine blk_alloc ?_ _)); exact BK284.out⟩
  have n1_ : Aside0 (((((((((((((((w32.setCell ⟨gb286, 0, none⟩ (.string ((rd_T45 l0_0 x8_1).f0))).setCell ⟨gb286, 1, none⟩ (.int .i64 ((rd_T45 l0_0 x8_1).f1))).setCell ⟨gb286, 2, none⟩ (.slice A285_2 ((rd_T45 l0_0 x8_1).f2).length c285_2)).setCell ⟨gb286, 3, none⟩ (.slice A285_3 ((rd_T45 l0_0 x8_1).f3).length c285_3)).setCell ⟨gb286, 4, none⟩ (.string ((rd_T45 l0_0 x8_1).f4))).setCell ⟨gb286, 5, none⟩ (.string ((rd_T45 l0_0 x8_1).f5))).setCell ⟨gb286, 6, none⟩ (.string ((rd_T45 l0_0 x8_1).f6))).setCell ⟨gb286, 7, none⟩ (.int .i64 ((rd_T45 l0_0 x8_1).f7.f0))).setCell ⟨gb286, 8, none⟩ (.int .i64 ((rd_T45 l0_0 x8_1).f7.f1))).setCell ⟨gb286, 9, none⟩ (.int .i64 ((rd_T45 l0_0 x8_1).f7.f2))).setCell ⟨gb286, 10, none⟩ (.bool ((rd_T45 l0_0 x8_1).f7.f3))).setCell ⟨gb286, 11, none⟩ (.int .i64 ((rd_T45 l0_0 x8_1).f8))).setCell ⟨gb286, 12, none⟩ (.string ((rd_T45 l0_0 x8_1).f9))).setCell ⟨gb286, 13, none⟩ (.string ((rd_T45 l0_0 x8_1).f10))).heap[gb286]? = some (.cells #[.string ((rd_T45 l0_0 x8_1).f0), .int .i64 ((rd_T45 l0_0 x8_1).f1), .slice A285_2 ((rd_T45 l0_0 x8_1).f2).length c285_2, .slice A285_3 ((rd_T45 l0_0 x8_1).f3).length c285_3, .string ((rd_T45 l0_0 x8_1).f4), .string ((rd_T45 l0_0 x8_1).f5), .string ((rd_T45 l0_0 x8_1).f6), .int .i64 ((rd_T45 l0_0 x8_1).f7.f0), .int .i64 ((rd_T45 l0_0 x8_1).f7.f1), .int .i64 ((rd_T45 l0_0 x8_1).f7.f2), .bool ((rd_T45 l0_0 x8_1).f7.f3), .int .i64 ((rd_T45 l0_0 x8_1).f8), .string ((rd_T45 l0_0 x8_1).f9), .string ((rd_T45 l0_0 x8_1).f10)] 45 (0, 0))) := ⟨by (with_reducible repeat (first | refine blk_drewN ?_ _ | refine blk_drew ?_ | refine blk_alloc ?_ _)); refine blk_put (cs := #[.string ((rd_T45 l0_0 x8_1).f0), .int .i64 ((rd_T45 l0_0 x8_1).f1), .slice A285_2 ((rd_T45 l0_0 x8_1).f2).length c285_2, .slice A285_3 ((rd_T45 l0_0 x8_1).f3).length c285_3, .string ((rd_T45 l0_0 x8_1).f4), .string ((rd_T45 l0_0 x8_1).f5), .string ((rd_T45 l0_0 x8_1).f6), .int .i64 ((rd_T45 l0_0 x8_1).f7.f0), .int .i64 ((rd_T45 l0_0 x8_1).f7.f1), .int .i64 ((rd_T45 l0_0 x8_1).f7.f2), .bool ((rd_T45 l0_0 x8_1).f7.f3), .int .i64 ((rd_T45 l0_0 x8_1).f8), .string ((rd_T45 l0_0 x8_1).f9), .string (⟨#[]⟩ : ByteArray)]) ?_ 13 _ rfl; (with_reducible repeat (first | refine blk_drewN ?_ _ | refine blk_drew ?_ | refine blk_alloc ?_ _)); refine blk_put (cs := #[.string ((rd_T45 l0_0 x8_1).f0), .int .i64 ((rd_T45 l0_0 x8_1).f1), .slice A285_2 ((rd_T45 l0_0 x8_1).f2).length c285_2, .slice A285_3 ((rd_T45 l0_0 x8_1).f3).length c285_3, .string ((rd_T45 l0_0 x8_1).f4), .string ((rd_T45 l0_0 x8_1).f5), .string ((rd_T45 l0_0 x8_1).f6), .int .i64 ((rd_T45 l0_0 x8_1).f7.f0), .int .i64 ((rd_T45 l0_0 x8_1).f7.f1), .int .i64 ((rd_T45 l0_0 x8_1).f7.f2), .bool ((rd_T45 l0_0 x8_1).f7.f3), .int .i64 ((rd_T45 l0_0 x8_1).f8), .string (⟨#[]⟩ : ByteArray), .string (⟨#[]⟩ : ByteArray)]) ?_ 12 _ rfl; (with_reducible repeat (first | refine blk_drewN ?_ _ | refine blk_drew ?_ | refine blk_alloc ?_ _)); refine blk_put (cs := #[.string ((rd_T45 l0_0 x8_1).f0), .int .i64 ((rd_T45 l0_0 x8_1).f1), .slice A285_2 ((rd_T45 l0_0 x8_1).f2).length c285_2, .slice A285_3 ((rd_T45 l0_0 x8_1).f3).length c285_3, .string ((rd_T45 l0_0 x8_1).f4), .string ((rd_T45 l0_0 x8_1).f5), .string ((rd_T45 l0_0 x8_1).f6), .int .i64 ((rd_T45 l0_0 x8_1).f7.f0), .int .i64 ((rd_T45 l0_0 x8_1).f7.f1), .int .i64 ((rd_T45 l0_0 x8_1).f7.f2), .bool ((rd_T45 l0_0 x8_1).f7.f3), .int .i64 0, .string (⟨#[]⟩ : ByteArray), .string (⟨#[]⟩ : ByteArray)]) ?_ 11 _ rfl; (with_reducible repeat (first | refine blk_drewN ?_ _ | refine blk_drew ?_ | refine blk_alloc ?_ _)); refine blk_put (cs := #[.string ((rd_T45 l0_0 x8_1).f0), .int .i64 ((rd_T45 l0_0 x8_1).f1), .slice A285_2 ((rd_T45 l0_0 x8_1).f2).length c285_2, .slice A285_3 ((rd_T45 l0_0 x8_1).f3).length c285_3, .string ((rd_T45 l0_0 x8_1).f4), .string ((rd_T45 l0_0 x8_1).f5), .string ((rd_T45 l0_0 x8_1).f6), .int .i64 ((rd_T45 l0_0 x8_1).f7.f0), .int .i64 ((rd_T45 l0_0 x8_1).f7.f1), .int .i64 ((rd_T45 l0_0 x8_1).f7.f2), .bool false, .int .i64 0, .string (⟨#[]⟩ : ByteArray), .string (⟨#[]⟩ : ByteArray)]) ?_ 10 _ rfl; (with_reducible repeat (first | refine blk_drewN ?_ _ | refine blk_drew ?_ | refine blk_alloc ?_ _)); refine blk_put (cs := #[.string ((rd_T45 l0_0 x8_1).f0), .int .i64 ((rd_T45 l0_0 x8_1).f1), .slice A285_2 ((rd_T45 l0_0 x8_1).f2).length c285_2, .slice A285_3 ((rd_T45 l0_0 x8_1).f3).length c285_3, .string ((rd_T45 l0_0 x8_1).f4), .string ((rd_T45 l0_0 x8_1).f5), .string ((rd_T45 l0_0 x8_1).f6), .int .i64 ((rd_T45 l0_0 x8_1).f7.f0), .int .i64 ((rd_T45 l0_0 x8_1).f7.f1), .int .i64 0, .bool false, .int .i64 0, .string (⟨#[]⟩ : ByteArray), .string (⟨#[]⟩ : ByteArray)]) ?_ 9 _ rfl; (with_reducible repeat (first | refine blk_drewN ?_ _ | refine blk_drew ?_ | refine blk_alloc ?_ _)); refine blk_put (cs := #[.string ((rd_T45 l0_0 x8_1).f0), .int .i64 ((rd_T45 l0_0 x8_1).f1), .slice A285_2 ((rd_T45 l0_0 x8_1).f2).length c285_2, .slice A285_3 ((rd_T45 l0_0 x8_1).f3).length c285_3, .string ((rd_T45 l0_0 x8_1).f4), .string ((rd_T45 l0_0 x8_1).f5), .string ((rd_T45 l0_0 x8_1).f6), .int .i64 ((rd_T45 l0_0 x8_1).f7.f0), .int .i64 0, .int .i64 0, .bool false, .int .i64 0, .string (⟨#[]⟩ : ByteArray), .string (⟨#[]⟩ : ByteArray)]) ?_ 8 _ rfl; (with_reducible repeat (first | refine blk_drewN ?_ _ | refine blk_drew ?_ | refine blk_alloc ?_ _)); refine blk_put (cs := #[.string ((rd_T45 l0_0 x8_1).f0), .int .i64 ((rd_T45 l0_0 x8_1).f1), .slice A285_2 ((rd_T45 l0_0 x8_1).f2).length c285_2, .slice A285_3 ((rd_T45 l0_0 x8_1).f3).length c285_3, .string ((rd_T45 l0_0 x8_1).f4), .string ((rd_T45 l0_0 x8_1).f5), .string ((rd_T45 l0_0 x8_1).f6), .int .i64 0, .int .i64 0, .int .i64 0, .bool false, .int .i64 0, .string (⟨#[]⟩ : ByteArray), .string (⟨#[]⟩ : ByteArray)]) ?_ 7 _ rfl; (with_reducible repeat (first | refine blk_drewN ?_ _ | refine blk_drew ?_ | refine blk_alloc ?_ _)); refine blk_put (cs := #[.string ((rd_T45 l0_0 x8_1).f0), .int .i64 ((rd_T45 l0_0 x8_1).f1), .slice A285_2 ((rd_T45 l0_0 x8_1).f2).length c285_2, .slice A285_3 ((rd_T45 l0_0 x8_1).f3).length c285_3, .string ((rd_T45 l0_0 x8_1).f4), .string ((rd_T45 l0_0 x8_1).f5), .string (⟨#[]⟩ : ByteArray), .int .i64 0, .int .i64 0, .int .i64 0, .bool false, .int .i64 0, .string (⟨#[]⟩ : ByteArray), .string (⟨#[]⟩ : ByteArray)]) ?_ 6 _ rfl; (with_reducible repeat (first | refine blk_drewN ?_ _ | refine blk_drew ?_ | refine blk_alloc ?_ _)); refine blk_put (cs := #[.string ((rd_T45 l0_0 x8_1).f0), .int .i64 ((rd_T45 l0_0 x8_1).f1), .slice A285_2 ((rd_T45 l0_0 x8_1).f2).length c285_2, .slice A285_3 ((rd_T45 l0_0 x8_1).f3).length c285_3, .string ((rd_T45 l0_0 x8_1).f4), .string (⟨#[]⟩ : ByteArray), .string (⟨#[]⟩ : ByteArray), .int .i64 0, .int .i64 0, .int .i64 0, .bool false, .int .i64 0, .string (⟨#[]⟩ : ByteArray), .string (⟨#[]⟩ : ByteArray)]) ?_ 5 _ rfl; (with_reducible repeat (first | refine blk_drewN ?_ _ | refine blk_drew ?_ | refine blk_alloc ?_ _)); refine blk_put (cs := #[.string ((rd_T45 l0_0 x8_1).f0), .int .i64 ((rd_T45 l0_0 x8_1).f1), .slice A285_2 ((rd_T45 l0_0 x8_1).f2).length c285_2, .slice A285_3 ((rd_T45 l0_0 x8_1).f3).length c285_3, .string (⟨#[]⟩ : ByteArray), .string (⟨#[]⟩ : ByteArray), .string (⟨#[]⟩ : ByteArray), .int .i64 0, .int .i64 0, .int .i64 0, .bool false, .int .i64 0, .string (⟨#[]⟩ : ByteArray), .string (⟨#[]⟩ : ByteArray)]) ?_ 4 _ rfl; (with_reducible repeat (first | refine blk_drewN ?_ _ | refine blk_drew ?_ | refine blk_alloc ?_ _)); refine blk_put (cs := #[.string ((rd_T45 l0_0 x8_1).f0), .int .i64 ((rd_T45 l0_0 x8_1).f1), .slice A285_2 ((rd_T45 l0_0 x8_1).f2).length c285_2, .slice none 0 0, .string (⟨#[]⟩ : ByteArray), .string (⟨#[]⟩ : ByteArray), .string (⟨#[]⟩ : ByteArray), .int .i64 0, .int .i64 0, .int .i64 0, .bool false, .int .i64 0, .string (⟨#[]⟩ : ByteArray), .string (⟨#[]⟩ : ByteArray)]) ?_ 3 _ rfl; (with_reducible repeat (first | refine blk_drewN ?_ _ | refine blk_drew ?_ | refine blk_alloc ?_ _)); refine blk_put (cs := #[.string ((rd_T45 l0_0 x8_1).f0), .int .i64 ((rd_T45 l0_0 x8_1).f1), .slice none 0 0, .slice none 0 0, .string (⟨#[]⟩ : ByteArray), .string (⟨#[]⟩ : ByteArray), .string (⟨#[]⟩ : ByteArray), .int .i64 0, .int .i64 0, .int .i64 0, .bool false, .int .i64 0, .string (⟨#[]⟩ : ByteArray), .string (⟨#[]⟩ : ByteArray)]) ?_ 2 _ rfl; (with_reducible repeat (first | refine blk_drewN ?_ _ | refine blk_drew ?_ | refine blk_alloc ?_ _)); refine blk_put (cs := #[.string ((rd_T45 l0_0 x8_1).f0), .int .i64 0, .slice none 0 0, .slice none 0 0, .string (⟨#[]⟩ : ByteArray), .string (⟨#[]⟩ : ByteArray), .string (⟨#[]⟩ : ByteArray), .int .i64 0, .int .i64 0, .int .i64 0, .bool false, .int .i64 0, .string (⟨#[]⟩ : ByteArray), .string (⟨#[]⟩ : ByteArray)]) ?_ 1 _ rfl; (with_reducible repeat (first | refine blk_drewN ?_ _ | refine blk_drew ?_ | refine blk_alloc ?_ _)); refine blk_put (cs := #[.string (⟨#[]⟩ : ByteArray), .int .i64 0, .slice none 0 0, .slice none 0 0, .string (⟨#[]⟩ : ByteArray), .string (⟨#[]⟩ : ByteArray), .string (⟨#[]⟩ : ByteArray), .int .i64 0, .int .i64 0, .int .i64 0, .bool false, .int .i64 0, .string (⟨#[]⟩ : ByteArray), .string (⟨#[]⟩ : ByteArray)]) ?_ 0 _ rfl; (with_reducible repeat (first | refine blk_drewN ?_ _ | refine blk_drew ?_ | refine blk_alloc ?_ _)); exact BK286.out⟩
  have n2_ : Aside0 (Below w.heap.size w ((((((((((((((w32.setCell ⟨gb286, 0, none⟩ (.string ((rd_T45 l0_0 x8_1).f0))).setCell ⟨gb286, 1, none⟩ (.int .i64 ((rd_T45 l0_0 x8_1).f1))).setCell ⟨gb286, 2, none⟩ (.slice A285_2 ((rd_T45 l0_0 x8_1).f2).length c285_2)).setCell ⟨gb286, 3, none⟩ (.slice A285_3 ((rd_T45 l0_0 x8_1).f3).length c285_3)).setCell ⟨gb286, 4, none⟩ (.string ((rd_T45 l0_0 x8_1).f4))).setCell ⟨gb286, 5, none⟩ (.string ((rd_T45 l0_0 x8_1).f5))).setCell ⟨gb286, 6, none⟩ (.string ((rd_T45 l0_0 x8_1).f6))).setCell ⟨gb286, 7, none⟩ (.int .i64 ((rd_T45 l0_0 x8_1).f7.f0))).setCell ⟨gb286, 8, none⟩ (.int .i64 ((rd_T45 l0_0 x8_1).f7.f1))).setCell ⟨gb286, 9, none⟩ (.int .i64 ((rd_T45 l0_0 x8_1).f7.f2))).setCell ⟨gb286, 10, none⟩ (.bool ((rd_T45 l0_0 x8_1).f7.f3))).setCell ⟨gb286, 11, none⟩ (.int .i64 ((rd_T45 l0_0 x8_1).f8))).setCell ⟨gb286, 12, none⟩ (.string ((rd_T45 l0_0 x8_1).f9))).setCell ⟨gb286, 13, none⟩ (.string ((rd_T45 l0_0 x8_1).f10)))) := ⟨by repeat (first | (with_reducible first | exact HB.out | apply below_alloc | apply pw_below_drewN | apply below_drew1 | refine below_set ?_ GE284.out | refine below_set ?_ GE286.out) | exact HB.out)⟩
  (try clear BK284)
  (try clear BK286)
  (try clear HB)
  generalize ((((((((((((((w32.setCell ⟨gb286, 0, none⟩ (.string ((rd_T45 l0_0 x8_1).f0))).setCell ⟨gb286, 1, none⟩ (.int .i64 ((rd_T45 l0_0 x8_1).f1))).setCell ⟨gb286, 2, none⟩ (.slice A285_2 ((rd_T45 l0_0 x8_1).f2).length c285_2)).setCell ⟨gb286, 3, none⟩ (.slice A285_3 ((rd_T45 l0_0 x8_1).f3).length c285_3)).setCell ⟨gb286, 4, none⟩ (.string ((rd_T45 l0_0 x8_1).f4))).setCell ⟨gb286, 5, none⟩ (.string ((rd_T45 l0_0 x8_1).f5))).setCell ⟨gb286, 6, none⟩ (.string ((rd_T45 l0_0 x8_1).f6))).setCell ⟨gb286, 7, none⟩ (.int .i64 ((rd_T45 l0_0 x8_1).f7.f0))).setCell ⟨gb286, 8, none⟩ (.int .i64 ((rd_T45 l0_0 x8_1).f7.f1))).setCell ⟨gb286, 9, none⟩ (.int .i64 ((rd_T45 l0_0 x8_1).f7.f2))).setCell ⟨gb286, 10, none⟩ (.bool ((rd_T45 l0_0 x8_1).f7.f3))).setCell ⟨gb286, 11, none⟩ (.int .i64 ((rd_T45 l0_0 x8_1).f8))).setCell ⟨gb286, 12, none⟩ (.string ((rd_T45 l0_0 x8_1).f9))).setCell ⟨gb286, 13, none⟩ (.string ((rd_T45 l0_0 x8_1).f10))) = w35 at n0_ n1_ n2_ ⊢
  have BK284 := n0_
  have BK286 := n1_
  have HB := n2_
  clear n0_ n1_ n2_
  replace BK284 := Aside0.mk (blk_drew BK284.out)
  replace BK286 := Aside0.mk (blk_drew BK286.out)
  replace HB := Aside0.mk (below_drew1 HB.out)
  refine start_ (n := 19) (S := fun w' => w'.cell? ⟨gb286, 0, none⟩ = some (.string ((rd_T45 l0_0 x8_1).f0)) ∧ w'.cell? ⟨gb286, 1, none⟩ = some (.int .i64 ((rd_T45 l0_0 x8_1).f1)) ∧ w'.cell? ⟨gb286, 2, none⟩ = some (.slice A285_2 ((rd_T45 l0_0 x8_1).f2).length c285_2) ∧ w'.cell? ⟨gb286, 3, none⟩ = some (.slice A285_3 ((rd_T45 l0_0 x8_1).f3).length c285_3) ∧ w'.cell? ⟨gb286, 4, none⟩ = some (.string ((rd_T45 l0_0 x8_1).f4)) ∧ w'.cell? ⟨gb286, 5, none⟩ = some (.string ((rd_T45 l0_0 x8_1).f5)) ∧ w'.cell? ⟨gb286, 6, none⟩ = some (.string ((rd_T45 l0_0 x8_1).f6)) ∧ w'.cell? ⟨gb286, 7, none⟩ = some (.int .i64 ((rd_T45 l0_0 x8_1).f7.f0)) ∧ w'.cell? ⟨gb286, 8, none⟩ = some (.int .i64 ((rd_T45 l0_0 x8_1).f7.f1)) ∧ w'.cell? ⟨gb286, 9, none⟩ = some (.int .i64 ((rd_T45 l0_0 x8_1).f7.f2)) ∧ w'.cell? ⟨gb286, 10, none⟩ = some (.bool ((rd_T45 l0_0 x8_1).f7.f3)) ∧ w'.cell? ⟨gb286, 11, none⟩ = some (.int .i64 ((rd_T45 l0_0 x8_1).f8)) ∧ w'.cell? ⟨gb286, 12, none⟩ = some (.string ((rd_T45 l0_0 x8_1).f9)) ∧ w'.cell? ⟨gb286, 13, none⟩ = some (.string ((rd_T45 l0_0 x8_1).f10))) (ds := []) #[false, false, false, false, false, false, false, false, false, false, false, false, false, false, false, false, false, false, false] (by kernel_rfl) rfl rfl ⟨(blk_cell BK286.out 0).trans rfl, (blk_cell BK286.out 1).trans rfl, (blk_cell BK286.out 2).trans rfl, (blk_cell BK286.out 3).trans rfl, (blk_cell BK286.out 4).trans rfl, (blk_cell BK286.out 5).trans rfl, (blk_cell BK286.out 6).trans rfl, (blk_cell BK286.out 7).trans rfl, (blk_cell BK286.out 8).trans rfl, (blk_cell BK286.out 9).trans rfl, (blk_cell BK286.out 10).trans rfl, (blk_cell BK286.out 11).trans rfl, (blk_cell BK286.out 12).trans rfl, (blk_cell BK286.out 13).trans rfl⟩ (fun hHeld => ?_); refine with_tabW impl_IsValidLibrary.tab4 impl_IsValidLibrary.bits4 (fun HT_ HW_ => ?_)
  generalize w35.drew = w36 at BK284 BK286 HB hHeld ⊢
  refine ta3_ 0 (some 13) #[true, false, false, false, false, false, false, false, false, false, false, false, false, false, false, false, false, false, false] HT_.out HW_.out hHeld ?_
  refine on_ 1 (some 14) #[true, true, false, false, false, false, false, false, false, false, false, false, false, false, false, false, false, false, false] HT_.out (fun K hK => ?_)
  refine gs_ Tryd.func25 #[.agg #[.string ((rd_T45 l0_0 x8_1).f0), .int .i64 ((rd_T45 l0_0 x8_1).f1), .slice A285_2 ((rd_T45 l0_0 x8_1).f2).length c285_2, .slice A285_3 ((rd_T45 l0_0 x8_1).f3).length c285_3, .string ((rd_T45 l0_0 x8_1).f4), .string ((rd_T45 l0_0 x8_1).f5), .string ((rd_T45 l0_0 x8_1).f6), .int .i64 ((rd_T45 l0_0 x8_1).f7.f0), .int .i64 ((rd_T45 l0_0 x8_1).f7.f1), .int .i64 ((rd_T45 l0_0 x8_1).f7.f2), .bool ((rd_T45 l0_0 x8_1).f7.f3), .int .i64 ((rd_T45 l0_0 x8_1).f8), .string ((rd_T45 l0_0 x8_1).f9), .string ((rd_T45 l0_0 x8_1).f10)]] ?_
  with_reducible refine (impl_IsValidEntry.calls (hG := au0) k1 ((rd_T45 l0_0 x8_1).f0) ((rd_T45 l0_0 x8_1).f1) _ _ ((rd_T45 l0_0 x8_1).f2) _ _ ((rd_T45 l0_0 x8_1).f3) ((rd_T45 l0_0 x8_1).f4) ((rd_T45 l0_0 x8_1).f5) ((rd_T45 l0_0 x8_1).f6) ((rd_T45 l0_0 x8_1).f7.f0) ((rd_T45 l0_0 x8_1).f7.f1) ((rd_T45 l0_0 x8_1).f7.f2) ((rd_T45 l0_0 x8_1).f7.f3) ((rd_T45 l0_0 x8_1).f8) ((rd_T45 l0_0 x8_1).f9) ((rd_T45 l0_0 x8_1).f10) _ _ ?side1 ?side2 ?side3 ?side4 A7.out).mono ?_
  (case side1 => repeat (first | exact (Kd.C_below HR285_2.out HB.out) | (with_reducible refine Kd.C_alloc ?_ _) | (with_reducible refine Kd.C_drewN ?_ _) | (with_reducible refine Kd.C_drew ?_)))
  (case side2 => exact HC285_2.out)
  (case side3 => repeat (first | exact (Kd.C_below HR285_3.out HB.out) | (with_reducible refine Kd.C_alloc ?_ _) | (with_reducible refine Kd.C_drewN ?_ _) | (with_reducible refine Kd.C_drew ?_)))
  (case side4 => exact HC285_3.out)
  rintro e w37 ⟨rfl, hb⟩
  refine ⟨_, rfl, ?_⟩
  replace BK284 := Aside0.mk (blk_below (g := gb284) au54 hb)
  replace BK286 := Aside0.mk (blk_below (g := gb286) au55 hb)
  replace HB := Aside0.mk (below_step au12 hb)
  (try clear hb)
  refine hK.out _ _ ⟨(blk_cell BK286.out 0).trans rfl, (blk_cell BK286.out 1).trans rfl, (blk_cell BK286.out 2).trans rfl, (blk_cell BK286.out 3).trans rfl, (blk_cell BK286.out 4).trans rfl, (blk_cell BK286.out 5).trans rfl, (blk_cell BK286.out 6).trans rfl, (blk_cell BK286.out 7).trans rfl, (blk_cell BK286.out 8).trans rfl, (blk_cell BK286.out 9).trans rfl, (blk_cell BK286.out 10).trans rfl, (blk_cell BK286.out 11).trans rfl, (blk_cell BK286.out 12).trans rfl, (blk_cell BK286.out 13).trans rfl⟩ (fun hHeld => ?_)
  clear hK K
  refine no_ (some 14) ?_
  refine pu_ 2 (some 15) #[true, true, true, false, false, false, false, false, false, false, false, false, false, false, false, false, false, false, false] HT_.out ?_
  refine pu_ 3 (some 16) #[true, true, true, true, false, false, false, false, false, false, false, false, false, false, false, false, false, false, false] HT_.out ?_
  first
  |
   refine pure_ (i := 4) (N := some 17) (v := undef) (a' := ?_) #[true, true, true, true, true, false, false, false, false, false, false, false, false, false, false, false, false, false, false] rfl rfl (any_of HT_.out (by kernel_rfl)) (fun _ _ _ h => h) (Or.inr ⟨by rfl, rfl⟩) ?_ ?_
   rotate_left
   ·
    simp only [Act.put, List.setIfInBounds_toArray, List.set_cons_zero, List.set_cons_succ, i64_w, i32_w]
    rfl
   refine pure_ (i := 5) (N := some 18) (v := undef) (a' := ?_) #[true, true, true, true, true, true, false, false, false, false, false, false, false, false, false, false, false, false, false] rfl rfl (any_of HT_.out (by kernel_rfl)) (fun _ _ _ h => h) (Or.inr ⟨by rfl, rfl⟩) ?_ ?_
   rotate_left
   ·
    simp only [Act.put, List.setIfInBounds_toArray, List.set_cons_zero, List.set_cons_succ, i64_w, i32_w]
    rfl
   refine pure_ (i := 6) (N := some 19) (v := undef) (a' := ?_) #[true, true, true, true, true, true, true, false, false, false, false, false, false, false, false, false, false, false, false] rfl rfl (any_of HT_.out (by kernel_rfl)) (fun _ _ _ h => h) (Or.inr ⟨by rfl, rfl⟩) ?_ ?_
   rotate_left
   ·
    simp only [Act.put, List.setIfInBounds_toArray, List.set_cons_zero, List.set_cons_succ, i64_w, i32_w]
    rfl
   refine pure_ (i := 7) (N := some 20) (v := undef) (a' := ?_) #[true, true, true, true, true, true, true, true, false, false, false, false, false, false, false, false, false, false, false] rfl rfl (any_of HT_.out (by kernel_rfl)) (fun _ _ _ h => h) (Or.inr ⟨by rfl, rfl⟩) ?_ ?_
   rotate_left
   ·
    simp only [Act.put, List.setIfInBounds_toArray, List.set_cons_zero, List.set_cons_succ, i64_w, i32_w]
    rfl
   refine pure_ (i := 8) (N := some 21) (v := undef) (a' := ?_) #[true, true, true, true, true, true, true, true, true, false, false, false, false, false, false, false, false, false, false] rfl rfl (any_of HT_.out (by kernel_rfl)) (fun _ _ _ h => h) (Or.inr ⟨by rfl, rfl⟩) ?_ ?_
   rotate_left
   ·
    simp only [Act.put, List.setIfInBounds_toArray, List.set_cons_zero, List.set_cons_succ, i64_w, i32_w]
    rfl
   refine pure_ (i := 9) (N := some 22) (v := undef) (a' := ?_) #[true, true, true, true, true, true, true, true, true, true, false, false, false, false, false, false, false, false, false] rfl rfl (any_of HT_.out (by kernel_rfl)) (fun _ _ _ h => h) (Or.inr ⟨by rfl, rfl⟩) ?_ ?_
   rotate_left
   ·
    simp only [Act.put, List.setIfInBounds_toArray, List.set_cons_zero, List.set_cons_succ, i64_w, i32_w]
    rfl
   refine pure_ (i := 10) (N := some 23) (v := undef) (a' := ?_) #[true, true, true, true, true, true, true, true, true, true, true, false, false, false, false, false, false, false, false] rfl rfl (any_of HT_.out (by kernel_rfl)) (fun _ _ _ h => h) (Or.inr ⟨by rfl, rfl⟩) ?_ ?_
   rotate_left
   ·
    simp only [Act.put, List.setIfInBounds_toArray, List.set_cons_zero, List.set_cons_succ, i64_w, i32_w]
    rfl
   refine pure_ (i := 11) (N := some 24) (v := undef) (a' := ?_) #[true, true, true, true, true, true, true, true, true, true, true, true, false, false, false, false, false, false, false] rfl rfl (any_of HT_.out (by kernel_rfl)) (fun _ _ _ h => h) (Or.inr ⟨by rfl, rfl⟩) ?_ ?_
   rotate_left
   ·
    simp only [Act.put, List.setIfInBounds_toArray, List.set_cons_zero, List.set_cons_succ, i64_w, i32_w]
    rfl
   refine pure_ (i := 12) (N := some 25) (v := undef) (a' := ?_) #[true, true, true, true, true, true, true, true, true, true, true, true, true, false, false, false, false, false, false] rfl rfl (any_of HT_.out (by kernel_rfl)) (fun _ _ _ h => h) (Or.inr ⟨by rfl, rfl⟩) ?_ ?_
   rotate_left
   ·
    simp only [Act.put, List.setIfInBounds_toArray, List.set_cons_zero, List.set_cons_succ, i64_w, i32_w]
    rfl
   refine pure_ (i := 13) (N := some 26) (v := undef) (a' := ?_) #[true, true, true, true, true, true, true, true, true, true, true, true, true, true, false, false, false, false, false] rfl rfl (any_of HT_.out (by kernel_rfl)) (fun _ _ _ h => h) (Or.inr ⟨by rfl, rfl⟩) ?_ ?_
   rotate_left
   ·
    simp only [Act.put, List.setIfInBounds_toArray, List.set_cons_zero, List.set_cons_succ, i64_w, i32_w]
    rfl
   refine pure_ (i := 14) (N := some 27) (v := undef) (a' := ?_) #[true, true, true, true, true, true, true, true, true, true, true, true, true, true, true, false, false, false, false] rfl rfl (any_of HT_.out (by kernel_rfl)) (fun _ _ _ h => h) (Or.inr ⟨by rfl, rfl⟩) ?_ ?_
   rotate_left
   ·
    simp only [Act.put, List.setIfInBounds_toArray, List.set_cons_zero, List.set_cons_succ, i64_w, i32_w]
    rfl
   refine pure_ (i := 15) (N := some 28) (v := undef) (a' := ?_) #[true, true, true, true, true, true, true, true, true, true, true, true, true, true, true, true, false, false, false] rfl rfl (any_of HT_.out (by kernel_rfl)) (fun _ _ _ h => h) (Or.inr ⟨by rfl, rfl⟩) ?_ ?_
   rotate_left
   ·
    simp only [Act.put, List.setIfInBounds_toArray, List.set_cons_zero, List.set_cons_succ, i64_w, i32_w]
    rfl
   refine pure_ (i := 16) (N := some 29) (v := undef) (a' := ?_) #[true, true, true, true, true, true, true, true, true, true, true, true, true, true, true, true, true, false, false] rfl rfl (any_of HT_.out (by kernel_rfl)) (fun _ _ _ h => h) (Or.inr ⟨by rfl, rfl⟩) ?_ ?_
   rotate_left
   ·
    simp only [Act.put, List.setIfInBounds_toArray, List.set_cons_zero, List.set_cons_succ, i64_w, i32_w]
    rfl
   refine pure_ (i := 17) (N := some 30) (v := undef) (a' := ?_) #[true, true, true, true, true, true, true, true, true, true, true, true, true, true, true, true, true, true, false] rfl rfl (any_of HT_.out (by kernel_rfl)) (fun _ _ _ h => h) (Or.inr ⟨by rfl, rfl⟩) ?_ ?_
   rotate_left
   ·
    simp only [Act.put, List.setIfInBounds_toArray, List.set_cons_zero, List.set_cons_succ, i64_w, i32_w]
    rfl
   refine pu_ 18 (some 31) #[true, true, true, true, true, true, true, true, true, true, true, true, true, true, true, true, true, true, true] HT_.out ?_
   refine done_ (done_of HT_.out (by kernel_rfl)) ?_
   try go_wp2
   go_ret
   exact ⟨by first | rfl | (simp [errW_none, errW_some] <;> rfl) | (simp [*, errW_none, errW_some] <;> rfl), by repeat (first | (with_reducible first | exact HB.out | apply below_alloc | apply pw_below_drewN | apply below_drew1 | refine below_set ?_ GE284.out | refine below_set ?_ GE286.out) | exact HB.out)⟩
  |
   have g_ : decide (0 < x8_1) = false := c9b0
   clear g_
   refine pu_ 4 (some 17) #[true, true, true, true, true, false, false, false, false, false, false, false, false, false, false, false, false, false, false] HT_.out ?_
   refine pu_ 5 (some 18) #[true, true, true, true, true, true, false, false, false, false, false, false, false, false, false, false, false, false, false] HT_.out ?_
   refine pu_ 6 (some 19) #[true, true, true, true, true, true, true, false, false, false, false, false, false, false, false, false, false, false, false] HT_.out ?_
   refine pure_ (i := 7) (N := some 20) (v := undef) (a' := ?_) #[true, true, true, true, true, true, true, true, false, false, false, false, false, false, false, false, false, false, false] rfl rfl (any_of HT_.out (by kernel_rfl)) (fun _ _ _ h => h) (Or.inr ⟨by rfl, rfl⟩) ?_ ?_
   rotate_left
   ·
    simp only [Act.put, List.setIfInBounds_toArray, List.set_cons_zero, List.set_cons_succ, i64_w, i32_w]
    rfl
   refine pure_ (i := 8) (N := some 21) (v := undef) (a' := ?_) #[true, true, true, true, true, true, true, true, true, false, false, false, false, false, false, false, false, false, false] rfl rfl (any_of HT_.out (by kernel_rfl)) (fun _ _ _ h => h) (Or.inr ⟨by rfl, rfl⟩) ?_ ?_
   rotate_left
   ·
    simp only [Act.put, List.setIfInBounds_toArray, List.set_cons_zero, List.set_cons_succ, i64_w, i32_w]
    rfl
   refine pure_ (i := 9) (N := some 22) (v := undef) (a' := ?_) #[true, true, true, true, true, true, true, true, true, true, false, false, false, false, false, false, false, false, false] rfl rfl (any_of HT_.out (by kernel_rfl)) (fun _ _ _ h => h) (Or.inr ⟨by rfl, rfl⟩) ?_ ?_
   rotate_left
   ·
    simp only [Act.put, List.setIfInBounds_toArray, List.set_cons_zero, List.set_cons_succ, i64_w, i32_w]
    rfl
   refine pure_ (i := 10) (N := some 23) (v := undef) (a' := ?_) #[true, true, true, true, true, true, true, true, true, true, true, false, false, false, false, false, false, false, false] rfl rfl (any_of HT_.out (by kernel_rfl)) (fun _ _ _ h => h) (Or.inr ⟨by rfl, rfl⟩) ?_ ?_
   rotate_left
   ·
    simp only [Act.put, List.setIfInBounds_toArray, List.set_cons_zero, List.set_cons_succ, i64_w, i32_w]
    rfl
   refine pure_ (i := 11) (N := some 24) (v := undef) (a' := ?_) #[true, true, true, true, true, true, true, true, true, true, true, true, false, false, false, false, false, false, false] rfl rfl (any_of HT_.out (by kernel_rfl)) (fun _ _ _ h => h) (Or.inr ⟨by rfl, rfl⟩) ?_ ?_
   rotate_left
   ·
    simp only [Act.put, List.setIfInBounds_toArray, List.set_cons_zero, List.set_cons_succ, i64_w, i32_w]
    rfl
   refine pure_ (i := 12) (N := some 25) (v := undef) (a' := ?_) #[true, true, true, true, true, true, true, true, true, true, true, true, true, false, false, false, false, false, false] rfl rfl (any_of HT_.out (by kernel_rfl)) (fun _ _ _ h => h) (Or.inr ⟨by rfl, rfl⟩) ?_ ?_
   rotate_left
   ·
    simp only [Act.put, List.setIfInBounds_toArray, List.set_cons_zero, List.set_cons_succ, i64_w, i32_w]
    rfl
   refine pure_ (i := 13) (N := some 26) (v := undef) (a' := ?_) #[true, true, true, true, true, true, true, true, true, true, true, true, true, true, false, false, false, false, false] rfl rfl (any_of HT_.out (by kernel_rfl)) (fun _ _ _ h => h) (Or.inr ⟨by rfl, rfl⟩) ?_ ?_
   rotate_left
   ·
    simp only [Act.put, List.setIfInBounds_toArray, List.set_cons_zero, List.set_cons_succ, i64_w, i32_w]
    rfl
   refine pure_ (i := 14) (N := some 27) (v := undef) (a' := ?_) #[true, true, true, true, true, true, true, true, true, true, true, true, true, true, true, false, false, false, false] rfl rfl (any_of HT_.out (by kernel_rfl)) (fun _ _ _ h => h) (Or.inr ⟨by rfl, rfl⟩) ?_ ?_
   rotate_left
   ·
    simp only [Act.put, List.setIfInBounds_toArray, List.set_cons_zero, List.set_cons_succ, i64_w, i32_w]
    rfl
   refine pure_ (i := 15) (N := some 28) (v := undef) (a' := ?_) #[true, true, true, true, true, true, true, true, true, true, true, true, true, true, true, true, false, false, false] rfl rfl (any_of HT_.out (by kernel_rfl)) (fun _ _ _ h => h) (Or.inr ⟨by rfl, rfl⟩) ?_ ?_
   rotate_left
   ·
    simp only [Act.put, List.setIfInBounds_toArray, List.set_cons_zero, List.set_cons_succ, i64_w, i32_w]
    rfl
   refine pure_ (i := 16) (N := some 29) (v := undef) (a' := ?_) #[true, true, true, true, true, true, true, true, true, true, true, true, true, true, true, true, true, false, false] rfl rfl (any_of HT_.out (by kernel_rfl)) (fun _ _ _ h => h) (Or.inr ⟨by rfl, rfl⟩) ?_ ?_
   rotate_left
   ·
    simp only [Act.put, List.setIfInBounds_toArray, List.set_cons_zero, List.set_cons_succ, i64_w, i32_w]
    rfl
   refine pu_ 17 (some 30) #[true, true, true, true, true, true, true, true, true, true, true, true, true, true, true, true, true, true, false] HT_.out ?_
   refine pu_ 18 (some 31) #[true, true, true, true, true, true, true, true, true, true, true, true, true, true, true, true, true, true, true] HT_.out ?_
   refine done_ (done_of HT_.out (by kernel_rfl)) ?_
   try go_wp2
   go_roundg k1
   case measure => have := HK1.out; omega
   case rel => exact ⟨(wrap64 (x8_1 + 1)), au72, H', ⟨by have := HK1.out; omega⟩, ⟨by (with_reducible repeat (first | refine blk_drewN ?_ _ | refine blk_drew ?_ | refine blk_alloc ?_ _)); exact BK284.out⟩, ⟨by repeat (first | (with_reducible first | exact HB.out | apply below_alloc | apply pw_below_drewN | apply below_drew1 | refine below_set ?_ GE284.out | refine below_set ?_ GE286.out) | exact HB.out)⟩⟩) : P := h
set_option maxHeartbeats 8000000 in
set_option maxRecDepth 100000 in
theorem impl_IsValidLibrary.calls (k : Nat) (A0_0 : Option Addr) (c0_0 : Nat) (l0_0 : List (S45)) (r : Bool) (w : World) {gF1 gF2 gF3 : Bool} (hG : GL gF1 gF2 gF3 w) (hr0_0 : Kd.C k45 w A0_0 l0_0.length l0_0) (hc0_0 : l0_0.length ≤ c0_0) (h : impl_IsValidLibrary.f k l0_0 = some r) :
  Calls Tryd.prog 17 #[.agg #[.slice A0_0 l0_0.length c0_0]] w fun e w' => e = .returned (.bool r) ∧ Below w.heap.size w w' := by
 have HG := Aside0.mk hG
 clear hG
 have hu31 := Tryd.underlying31
 have hu45 := Tryd.underlying45
 have HR0_0 := Aside0.mk hr0_0
 have HC0_0 := Aside0.mk hc0_0
 clear hr0_0 hc0_0
 have HB := Aside0.mk (Below.refl w.heap.size w)
 have H : (impl_IsValidLibrary.l0 k l0_0 (l0_0.length : Int) 0 l0_0) = some r := h
 clear h
 have H' := Aside0.mk H
 clear H
 go_enter Tryd.func17, Tryd.ntmps17
 go_wp2_with (first | ((with_reducible refine gate_dst (N := 1) rfl ?_); refine box_event ?hg (N := 1) ?hd (cs := #[.slice A0_0 l0_0.length c0_0]) (t := 31) ?hr ?_; (case hd => rfl); (case hg => rfl); (case hr => first | (go_simp; done) | (go_simp; rfl)); intro gb284 hg w2 hbox hb; have BK284 := Aside0.mk (hbox); have GW284 := Aside0.mk (bsz hg au36); have GE284 := Aside0.mk (bsz hg au36); replace HB := Aside0.mk (below_step au36 hb); clear hb hbox hg; have hcz3_0 : w2.cell? ⟨gb284, 0, none⟩ = some (.slice A0_0 l0_0.length c0_0) := (blk_cell BK284.out 0).trans rfl; have hfz3_0 := blk_frozen BK284.out 0))
 go_loopg [8] k (fun kq v8 w' => ∃ (x8_1 : Int), v8 = .int .i64 x8_1 ∧ Aside0 (impl_IsValidLibrary.l0 kq l0_0 (l0_0.length : Int) x8_1 l0_0 = some r) ∧ Aside0 (kq ≤ k) ∧ Aside0 (w'.heap[gb284]? = some (.cells #[(.slice A0_0 l0_0.length c0_0)] 31 (0, 0))) ∧ Aside0 (Below w.heap.size w w'))
 case atStart => exact ⟨(0), au72, H', ⟨Nat.le_refl _⟩, ⟨by (with_reducible repeat (first | refine blk_drewN ?_ _ | refine blk_drew ?_ | refine blk_alloc ?_ _)); exact BK284.out⟩, ⟨by repeat (first | (with_reducible first | exact HB.out | apply below_alloc | apply pw_below_drewN | apply below_drew1 | refine below_set ?_ GE284.out) | exact HB.out)⟩⟩
 case round =>
  clear H'
  try clear c1
  try clear p2
  try clear hcz3_0
  try clear hfz3_0
  obtain ⟨x8_1, rfl, HA, HK1, BK284, HB⟩ := hrel
  cases gk with
  | zero => exact absurd HA.out (by simp [impl_IsValidLibrary.l0])
  | succ k1 =>
   have H := HA.out
   clear HA
   simp only [impl_IsValidLibrary.l0] at H
   by_cases c4 : x8_1 < (l0_0.length : Int)
   ·
    rw [if_pos c4] at H
    have c4b0 : decide (x8_1 < (l0_0.length : Int)) = true := decide_eq_true c4
    clear c4
    by_cases c5 : 0 ≤ x8_1
    ·
     rw [if_pos c5] at H
     have c5b0 : decide (0 ≤ x8_1) = true := decide_eq_true c5
     clear c5
     by_cases c6 : x8_1 < (l0_0.length : Int)
     ·
      rw [if_pos c6] at H
      have c6b0 : decide (x8_1 < (l0_0.length : Int)) = true := decide_eq_true c6
      clear c6
      replace H := Option.bind_eq_some_iff.mp H
      obtain ⟨t287, A70, H⟩ := H
      try dsimp only at H
      have A7 := Aside0.mk A70
      clear A70
      by_cases c8 : t287 = true
      ·
       subst c8
       replace H := (if_pos rfl).symm.trans H
       by_cases c9 : x8_1 > 0
       ·
        rw [if_pos c9] at H
        have c9b0 : decide (0 < x8_1) = true := decide_eq_true c9
        clear c9
        obtain ⟨ji10, hji10⟩ : ∃ j_ : Int, (wrap64 (x8_1 - 1)) = j_ := ⟨_, rfl⟩
        replace H : (if 0 ≤ (ji10) then (if (ji10) < (l0_0.length : Int) then (if ((Op.bytesLess (((rd_T45 l0_0 (ji10)).f0).toList) (((rd_T45 l0_0 x8_1).f0).toList)) = true) then (impl_IsValidLibrary.l0 k1 l0_0 (l0_0.length : Int) (wrap64 (x8_1 + 1)) l0_0) else (some false)) else (none)) else (none)) = some r := by first | (rw [hji10] at H; exact H) | (simp only [hji10] at H ⊢; exact H)
        (try rw [hji10] at A7)
        have hji10w : (IntKind.i64.wrap (x8_1 - 1)) = ji10 := (i64_w _).trans hji10
        by_cases c11 : 0 ≤ (ji10)
        ·
         rw [if_pos c11] at H
         have c11b0 : decide (0 ≤ (ji10)) = true := decide_eq_true c11
         clear c11
         by_cases c12 : (ji10) < (l0_0.length : Int)
         ·
          rw [if_pos c12] at H
          have c12b0 : decide ((ji10) < (l0_0.length : Int)) = true := decide_eq_true c12
          clear c12
          by_cases c13 : ((Op.bytesLess (((rd_T45 l0_0 (ji10)).f0).toList) (((rd_T45 l0_0 x8_1).f0).toList)) = true)
          ·
           rw [if_pos c13] at H
           have c13b0 : (Op.bytesLess (((rd_T45 l0_0 (ji10)).f0).toList) (((rd_T45 l0_0 x8_1).f0).toList)) = true := c13
           clear c13
           have H' := Aside0.mk H
           clear H
           have p285 : 0 ≤ (x8_1 : Int) := of_decide_eq_true au71
           have q285 : x8_1 < (l0_0.length : Int) := of_decide_eq_true au71
           obtain ⟨ad285, A285_2, c285_2, A285_3, c285_3, e285, hx285_0, hx285_1, hx285_2, hx285_3, hx285_4, hx285_5, hx285_6, hx285_7, hx285_8, hx285_9, hx285_10, hx285_11, hx285_12, hx285_13, hl285_2, hi285_2, hl285_3, hi285_3⟩ := at_T45 HR0_0.out x8_1 p285 q285
           cases e285
           replace hx285_0 := bcl HB.out hx285_0
           replace hx285_1 := bcl HB.out hx285_1
           replace hx285_2 := bcl HB.out hx285_2
           replace hx285_3 := bcl HB.out hx285_3
           replace hx285_4 := bcl HB.out hx285_4
           replace hx285_5 := bcl HB.out hx285_5
           replace hx285_6 := bcl HB.out hx285_6
           replace hx285_7 := bcl HB.out hx285_7
           replace hx285_8 := bcl HB.out hx285_8
           replace hx285_9 := bcl HB.out hx285_9
           replace hx285_10 := bcl HB.out hx285_10
           replace hx285_11 := bcl HB.out hx285_11
           replace hx285_12 := bcl HB.out hx285_12
           replace hx285_13 := bcl HB.out hx285_13
           have HR285_2 := Aside0.mk hi285_2
           have HC285_2 := Aside0.mk hl285_2
           clear hi285_2 hl285_2
           have HR285_3 := Aside0.mk hi285_3
           have HC285_3 := Aside0.mk hl285_3
           clear hi285_3 hl285_3
           replace p285 := eq_true p285
           replace q285 := eq_true q285
           exact impl_IsValidLibrary.L0
          ·
           rw [if_neg c13] at H
           have c13b0 : (Op.bytesLess (((rd_T45 l0_0 (ji10)).f0).toList) (((rd_T45 l0_0 x8_1).f0).toList)) = false := by simpa using c13
           clear c13
           obtain rfl := Option.some.inj H
           have p285 : 0 ≤ (x8_1 : Int) := of_decide_eq_true au71
           have q285 : x8_1 < (l0_0.length : Int) := of_decide_eq_true au71
           obtain ⟨ad285, A285_2, c285_2, A285_3, c285_3, e285, hx285_0, hx285_1, hx285_2, hx285_3, hx285_4, hx285_5, hx285_6, hx285_7, hx285_8, hx285_9, hx285_10, hx285_11, hx285_12, hx285_13, hl285_2, hi285_2, hl285_3, hi285_3⟩ := at_T45 HR0_0.out x8_1 p285 q285
           cases e285
           replace hx285_0 := bcl HB.out hx285_0
           replace hx285_1 := bcl HB.out hx285_1
           replace hx285_2 := bcl HB.out hx285_2
           replace hx285_3 := bcl HB.out hx285_3
           replace hx285_4 := bcl HB.out hx285_4
           replace hx285_5 := bcl HB.out hx285_5
           replace hx285_6 := bcl HB.out hx285_6
           replace hx285_7 := bcl HB.out hx285_7
           replace hx285_8 := bcl HB.out hx285_8
           replace hx285_9 := bcl HB.out hx285_9
           replace hx285_10 := bcl HB.out hx285_10
           replace hx285_11 := bcl HB.out hx285_11
           replace hx285_12 := bcl HB.out hx285_12
           replace hx285_13 := bcl HB.out hx285_13
           have HR285_2 := Aside0.mk hi285_2
           have HC285_2 := Aside0.mk hl285_2
           clear hi285_2 hl285_2
           have HR285_3 := Aside0.mk hi285_3
           have HC285_3 := Aside0.mk hl285_3
           clear hi285_3 hl285_3
           replace p285 := eq_true p285
           replace q285 := eq_true q285
           exact impl_IsValidLibrary.L0
         ·
          rw [if_neg c12] at H
          exact absurd H (by simp)
        ·
         rw [if_neg c11] at H
         exact absurd H (by simp)
       ·
        rw [if_neg c9] at H
        have c9b0 : decide (0 < x8_1) = false := decide_eq_false c9
        clear c9
        have H' := Aside0.mk H
        clear H
        have p285 : 0 ≤ (x8_1 : Int) := of_decide_eq_true au71
        have q285 : x8_1 < (l0_0.length : Int) := of_decide_eq_true au71
        obtain ⟨ad285, A285_2, c285_2, A285_3, c285_3, e285, hx285_0, hx285_1, hx285_2, hx285_3, hx285_4, hx285_5, hx285_6, hx285_7, hx285_8, hx285_9, hx285_10, hx285_11, hx285_12, hx285_13, hl285_2, hi285_2, hl285_3, hi285_3⟩ := at_T45 HR0_0.out x8_1 p285 q285
        cases e285
        replace hx285_0 := bcl HB.out hx285_0
        replace hx285_1 := bcl HB.out hx285_1
        replace hx285_2 := bcl HB.out hx285_2
        replace hx285_3 := bcl HB.out hx285_3
        replace hx285_4 := bcl HB.out hx285_4
        replace hx285_5 := bcl HB.out hx285_5
        replace hx285_6 := bcl HB.out hx285_6
        replace hx285_7 := bcl HB.out hx285_7
        replace hx285_8 := bcl HB.out hx285_8
        replace hx285_9 := bcl HB.out hx285_9
        replace hx285_10 := bcl HB.out hx285_10
        replace hx285_11 := bcl HB.out hx285_11
        replace hx285_12 := bcl HB.out hx285_12
        replace hx285_13 := bcl HB.out hx285_13
        have HR285_2 := Aside0.mk hi285_2
        have HC285_2 := Aside0.mk hl285_2
        clear hi285_2 hl285_2
        have HR285_3 := Aside0.mk hi285_3
        have HC285_3 := Aside0.mk hl285_3
        clear hi285_3 hl285_3
        replace p285 := eq_true p285
        replace q285 := eq_true q285
        exact impl_IsValidLibrary.L1
      ·
       replace c8 := Bool.eq_false_iff.mpr c8
       subst c8
       replace H := (if_neg (show ¬ (false = true) by decide)).symm.trans H
       obtain rfl := Option.some.inj H
       have p285 : 0 ≤ (x8_1 : Int) := of_decide_eq_true au71
       have q285 : x8_1 < (l0_0.length : Int) := of_decide_eq_true au71
       obtain ⟨ad285, A285_2, c285_2, A285_3, c285_3, e285, hx285_0, hx285_1, hx285_2, hx285_3, hx285_4, hx285_5, hx285_6, hx285_7, hx285_8, hx285_9, hx285_10, hx285_11, hx285_12, hx285_13, hl285_2, hi285_2, hl285_3, hi285_3⟩ := at_T45 HR0_0.out x8_1 p285 q285
       cases e285
       replace hx285_0 := bcl HB.out hx285_0
       replace hx285_1 := bcl HB.out hx285_1
       replace hx285_2 := bcl HB.out hx285_2
       replace hx285_3 := bcl HB.out hx285_3
       replace hx285_4 := bcl HB.out hx285_4
       replace hx285_5 := bcl HB.out hx285_5
       replace hx285_6 := bcl HB.out hx285_6
       replace hx285_7 := bcl HB.out hx285_7
       replace hx285_8 := bcl HB.out hx285_8
       replace hx285_9 := bcl HB.out hx285_9
       replace hx285_10 := bcl HB.out hx285_10
       replace hx285_11 := bcl HB.out hx285_11
       replace hx285_12 := bcl HB.out hx285_12
       replace hx285_13 := bcl HB.out hx285_13
       have HR285_2 := Aside0.mk hi285_2
       have HC285_2 := Aside0.mk hl285_2
       clear hi285_2 hl285_2
       have HR285_3 := Aside0.mk hi285_3
       have HC285_3 := Aside0.mk hl285_3
       clear hi285_3 hl285_3
       replace p285 := eq_true p285
       replace q285 := eq_true q285
       exact impl_IsValidLibrary.L1
     ·
      rw [if_neg c6] at H
      exact absurd H (by simp)
    ·
     rw [if_neg c5] at H
     exact absurd H (by simp)
   ·
    rw [if_neg c4] at H
    have c4b0 : decide (x8_1 < (l0_0.length : Int)) = false := decide_eq_false c4
    clear c4
    obtain rfl := Option.some.inj H
    have hcz38_0 : wr.cell? ⟨gb284, 0, none⟩ = some (.slice A0_0 l0_0.length c0_0) := (blk_cell BK284.out 0).trans rfl
    have hfz38_0 := blk_frozen BK284.out 0
    go_wp2
    go_ret
    exact ⟨by first | rfl | (simp [errW_none, errW_some] <;> rfl) | (simp [*, errW_none, errW_some] <;> rfl), by repeat (first | (with_reducible first | exact HB.out | apply below_alloc | apply pw_below_drewN | apply below_drew1 | refine below_set ?_ GE284.out) | exact HB.out)⟩


/-! ### impl_EntriesOfKind: function 7 -/
mutual
def impl_EntriesOfKind.j0 : Nat → Int → Bool → List (S45) → Option (List ByteArray × Bool)
 | 0, _, _, _ => none
 | k + 1, x1, x16, x290000 => if x16 = true then (some (([] : List ByteArray), false)) else (impl_EntriesOfKind.l0 k x1 (([] : List ByteArray)) x290000 (x290000.length : Int) 0)
def impl_EntriesOfKind.l0 : Nat → Int → List ByteArray → List (S45) → Int → Int → Option (List ByteArray × Bool)
 | 0, _, _, _, _, _ => none
 | k + 1, x1, x6, x19, x20, x21 => if x21 < x20 then (if 0 ≤ x21 then (if x21 < (x19.length : Int) then (if ((rd_T45 x19 x21).f1) = x1 then (if x6.length < 8796093022208 then (impl_EntriesOfKind.l0 k x1 (x6 ++ [(rd_T45 x19 x21).f0]) x19 x20 (wrap64 (x21 + 1))) else (none)) else (impl_EntriesOfKind.l0 k x1 x6 x19 x20 (wrap64 (x21 + 1)))) else (none)) else (none)) else (some (x6, true))
end
def impl_EntriesOfKind.f (k : Nat) (l0_0 : List (S45)) (a1 : Int) : Option (List ByteArray × Bool) := (impl_IsValidLibrary.f k l0_0).bind fun t290 => (if t290 = true then ((impl_isKind.f a1).bind fun t291 => (impl_EntriesOfKind.j0 k a1 (!t291) l0_0)) else (impl_EntriesOfKind.j0 k a1 true l0_0))
theorem impl_EntriesOfKind.mono_l : ∀ k, (∀ y0 y1 y2, LeO (impl_EntriesOfKind.j0 k y0 y1 y2) (impl_EntriesOfKind.j0 (k + 1) y0 y1 y2)) ∧ (∀ y0 y1 y2 y3 y4, LeO (impl_EntriesOfKind.l0 k y0 y1 y2 y3 y4) (impl_EntriesOfKind.l0 (k + 1) y0 y1 y2 y3 y4))
 | 0 => ⟨fun _ _ _ r h => by simp [impl_EntriesOfKind.j0] at h, fun _ _ _ _ _ r h => by simp [impl_EntriesOfKind.l0] at h⟩
 | k + 1 => by
  obtain ⟨ih0, ih1⟩ := impl_EntriesOfKind.mono_l k
  refine ⟨?_, ?_⟩
  ·
   intro y0 y1 y2
   unfold impl_EntriesOfKind.j0
   repeat' first
   | (with_reducible exact ih0 _ _ _)
   | (with_reducible exact ih1 _ _ _ _ _)
   | (with_reducible exact impl_IsValidLibrary.mono _ _)
   | (with_reducible exact LeO.refl _)
   | (with_reducible exact LeO.none _)
   | (with_reducible refine LeO.ite ?_ ?_)
   | (with_reducible refine LeO.bind ?_ (fun _ => ?_))
   | exact ih0 _ _ _
   | exact ih1 _ _ _ _ _
   | exact impl_IsValidLibrary.mono _ _
   | exact LeO.none _
   | refine LeO.ite ?_ ?_
   | refine LeO.bind ?_ (fun _ => ?_)
  ·
   intro y0 y1 y2 y3 y4
   unfold impl_EntriesOfKind.l0
   repeat' first
   | (with_reducible exact ih0 _ _ _)
   | (with_reducible exact ih1 _ _ _ _ _)
   | (with_reducible exact impl_IsValidLibrary.mono _ _)
   | (with_reducible exact LeO.refl _)
   | (with_reducible exact LeO.none _)
   | (with_reducible refine LeO.ite ?_ ?_)
   | (with_reducible refine LeO.bind ?_ (fun _ => ?_))
   | exact ih0 _ _ _
   | exact ih1 _ _ _ _ _
   | exact impl_IsValidLibrary.mono _ _
   | exact LeO.none _
   | refine LeO.ite ?_ ?_
   | refine LeO.bind ?_ (fun _ => ?_)
theorem impl_EntriesOfKind.mono : ∀ a0 a1 k, LeO (impl_EntriesOfKind.f k a0 a1) (impl_EntriesOfKind.f (k + 1) a0 a1) := by
 intro a0 a1 k
 obtain ⟨ih0, ih1⟩ := impl_EntriesOfKind.mono_l k
 unfold impl_EntriesOfKind.f
 repeat' first
   | (with_reducible exact ih0 _ _ _)
   | (with_reducible exact ih1 _ _ _ _ _)
   | (with_reducible exact impl_IsValidLibrary.mono _ _)
   | (with_reducible exact LeO.refl _)
   | (with_reducible exact LeO.none _)
   | (with_reducible refine LeO.ite ?_ ?_)
   | (with_reducible refine LeO.bind ?_ (fun _ => ?_))
   | exact ih0 _ _ _
   | exact ih1 _ _ _ _ _
   | exact impl_IsValidLibrary.mono _ _
   | exact LeO.none _
   | refine LeO.ite ?_ ?_
   | refine LeO.bind ?_ (fun _ => ?_)
set_option maxRecDepth 100000 in
theorem impl_EntriesOfKind.L0 {P : Prop} (h : P := by
  have hcz8_0 : w4.cell? ⟨gb289, 0, none⟩ = some (.slice A0_0 l0_0.length c0_0) := (blk_cell BK289.out 0).trans rfl
  have hfz8_0 := blk_frozen BK289.out 0
  go_wp2_with (first | ((with_reducible refine gate_callee (f := 17) rfl ?_); refine goesL_ (some 10) rfl rfl Tryd.func17 (by kernel_rfl) rfl #[.agg #[.slice A0_0 l0_0.length c0_0]] rfl au35 ?_; (with_reducible refine (impl_IsValidLibrary.calls (hG := au0) k _ _ l0_0 _ _ ?side1 ?side2 A5.out).mono ?_); (case side1 => repeat (first | exact (Kd.C_below HR0_0.out HB.out) | (with_reducible refine Kd.C_alloc ?_ _) | (with_reducible refine Kd.C_drewN ?_ _) | (with_reducible refine Kd.C_drew ?_))); (case side2 => exact HC0_0.out); rintro e w9 ⟨rfl, hb⟩; refine ⟨_, rfl, ?_⟩; replace BK289 := Aside0.mk (blk_below (g := gb289) au56 hb); replace HB := Aside0.mk (below_step au29 hb); (try clear hb)) | (go_at_call 18; (with_reducible refine (impl_isKind.calls a1 t291 _ A7.out).mono ?_); rintro e w' ⟨rfl, ⟨nd, rfl⟩⟩))
  go_meet
  case rel => first | (exact ⟨_, (!t291), au72, H', ⟨by first | omega | exact Nat.le_refl _⟩, ⟨by (with_reducible repeat (first | refine blk_drewN ?_ _ | refine blk_drew ?_ | refine blk_alloc ?_ _)); exact BK289.out⟩, ⟨by repeat (first | (with_reducible first | exact HB.out | apply below_alloc | apply pw_below_drewN | apply below_drew1 | refine below_set ?_ GE289.out) | exact HB.out)⟩⟩) | (exact ⟨_, (true), au72, H', ⟨by first | omega | exact Nat.le_refl _⟩, ⟨by (with_reducible repeat (first | refine blk_drewN ?_ _ | refine blk_drew ?_ | refine blk_alloc ?_ _)); exact BK289.out⟩, ⟨by repeat (first | (with_reducible first | exact HB.out | apply below_alloc | apply pw_below_drewN | apply below_drew1 | refine below_set ?_ GE289.out) | exact HB.out)⟩⟩)) : P := h
set_option maxHeartbeats 8000000 in
set_option maxRecDepth 100000 in
theorem impl_EntriesOfKind.calls (k : Nat) (A0_0 : Option Addr) (c0_0 : Nat) (l0_0 : List (S45)) (a1 : Int) (r1 : List ByteArray) (r2 : Bool) (w : World) {gF1 gF2 gF3 : Bool} (hG : GL gF1 gF2 gF3 w) (hr0_0 : Kd.C k45 w A0_0 l0_0.length l0_0) (hc0_0 : l0_0.length ≤ c0_0) (h : impl_EntriesOfKind.f k l0_0 a1 = some (r1, r2)) :
  Calls Tryd.prog 7 #[.agg #[.slice A0_0 l0_0.length c0_0], .int .i64 a1] w fun e w' => ∃ v0_ : Value, e = .returned (.tuple #[v0_, .bool r2]) ∧ Kd.R Kd.string 9 w' w.heap.size (fun _ => True) v0_ r1 ∧ Below w.heap.size w w' := by
 have HG := Aside0.mk hG
 clear hG
 have hu31 := Tryd.underlying31
 have hu45 := Tryd.underlying45
 have HR0_0 := Aside0.mk hr0_0
 have HC0_0 := Aside0.mk hc0_0
 clear hr0_0 hc0_0
 have HB := Aside0.mk (Below.refl w.heap.size w)
 have H : ((impl_IsValidLibrary.f k l0_0).bind fun t290 => (if t290 = true then ((impl_isKind.f a1).bind fun t291 => (impl_EntriesOfKind.j0 k a1 (!t291) l0_0)) else (impl_EntriesOfKind.j0 k a1 true l0_0))) = some (r1, r2) := h
 clear h
 have HC3 := Aside0.mk H
 clear H
 go_enter Tryd.func7, Tryd.ntmps7
 go_upto_region 1 with (first | ((with_reducible refine gate_dst (N := 2) rfl ?_); refine box_event ?hg (N := 2) ?hd (cs := #[.slice A0_0 l0_0.length c0_0]) (t := 31) ?hr ?_; (case hd => rfl); (case hg => rfl); (case hr => first | (go_simp; done) | (go_simp; rfl)); intro gb289 hg w4 hbox hb; have BK289 := Aside0.mk (hbox); have GW289 := Aside0.mk (bsz hg au36); have GE289 := Aside0.mk (bsz hg au36); replace HB := Aside0.mk (below_step au36 hb); clear hb hbox hg))
 (try simp only [Act.put, List.setIfInBounds_toArray, List.set_cons_zero, List.set_cons_succ])
 go_cut [16] (fun v16 wc => ∃ (kq : Nat) (x16_2 : Bool), v16 = .bool x16_2 ∧ Aside0 (impl_EntriesOfKind.j0 kq a1 x16_2 l0_0 = some (r1, r2)) ∧ Aside0 (kq ≤ k) ∧ Aside0 (wc.heap[gb289]? = some (.cells #[(.slice A0_0 l0_0.length c0_0)] 31 (0, 0))) ∧ Aside0 (Below w.heap.size w wc))
 case first =>
  have H := HC3.out
  clear HC3
  replace H := Option.bind_eq_some_iff.mp H
  obtain ⟨t290, A50, H⟩ := H
  try dsimp only at H
  have A5 := Aside0.mk A50
  clear A50
  by_cases c6 : t290 = true
  ·
   subst c6
   replace H := (if_pos rfl).symm.trans H
   replace H := Option.bind_eq_some_iff.mp H
   obtain ⟨t291, A70, H⟩ := H
   try dsimp only at H
   have A7 := Aside0.mk A70
   clear A70
   have H' := Aside0.mk H
   clear H
   exact impl_EntriesOfKind.L0
  ·
   replace c6 := Bool.eq_false_iff.mpr c6
   subst c6
   replace H := (if_neg (show ¬ (false = true) by decide)).symm.trans H
   have H' := Aside0.mk H
   clear H
   exact impl_EntriesOfKind.L0
 case rest =>
  clear HC3
  try clear c1
  try clear p2
  try clear c6
  try clear c7
  try clear hcz10_0
  try clear hcz8_0
  try clear hfz10_0
  try clear hfz8_0
  obtain ⟨kq, x16_2, rfl, HA, HJ2, BK289, HB⟩ := hcut
  cases kq with
  | zero => exact absurd HA.out (by simp [impl_EntriesOfKind.j0])
  | succ kj2 =>
   have H := HA.out
   clear HA
   simp only [impl_EntriesOfKind.j0] at H
   by_cases c12 : x16_2 = true
   ·
    subst c12
    replace H := (if_pos rfl).symm.trans H
    simp only [Option.some.injEq, Prod.mk.injEq] at H
    obtain ⟨rfl, rfl⟩ := H
    go_wp2
    go_ret2
    exact ⟨_, by first | rfl | (simp [errW_none, errW_some] <;> rfl) | (simp [*, errW_none, errW_some] <;> rfl), by first | exact Kd.R_nil _ _ _ _ _ | exact Kd.N_nil _ _ _ _ _ | exact Kd.V_nil _ _ _ _ _ | exact Kd.Q_nil _ _ _ _ _ | exact Kd.S_nil _ _ _ _ _, by repeat (first | (with_reducible first | exact HB.out | apply below_alloc | apply pw_below_drewN | apply below_drew1 | refine below_set ?_ GE289.out) | exact HB.out)⟩
   ·
    replace c12 := Bool.eq_false_iff.mpr c12
    subst c12
    replace H := (if_neg (show ¬ (false = true) by decide)).symm.trans H
    obtain ⟨y292, hy292⟩ : ∃ y_ : List ByteArray, y_ = (([] : List ByteArray)) := ⟨_, rfl⟩
    replace H : (impl_EntriesOfKind.l0 kj2 a1 y292 l0_0 (l0_0.length : Int) 0) = some (r1, r2) := by first | (rw [hy292]; with_reducible exact H) | (have H2_ := (Option.bind_some _ _).symm.trans H; rw [hy292]; with_reducible exact H2_) | (have H2_ := (Option.bind_some _ _).symm.trans H; with_reducible exact H2_) | with_reducible exact H | (rw [hy292]; exact H) | exact H
    have Ny292 := Aside0.mk hy292
    clear hy292
    have H' := Aside0.mk H
    clear H
    go_wp2_with (first | ((with_reducible refine gate_dst (N := 17) rfl ?_); refine Kd.R_lit Kd.string _ 9 ?hg (N := 17) ?hd (xs := ([] : List ByteArray)) (inner := []) (ok := fun _ => True) (okp := fun _ => True) ?hr ?hp (fun _ hk => hk) trivial (Below.refl _ _) (Nat.le_refl _) (by simp) ?_; (case hd => rfl); (case hg => rfl); (case hr => first | (go_simp; done) | (go_simp; rfl)); (case hp => exact (Reps.none _ _)); intro v293 w13 ho14 hb hg_ hnew_; clear hg_ hnew_; (first | rw [← Ny292.out] at ho14 | (simp only [Int.reduceToNat] at ho14; rw [← Ny292.out] at ho14)); have HO294 := Aside0.mk (Kd.R_lower ho14 (below_size au29)); replace BK289 := Aside0.mk (blk_below (g := gb289) au56 hb); replace HB := Aside0.mk (below_step au29 hb); clear hb ho14; have hcz15_0 : w13.cell? ⟨gb289, 0, none⟩ = some (.slice A0_0 l0_0.length c0_0) := (blk_cell BK289.out 0).trans rfl; have hfz15_0 := blk_frozen BK289.out 0))
    go_loopg [6, 21] kj2 (fun kq v6 v21 w' => ∃ (x6_2 : List ByteArray) (x21_2 : Int), v21 = .int .i64 x21_2 ∧ Aside0 (impl_EntriesOfKind.l0 kq a1 x6_2 l0_0 (l0_0.length : Int) x21_2 = some (r1, r2)) ∧ Aside0 (kq ≤ kj2) ∧ Aside0 (Kd.R Kd.string 9 w' w.heap.size (fun _ => True) v6 x6_2) ∧ Aside0 (w'.heap[gb289]? = some (.cells #[(.slice A0_0 l0_0.length c0_0)] 31 (0, 0))) ∧ Aside0 (Below w.heap.size w w'))
    case atStart => exact ⟨(y292), (0), au72, H', ⟨Nat.le_refl _⟩, ⟨by (with_reducible repeat (first | apply Kd.R_alloc | apply Kd.R_drewN | apply Kd.R_drew)); exact HO294.out⟩, ⟨by (with_reducible repeat (first | refine blk_drewN ?_ _ | refine blk_drew ?_ | refine blk_alloc ?_ _)); exact BK289.out⟩, ⟨by repeat (first | (with_reducible first | exact HB.out | apply below_alloc | apply pw_below_drewN | apply below_drew1 | refine below_set ?_ GE289.out) | exact HB.out)⟩⟩
    case round =>
     clear H'
     try clear c1
     try clear p2
     try clear c6
     try clear c7
     try clear c12
     try clear hcz10_0
     try clear hcz15_0
     try clear hcz8_0
     try clear hfz10_0
     try clear hfz15_0
     try clear hfz8_0
     try clear p2
     obtain ⟨x6_2, x21_2, rfl, HA, HK2, HO_6, BK289, HB⟩ := hrel
     cases gk with
     | zero => exact absurd HA.out (by simp [impl_EntriesOfKind.l0])
     | succ k2 =>
      have H := HA.out
      clear HA
      simp only [impl_EntriesOfKind.l0] at H
      by_cases c16 : x21_2 < (l0_0.length : Int)
      ·
       rw [if_pos c16] at H
       have c16b0 : decide (x21_2 < (l0_0.length : Int)) = true := decide_eq_true c16
       clear c16
       by_cases c17 : 0 ≤ x21_2
       ·
        rw [if_pos c17] at H
        have c17b0 : decide (0 ≤ x21_2) = true := decide_eq_true c17
        clear c17
        by_cases c18 : x21_2 < (l0_0.length : Int)
        ·
         rw [if_pos c18] at H
         have c18b0 : decide (x21_2 < (l0_0.length : Int)) = true := decide_eq_true c18
         clear c18
         by_cases c19 : ((rd_T45 l0_0 x21_2).f1) = a1
         ·
          rw [if_pos c19] at H
          have c19b0 : (((rd_T45 l0_0 x21_2).f1) == a1) = true := beq_iff_eq.mpr c19
          have c19b1 : (((rd_T45 l0_0 x21_2).f1) != a1) = false := bne_eq_false_iff_eq.mpr c19
          clear c19
          by_cases c20 : x6_2.length < 8796093022208
          ·
           rw [if_pos c20] at H
           have LMc20 := Aside0.mk c20
           clear c20
           obtain ⟨y297, hy297⟩ : ∃ y_ : List ByteArray, y_ = (x6_2 ++ [(rd_T45 l0_0 x21_2).f0]) := ⟨_, rfl⟩
           replace H : (impl_EntriesOfKind.l0 k2 a1 y297 l0_0 (l0_0.length : Int) (wrap64 (x21_2 + 1))) = some (r1, r2) := by first | (rw [hy297]; with_reducible exact H) | (have H2_ := (Option.bind_some _ _).symm.trans H; rw [hy297]; with_reducible exact H2_) | (have H2_ := (Option.bind_some _ _).symm.trans H; with_reducible exact H2_) | with_reducible exact H | (rw [hy297]; exact H) | exact H
           have Ny297 := Aside0.mk hy297
           clear hy297
           have H' := Aside0.mk H
           clear H
           have p295 : 0 ≤ (x21_2 : Int) := of_decide_eq_true au71
           have q295 : x21_2 < (l0_0.length : Int) := of_decide_eq_true au71
           obtain ⟨ad295, A295_2, c295_2, A295_3, c295_3, e295, hx295_0, hx295_1, hx295_2, hx295_3, hx295_4, hx295_5, hx295_6, hx295_7, hx295_8, hx295_9, hx295_10, hx295_11, hx295_12, hx295_13, hl295_2, hi295_2, hl295_3, hi295_3⟩ := at_T45 HR0_0.out x21_2 p295 q295
           cases e295
           replace hx295_0 := bcl HB.out hx295_0
           replace hx295_1 := bcl HB.out hx295_1
           replace hx295_2 := bcl HB.out hx295_2
           replace hx295_3 := bcl HB.out hx295_3
           replace hx295_4 := bcl HB.out hx295_4
           replace hx295_5 := bcl HB.out hx295_5
           replace hx295_6 := bcl HB.out hx295_6
           replace hx295_7 := bcl HB.out hx295_7
           replace hx295_8 := bcl HB.out hx295_8
           replace hx295_9 := bcl HB.out hx295_9
           replace hx295_10 := bcl HB.out hx295_10
           replace hx295_11 := bcl HB.out hx295_11
           replace hx295_12 := bcl HB.out hx295_12
           replace hx295_13 := bcl HB.out hx295_13
           have HR295_2 := Aside0.mk hi295_2
           have HC295_2 := Aside0.mk hl295_2
           clear hi295_2 hl295_2
           have HR295_3 := Aside0.mk hi295_3
           have HC295_3 := Aside0.mk hl295_3
           clear hi295_3 hl295_3
           replace p295 := eq_true p295
           replace q295 := eq_true q295
           go_wp2_with (first | ((with_reducible refine gate_dst (N := 8) rfl ?_); refine box_event ?hg (N := 8) ?hd (cs := #[.string (⟨#[]⟩ : ByteArray), .int .i64 0, .slice none 0 0, .slice none 0 0, .string (⟨#[]⟩ : ByteArray), .string (⟨#[]⟩ : ByteArray), .string (⟨#[]⟩ : ByteArray), .int .i64 0, .int .i64 0, .int .i64 0, .bool false, .int .i64 0, .string (⟨#[]⟩ : ByteArray), .string (⟨#[]⟩ : ByteArray)]) (t := 45) ?hr ?_; (case hd => rfl); (case hg => rfl); (case hr => first | (go_simp; done) | (go_simp; rfl)); intro gb296 hg w21 hbox hb; replace HO_6 := Aside0.mk (Kd.R_below au68 hb); have BK296 := Aside0.mk (hbox); have GW296 := Aside0.mk (bsz hg au29); have GE296 := Aside0.mk (bsz hg au29); replace HB := Aside0.mk (below_step au29 hb); have NB289_296 := Aside0.mk (bne (g := gb289) hg au56); have NB296_289 := Aside0.mk (ben (g := gb289) hg au56); replace BK289 := Aside0.mk (blk_below (g := gb289) au56 hb); clear hb hbox hg; have hnb22 := NB296_289.out; have hnc22 := NB289_296.out; obtain ⟨hcz23_0, hcz23_1, hcz23_2, hcz23_3, hcz23_4, hcz23_5, hcz23_6, hcz23_7, hcz23_8, hcz23_9, hcz23_10, hcz23_11, hcz23_12, hcz23_13, hfz23_0, hfz23_1, hfz23_2, hfz23_3, hfz23_4, hfz23_5, hfz23_6, hfz23_7, hfz23_8, hfz23_9, hfz23_10, hfz23_11, hfz23_12, hfz23_13⟩ := blkc14 BK296.out) | ((with_reducible refine gate_builtin (b := .append) (xs := #[.tmp 29, .tmp 32]) rfl ?_); at_builtin; refine Kd.R_append Kd.string (w0 := w) w.heap.size rfl (.tmp 29) (.tmp 32) 26 9 (.string ⟨#[]⟩) 16 rfl Tryd.underlying26 info9 rfl (by decide) (by omega) u6 x6_2 ((rd_T45 l0_0 x21_2).f0) [.string ((rd_T45 l0_0 x21_2).f0)] (fun _ => True) (fun _ => False) rfl (by first | (go_simp; done) | (go_simp; rfl)) ?aP (fun _ hk => hk.elim) ?aF ?aO ?aB ?aS ?aL ?_; (case aP => exact rfl); (case aB => exact au13); (case aF => exact (fun _ _ => trivial)); (case aO => exact (by (with_reducible repeat (first | apply Kd.R_alloc | apply Kd.R_drewN | apply Kd.R_drew)); exact Kd.R_mono (Kd.R_far (p := ⟨gb296, 13, none⟩) (Kd.R_far (p := ⟨gb296, 12, none⟩) (Kd.R_far (p := ⟨gb296, 11, none⟩) (Kd.R_far (p := ⟨gb296, 10, none⟩) (Kd.R_far (p := ⟨gb296, 9, none⟩) (Kd.R_far (p := ⟨gb296, 8, none⟩) (Kd.R_far (p := ⟨gb296, 7, none⟩) (Kd.R_far (p := ⟨gb296, 6, none⟩) (Kd.R_far (p := ⟨gb296, 5, none⟩) (Kd.R_far (p := ⟨gb296, 4, none⟩) (Kd.R_far (p := ⟨gb296, 3, none⟩) (Kd.R_far (p := ⟨gb296, 2, none⟩) (Kd.R_far (p := ⟨gb296, 1, none⟩) (Kd.R_far (p := ⟨gb296, 0, none⟩) (Kd.R_types HO_6.out BK296.out (by decide)) (fun _ hk => hk.2) (.string ((rd_T45 l0_0 x21_2).f0))) (fun _ hk => hk.2) (.int .i64 ((rd_T45 l0_0 x21_2).f1))) (fun _ hk => hk.2) (.slice A295_2 ((rd_T45 l0_0 x21_2).f2).length c295_2)) (fun _ hk => hk.2) (.slice A295_3 ((rd_T45 l0_0 x21_2).f3).length c295_3)) (fun _ hk => hk.2) (.string ((rd_T45 l0_0 x21_2).f4))) (fun _ hk => hk.2) (.string ((rd_T45 l0_0 x21_2).f5))) (fun _ hk => hk.2) (.string ((rd_T45 l0_0 x21_2).f6))) (fun _ hk => hk.2) (.int .i64 ((rd_T45 l0_0 x21_2).f7.f0))) (fun _ hk => hk.2) (.int .i64 ((rd_T45 l0_0 x21_2).f7.f1))) (fun _ hk => hk.2) (.int .i64 ((rd_T45 l0_0 x21_2).f7.f2))) (fun _ hk => hk.2) (.bool ((rd_T45 l0_0 x21_2).f7.f3))) (fun _ hk => hk.2) (.int .i64 ((rd_T45 l0_0 x21_2).f8))) (fun _ hk => hk.2) (.string ((rd_T45 l0_0 x21_2).f9))) (fun _ hk => hk.2) (.string ((rd_T45 l0_0 x21_2).f10))) (fun _ hk => trivial))); (case aS => exact (below_size au13)); (case aL => have := LMc20.out; omega); intro v298 w24 ho hb hg hat; rw [← Ny297.out] at ho; have n0_ := Aside0.mk (blk_grown (g := gb289) (o := .cells #[.slice (some ad295) l0_0.length c0_0] 31 (0, 0)) (by (with_reducible repeat (first | refine blk_drewN ?_ _ | refine blk_drew ?_ | refine blk_alloc ?_ _)); refine blk_far ?_ NB289_296.out _; (with_reducible repeat (first | refine blk_drewN ?_ _ | refine blk_drew ?_ | refine blk_alloc ?_ _)); refine blk_far ?_ NB289_296.out _; (with_reducible repeat (first | refine blk_drewN ?_ _ | refine blk_drew ?_ | refine blk_alloc ?_ _)); refine blk_far ?_ NB289_296.out _; (with_reducible repeat (first | refine blk_drewN ?_ _ | refine blk_drew ?_ | refine blk_alloc ?_ _)); refine blk_far ?_ NB289_296.out _; (with_reducible repeat (first | refine blk_drewN ?_ _ | refine blk_drew ?_ | refine blk_alloc ?_ _)); refine blk_far ?_ NB289_296.out _; (with_reducible repeat (first | refine blk_drewN ?_ _ | refine blk_drew ?_ | refine blk_alloc ?_ _)); refine blk_far ?_ NB289_296.out _; (with_reducible repeat (first | refine blk_drewN ?_ _ | refine blk_drew ?_ | refine blk_alloc ?_ _)); refine blk_far ?_ NB289_296.out _; (with_reducible repeat (first | refine blk_drewN ?_ _ | refine blk_drew ?_ | refine blk_alloc ?_ _)); refine blk_far ?_ NB289_296.out _; (with_reducible repeat (first | refine blk_drewN ?_ _ | refine blk_drew ?_ | refine blk_alloc ?_ _)); refine blk_far ?_ NB289_296.out _; (with_reducible repeat (first | refine blk_drewN ?_ _ | refine blk_drew ?_ | refine blk_alloc ?_ _)); refine blk_far ?_ NB289_296.out _; (with_reducible repeat (first | refine blk_drewN ?_ _ | refine blk_drew ?_ | refine blk_alloc ?_ _)); refine blk_far ?_ NB289_296.out _; (with_reducible repeat (first | refine blk_drewN ?_ _ | refine blk_drew ?_ | refine blk_alloc ?_ _)); refine blk_far ?_ NB289_296.out _; (with_reducible repeat (first | refine blk_drewN ?_ _ | refine blk_drew ?_ | refine blk_alloc ?_ _)); refine blk_far ?_ NB289_296.out _; (with_reducible repeat (first | refine blk_drewN ?_ _ | refine blk_drew ?_ | refine blk_alloc ?_ _)); refine blk_far ?_ NB289_296.out _; (with_reducible repeat (first | refine blk_drewN ?_ _ | refine blk_drew ?_ | refine blk_alloc ?_ _)); exact BK289.out) hg (Kd.R_ne HO_6.out BK289.out (by decide))); have n1_ := Aside0.mk (blk_grown (g := gb296) (o := .cells #[.string ((rd_T45 l0_0 x21_2).f0), .int .i64 ((rd_T45 l0_0 x21_2).f1), .slice A295_2 ((rd_T45 l0_0 x21_2).f2).length c295_2, .slice A295_3 ((rd_T45 l0_0 x21_2).f3).length c295_3, .string ((rd_T45 l0_0 x21_2).f4), .string ((rd_T45 l0_0 x21_2).f5), .string ((rd_T45 l0_0 x21_2).f6), .int .i64 ((rd_T45 l0_0 x21_2).f7.f0), .int .i64 ((rd_T45 l0_0 x21_2).f7.f1), .int .i64 ((rd_T45 l0_0 x21_2).f7.f2), .bool ((rd_T45 l0_0 x21_2).f7.f3), .int .i64 ((rd_T45 l0_0 x21_2).f8), .string ((rd_T45 l0_0 x21_2).f9), .string ((rd_T45 l0_0 x21_2).f10)] 45 (0, 0)) (by (with_reducible repeat (first | refine blk_drewN ?_ _ | refine blk_drew ?_ | refine blk_alloc ?_ _)); refine blk_put (cs := #[.string ((rd_T45 l0_0 x21_2).f0), .int .i64 ((rd_T45 l0_0 x21_2).f1), .slice A295_2 ((rd_T45 l0_0 x21_2).f2).length c295_2, .slice A295_3 ((rd_T45 l0_0 x21_2).f3).length c295_3, .string ((rd_T45 l0_0 x21_2).f4), .string ((rd_T45 l0_0 x21_2).f5), .string ((rd_T45 l0_0 x21_2).f6), .int .i64 ((rd_T45 l0_0 x21_2).f7.f0), .int .i64 ((rd_T45 l0_0 x21_2).f7.f1), .int .i64 ((rd_T45 l0_0 x21_2).f7.f2), .bool ((rd_T45 l0_0 x21_2).f7.f3), .int .i64 ((rd_T45 l0_0 x21_2).f8), .string ((rd_T45 l0_0 x21_2).f9), .string (⟨#[]⟩ : ByteArray)]) ?_ 13 _ rfl; (with_reducible repeat (first | refine blk_drewN ?_ _ | refine blk_drew ?_ | refine blk_alloc ?_ _)); refine blk_put (cs := #[.string ((rd_T45 l0_0 x21_2).f0), .int .i64 ((rd_T45 l0_0 x21_2).f1), .slice A295_2 ((rd_T45 l0_0 x21_2).f2).length c295_2, .slice A295_3 ((rd_T45 l0_0 x21_2).f3).length c295_3, .string ((rd_T45 l0_0 x21_2).f4), .string ((rd_T45 l0_0 x21_2).f5), .string ((rd_T45 l0_0 x21_2).f6), .int .i64 ((rd_T45 l0_0 x21_2).f7.f0), .int .i64 ((rd_T45 l0_0 x21_2).f7.f1), .int .i64 ((rd_T45 l0_0 x21_2).f7.f2), .bool ((rd_T45 l0_0 x21_2).f7.f3), .int .i64 ((rd_T45 l0_0 x21_2).f8), .string (⟨#[]⟩ : ByteArray), .string (⟨#[]⟩ : ByteArray)]) ?_ 12 _ rfl; (with_reducible repeat (first | refine blk_drewN ?_ _ | refine blk_drew ?_ | refine blk_alloc ?_ _)); refine blk_put (cs := #[.string ((rd_T45 l0_0 x21_2).f0), .int .i64 ((rd_T45 l0_0 x21_2).f1), .slice A295_2 ((rd_T45 l0_0 x21_2).f2).length c295_2, .slice A295_3 ((rd_T45 l0_0 x21_2).f3).length c295_3, .string ((rd_T45 l0_0 x21_2).f4), .string ((rd_T45 l0_0 x21_2).f5), .string ((rd_T45 l0_0 x21_2).f6), .int .i64 ((rd_T45 l0_0 x21_2).f7.f0), .int .i64 ((rd_T45 l0_0 x21_2).f7.f1), .int .i64 ((rd_T45 l0_0 x21_2).f7.f2), .bool ((rd_T45 l0_0 x21_2).f7.f3), .int .i64 0, .string (⟨#[]⟩ : ByteArray), .string (⟨#[]⟩ : ByteArray)]) ?_ 11 _ rfl; (with_reducible repeat (first | refine blk_drewN ?_ _ | refine blk_drew ?_ | refine blk_alloc ?_ _)); refine blk_put (cs := #[.string ((rd_T45 l0_0 x21_2).f0), .int .i64 ((rd_T45 l0_0 x21_2).f1), .slice A295_2 ((rd_T45 l0_0 x21_2).f2).length c295_2, .slice A295_3 ((rd_T45 l0_0 x21_2).f3).length c295_3, .string ((rd_T45 l0_0 x21_2).f4), .string ((rd_T45 l0_0 x21_2).f5), .string ((rd_T45 l0_0 x21_2).f6), .int .i64 ((rd_T45 l0_0 x21_2).f7.f0), .int .i64 ((rd_T45 l0_0 x21_2).f7.f1), .int .i64 ((rd_T45 l0_0 x21_2).f7.f2), .bool false, .int .i64 0, .string (⟨#[]⟩ : ByteArray), .string (⟨#[]⟩ : ByteArray)]) ?_ 10 _ rfl; (with_reducible repeat (first | refine blk_drewN ?_ _ | refine blk_drew ?_ | refine blk_alloc ?_ _)); refine blk_put (cs := #[.string ((rd_T45 l0_0 x21_2).f0), .int .i64 ((rd_T45 l0_0 x21_2).f1), .slice A295_2 ((rd_T45 l0_0 x21_2).f2).length c295_2, .slice A295_3 ((rd_T45 l0_0 x21_2).f3).length c295_3, .string ((rd_T45 l0_0 x21_2).f4), .string ((rd_T45 l0_0 x21_2).f5), .string ((rd_T45 l0_0 x21_2).f6), .int .i64 ((rd_T45 l0_0 x21_2).f7.f0), .int .i64 ((rd_T45 l0_0 x21_2).f7.f1), .int .i64 0, .bool false, .int .i64 0, .string (⟨#[]⟩ : ByteArray), .string (⟨#[]⟩ : ByteArray)]) ?_ 9 _ rfl; (with_reducible repeat (first | refine blk_drewN ?_ _ | refine blk_drew ?_ | refine blk_alloc ?_ _)); refine blk_put (cs := #[.string ((rd_T45 l0_0 x21_2).f0), .int .i64 ((rd_T45 l0_0 x21_2).f1), .slice A295_2 ((rd_T45 l0_0 x21_2).f2).length c295_2, .slice A295_3 ((rd_T45 l0_0 x21_2).f3).length c295_3, .string ((rd_T45 l0_0 x21_2).f4), .string ((rd_T45 l0_0 x21_2).f5), .string ((rd_T45 l0_0 x21_2).f6), .int .i64 ((rd_T45 l0_0 x21_2).f7.f0), .int .i64 0, .int .i64 0, .bool false, .int .i64 0, .string (⟨#[]⟩ : ByteArray), .string (⟨#[]⟩ : ByteArray)]) ?_ 8 _ rfl; (with_reducible repeat (first | refine blk_drewN ?_ _ | refine blk_drew ?_ | refine blk_alloc ?_ _)); refine blk_put (cs := #[.string ((rd_T45 l0_0 x21_2).f0), .int .i64 ((rd_T45 l0_0 x21_2).f1), .slice A295_2 ((rd_T45 l0_0 x21_2).f2).length c295_2, .slice A295_3 ((rd_T45 l0_0 x21_2).f3).length c295_3, .string ((rd_T45 l0_0 x21_2).f4), .string ((rd_T45 l0_0 x21_2).f5), .string ((rd_T45 l0_0 x21_2).f6), .int .i64 0, .int .i64 0, .int .i64 0, .bool false, .int .i64 0, .string (⟨#[]⟩ : ByteArray), .string (⟨#[]⟩ : ByteArray)]) ?_ 7 _ rfl; (with_reducible repeat (first | refine blk_drewN ?_ _ | refine blk_drew ?_ | refine blk_alloc ?_ _)); refine blk_put (cs := #[.string ((rd_T45 l0_0 x21_2).f0), .int .i64 ((rd_T45 l0_0 x21_2).f1), .slice A295_2 ((rd_T45 l0_0 x21_2).f2).length c295_2, .slice A295_3 ((rd_T45 l0_0 x21_2).f3).length c295_3, .string ((rd_T45 l0_0 x21_2).f4), .string ((rd_T45 l0_0 x21_2).f5), .string (⟨#[]⟩ : ByteArray), .int .i64 0, .int .i64 0, .int .i64 0, .bool false, .int .i64 0, .string (⟨#[]⟩ : ByteArray), .string (⟨#[]⟩ : ByteArray)]) ?_ 6 _ rfl; (with_reducible repeat (first | refine blk_drewN ?_ _ | refine blk_drew ?_ | refine blk_alloc ?_ _)); refine blk_put (cs := #[.string ((rd_T45 l0_0 x21_2).f0), .int .i64 ((rd_T45 l0_0 x21_2).f1), .slice A295_2 ((rd_T45 l0_0 x21_2).f2).length c295_2, .slice A295_3 ((rd_T45 l0_0 x21_2).f3).length c295_3, .string ((rd_T45 l0_0 x21_2).f4), .string (⟨#[]⟩ : ByteArray), .string (⟨#[]⟩ : ByteArray), .int .i64 0, .int .i64 0, .int .i64 0, .bool false, .int .i64 0, .string (⟨#[]⟩ : ByteArray), .string (⟨#[]⟩ : ByteArray)]) ?_ 5 _ rfl; (with_reducible repeat (first | refine blk_drewN ?_ _ | refine blk_drew ?_ | refine blk_alloc ?_ _)); refine blk_put (cs := #[.string ((rd_T45 l0_0 x21_2).f0), .int .i64 ((rd_T45 l0_0 x21_2).f1), .slice A295_2 ((rd_T45 l0_0 x21_2).f2).length c295_2, .slice A295_3 ((rd_T45 l0_0 x21_2).f3).length c295_3, .string (⟨#[]⟩ : ByteArray), .string (⟨#[]⟩ : ByteArray), .string (⟨#[]⟩ : ByteArray), .int .i64 0, .int .i64 0, .int .i64 0, .bool false, .int .i64 0, .string (⟨#[]⟩ : ByteArray), .string (⟨#[]⟩ : ByteArray)]) ?_ 4 _ rfl; (with_reducible repeat (first | refine blk_drewN ?_ _ | refine blk_drew ?_ | refine blk_alloc ?_ _)); refine blk_put (cs := #[.string ((rd_T45 l0_0 x21_2).f0), .int .i64 ((rd_T45 l0_0 x21_2).f1), .slice A295_2 ((rd_T45 l0_0 x21_2).f2).length c295_2, .slice none 0 0, .string (⟨#[]⟩ : ByteArray), .string (⟨#[]⟩ : ByteArray), .string (⟨#[]⟩ : ByteArray), .int .i64 0, .int .i64 0, .int .i64 0, .bool false, .int .i64 0, .string (⟨#[]⟩ : ByteArray), .string (⟨#[]⟩ : ByteArray)]) ?_ 3 _ rfl; (with_reducible repeat (first | refine blk_drewN ?_ _ | refine blk_drew ?_ | refine blk_alloc ?_ _)); refine blk_put (cs := #[.string ((rd_T45 l0_0 x21_2).f0), .int .i64 ((rd_T45 l0_0 x21_2).f1), .slice none 0 0, .slice none 0 0, .string (⟨#[]⟩ : ByteArray), .string (⟨#[]⟩ : ByteArray), .string (⟨#[]⟩ : ByteArray), .int .i64 0, .int .i64 0, .int .i64 0, .bool false, .int .i64 0, .string (⟨#[]⟩ : ByteArray), .string (⟨#[]⟩ : ByteArray)]) ?_ 2 _ rfl; (with_reducible repeat (first | refine blk_drewN ?_ _ | refine blk_drew ?_ | refine blk_alloc ?_ _)); refine blk_put (cs := #[.string ((rd_T45 l0_0 x21_2).f0), .int .i64 0, .slice none 0 0, .slice none 0 0, .string (⟨#[]⟩ : ByteArray), .string (⟨#[]⟩ : ByteArray), .string (⟨#[]⟩ : ByteArray), .int .i64 0, .int .i64 0, .int .i64 0, .bool false, .int .i64 0, .string (⟨#[]⟩ : ByteArray), .string (⟨#[]⟩ : ByteArray)]) ?_ 1 _ rfl; (with_reducible repeat (first | refine blk_drewN ?_ _ | refine blk_drew ?_ | refine blk_alloc ?_ _)); refine blk_put (cs := #[.string (⟨#[]⟩ : ByteArray), .int .i64 0, .slice none 0 0, .slice none 0 0, .string (⟨#[]⟩ : ByteArray), .string (⟨#[]⟩ : ByteArray), .string (⟨#[]⟩ : ByteArray), .int .i64 0, .int .i64 0, .int .i64 0, .bool false, .int .i64 0, .string (⟨#[]⟩ : ByteArray), .string (⟨#[]⟩ : ByteArray)]) ?_ 0 _ rfl; (with_reducible repeat (first | refine blk_drewN ?_ _ | refine blk_drew ?_ | refine blk_alloc ?_ _)); exact BK296.out) hg (Kd.R_ne HO_6.out BK296.out (by decide))); have n2_ := Aside0.mk (hb); have n3_ := Aside0.mk (ho); clear BK289; clear BK296; clear HB; clear HO_6; have BK289 := n0_; have BK296 := n1_; have HB := n2_; have HO299 := n3_; clear n0_ n1_ n2_ n3_; clear ho hb hg hat))
           go_roundg k2
           case measure => have := HJ2.out; have := HK2.out; omega
           case rel => exact ⟨(y297), (wrap64 (x21_2 + 1)), au72, H', ⟨by have := HJ2.out; have := HK2.out; omega⟩, ⟨by (with_reducible repeat (first | apply Kd.R_alloc | apply Kd.R_drewN | apply Kd.R_drew)); exact HO299.out⟩, ⟨by (with_reducible repeat (first | refine blk_drewN ?_ _ | refine blk_drew ?_ | refine blk_alloc ?_ _)); exact BK289.out⟩, ⟨by repeat (first | (with_reducible first | exact HB.out | apply below_alloc | apply pw_below_drewN | apply below_drew1 | refine below_set ?_ GE289.out | refine below_set ?_ GE296.out) | exact HB.out)⟩⟩
          ·
           rw [if_neg c20] at H
           exact absurd H (by simp)
         ·
          rw [if_neg c19] at H
          have c19b0 : (((rd_T45 l0_0 x21_2).f1) == a1) = false := beq_eq_false_iff_ne.mpr c19
          have c19b1 : (((rd_T45 l0_0 x21_2).f1) != a1) = true := bne_iff_ne.mpr c19
          have H' := Aside0.mk H
          clear H
          have p295 : 0 ≤ (x21_2 : Int) := of_decide_eq_true au71
          have q295 : x21_2 < (l0_0.length : Int) := of_decide_eq_true au71
          obtain ⟨ad295, A295_2, c295_2, A295_3, c295_3, e295, hx295_0, hx295_1, hx295_2, hx295_3, hx295_4, hx295_5, hx295_6, hx295_7, hx295_8, hx295_9, hx295_10, hx295_11, hx295_12, hx295_13, hl295_2, hi295_2, hl295_3, hi295_3⟩ := at_T45 HR0_0.out x21_2 p295 q295
          cases e295
          replace hx295_0 := bcl HB.out hx295_0
          replace hx295_1 := bcl HB.out hx295_1
          replace hx295_2 := bcl HB.out hx295_2
          replace hx295_3 := bcl HB.out hx295_3
          replace hx295_4 := bcl HB.out hx295_4
          replace hx295_5 := bcl HB.out hx295_5
          replace hx295_6 := bcl HB.out hx295_6
          replace hx295_7 := bcl HB.out hx295_7
          replace hx295_8 := bcl HB.out hx295_8
          replace hx295_9 := bcl HB.out hx295_9
          replace hx295_10 := bcl HB.out hx295_10
          replace hx295_11 := bcl HB.out hx295_11
          replace hx295_12 := bcl HB.out hx295_12
          replace hx295_13 := bcl HB.out hx295_13
          have HR295_2 := Aside0.mk hi295_2
          have HC295_2 := Aside0.mk hl295_2
          clear hi295_2 hl295_2
          have HR295_3 := Aside0.mk hi295_3
          have HC295_3 := Aside0.mk hl295_3
          clear hi295_3 hl295_3
          replace p295 := eq_true p295
          replace q295 := eq_true q295
          go_wp2_with (first | ((with_reducible refine gate_dst (N := 8) rfl ?_); refine box_event ?hg (N := 8) ?hd (cs := #[.string (⟨#[]⟩ : ByteArray), .int .i64 0, .slice none 0 0, .slice none 0 0, .string (⟨#[]⟩ : ByteArray), .string (⟨#[]⟩ : ByteArray), .string (⟨#[]⟩ : ByteArray), .int .i64 0, .int .i64 0, .int .i64 0, .bool false, .int .i64 0, .string (⟨#[]⟩ : ByteArray), .string (⟨#[]⟩ : ByteArray)]) (t := 45) ?hr ?_; (case hd => rfl); (case hg => rfl); (case hr => first | (go_simp; done) | (go_simp; rfl)); intro gb296 hg w25 hbox hb; replace HO_6 := Aside0.mk (Kd.R_below au68 hb); have BK296 := Aside0.mk (hbox); have GW296 := Aside0.mk (bsz hg au29); have GE296 := Aside0.mk (bsz hg au29); replace HB := Aside0.mk (below_step au29 hb); have NB289_296 := Aside0.mk (bne (g := gb289) hg au56); have NB296_289 := Aside0.mk (ben (g := gb289) hg au56); replace BK289 := Aside0.mk (blk_below (g := gb289) au56 hb); clear hb hbox hg; have hnb26 := NB296_289.out; have hnc26 := NB289_296.out; obtain ⟨hcz27_0, hcz27_1, hcz27_2, hcz27_3, hcz27_4, hcz27_5, hcz27_6, hcz27_7, hcz27_8, hcz27_9, hcz27_10, hcz27_11, hcz27_12, hcz27_13, hfz27_0, hfz27_1, hfz27_2, hfz27_3, hfz27_4, hfz27_5, hfz27_6, hfz27_7, hfz27_8, hfz27_9, hfz27_10, hfz27_11, hfz27_12, hfz27_13⟩ := blkc14 BK296.out))
          go_roundg k2
          case measure => have := HJ2.out; have := HK2.out; omega
          case rel => exact ⟨(x6_2), (wrap64 (x21_2 + 1)), au72, H', ⟨by have := HJ2.out; have := HK2.out; omega⟩, ⟨by (with_reducible repeat (first | apply Kd.R_alloc | apply Kd.R_drewN | apply Kd.R_drew)); exact Kd.R_mono (Kd.R_far (p := ⟨gb296, 13, none⟩) (Kd.R_far (p := ⟨gb296, 12, none⟩) (Kd.R_far (p := ⟨gb296, 11, none⟩) (Kd.R_far (p := ⟨gb296, 10, none⟩) (Kd.R_far (p := ⟨gb296, 9, none⟩) (Kd.R_far (p := ⟨gb296, 8, none⟩) (Kd.R_far (p := ⟨gb296, 7, none⟩) (Kd.R_far (p := ⟨gb296, 6, none⟩) (Kd.R_far (p := ⟨gb296, 5, none⟩) (Kd.R_far (p := ⟨gb296, 4, none⟩) (Kd.R_far (p := ⟨gb296, 3, none⟩) (Kd.R_far (p := ⟨gb296, 2, none⟩) (Kd.R_far (p := ⟨gb296, 1, none⟩) (Kd.R_far (p := ⟨gb296, 0, none⟩) (Kd.R_types HO_6.out BK296.out (by decide)) (fun _ hk => hk.2) (.string ((rd_T45 l0_0 x21_2).f0))) (fun _ hk => hk.2) (.int .i64 ((rd_T45 l0_0 x21_2).f1))) (fun _ hk => hk.2) (.slice A295_2 ((rd_T45 l0_0 x21_2).f2).length c295_2)) (fun _ hk => hk.2) (.slice A295_3 ((rd_T45 l0_0 x21_2).f3).length c295_3)) (fun _ hk => hk.2) (.string ((rd_T45 l0_0 x21_2).f4))) (fun _ hk => hk.2) (.string ((rd_T45 l0_0 x21_2).f5))) (fun _ hk => hk.2) (.string ((rd_T45 l0_0 x21_2).f6))) (fun _ hk => hk.2) (.int .i64 ((rd_T45 l0_0 x21_2).f7.f0))) (fun _ hk => hk.2) (.int .i64 ((rd_T45 l0_0 x21_2).f7.f1))) (fun _ hk => hk.2) (.int .i64 ((rd_T45 l0_0 x21_2).f7.f2))) (fun _ hk => hk.2) (.bool ((rd_T45 l0_0 x21_2).f7.f3))) (fun _ hk => hk.2) (.int .i64 ((rd_T45 l0_0 x21_2).f8))) (fun _ hk => hk.2) (.string ((rd_T45 l0_0 x21_2).f9))) (fun _ hk => hk.2) (.string ((rd_T45 l0_0 x21_2).f10))) (fun _ hk => trivial)⟩, ⟨by (with_reducible repeat (first | refine blk_drewN ?_ _ | refine blk_drew ?_ | refine blk_alloc ?_ _)); refine blk_far ?_ NB289_296.out _; (with_reducible repeat (first | refine blk_drewN ?_ _ | refine blk_drew ?_ | refine blk_alloc ?_ _)); refine blk_far ?_ NB289_296.out _; (with_reducible repeat (first | refine blk_drewN ?_ _ | refine blk_drew ?_ | refine blk_alloc ?_ _)); refine blk_far ?_ NB289_296.out _; (with_reducible repeat (first | refine blk_drewN ?_ _ | refine blk_drew ?_ | refine blk_alloc ?_ _)); refine blk_far ?_ NB289_296.out _; (with_reducible repeat (first | refine blk_drewN ?_ _ | refine blk_drew ?_ | refine blk_alloc ?_ _)); refine blk_far ?_ NB289_296.out _; (with_reducible repeat (first | refine blk_drewN ?_ _ | refine blk_drew ?_ | refine blk_alloc ?_ _)); refine blk_far ?_ NB289_296.out _; (with_reducible repeat (first | refine blk_drewN ?_ _ | refine blk_drew ?_ | refine blk_alloc ?_ _)); refine blk_far ?_ NB289_296.out _; (with_reducible repeat (first | refine blk_drewN ?_ _ | refine blk_drew ?_ | refine blk_alloc ?_ _)); refine blk_far ?_ NB289_296.out _; (with_reducible repeat (first | refine blk_drewN ?_ _ | refine blk_drew ?_ | refine blk_alloc ?_ _)); refine blk_far ?_ NB289_296.out _; (with_reducible repeat (first | refine blk_drewN ?_ _ | refine blk_drew ?_ | refine blk_alloc ?_ _)); refine blk_far ?_ NB289_296.out _; (with_reducible repeat (first | refine blk_drewN ?_ _ | refine blk_drew ?_ | refine blk_alloc ?_ _)); refine blk_far ?_ NB289_296.out _; (with_reducible repeat (first | refine blk_drewN ?_ _ | refine blk_drew ?_ | refine blk_alloc ?_ _)); refine blk_far ?_ NB289_296.out _; (with_reducible repeat (first | refine blk_drewN ?_ _ | refine blk_drew ?_ | refine blk_alloc ?_ _)); refine blk_far ?_ NB289_296.out _; (with_reducible repeat (first | refine blk_drewN ?_ _ | refine blk_drew ?_ | refine blk_alloc ?_ _)); refine blk_far ?_ NB289_296.out _; (with_reducible repeat (first | refine blk_drewN ?_ _ | refine blk_drew ?_ | refine blk_alloc ?_ _)); exact BK289.out⟩, ⟨by repeat (first | (with_reducible first | exact HB.out | apply below_alloc | apply pw_below_drewN | apply below_drew1 | refine below_set ?_ GE289.out | refine below_set ?_ GE296.out) | exact HB.out)⟩⟩
        ·
         rw [if_neg c18] at H
         exact absurd H (by simp)
       ·
        rw [if_neg c17] at H
        exact absurd H (by simp)
      ·
       rw [if_neg c16] at H
       have c16b0 : decide (x21_2 < (l0_0.length : Int)) = false := decide_eq_false c16
       clear c16
       simp only [Option.some.injEq, Prod.mk.injEq] at H
       obtain ⟨rfl, rfl⟩ := H
       go_wp2
       go_ret2
       exact ⟨_, by first | rfl | (simp [errW_none, errW_some] <;> rfl) | (simp [*, errW_none, errW_some] <;> rfl), by (with_reducible repeat (first | apply Kd.R_alloc | apply Kd.R_drewN | apply Kd.R_drew)); exact HO_6.out, by repeat (first | (with_reducible first | exact HB.out | apply below_alloc | apply pw_below_drewN | apply below_drew1 | refine below_set ?_ GE289.out) | exact HB.out)⟩


/-! ### laws_eqName: function 54 -/
def laws_eqName.f (k : Nat) (l0_0 : List ByteArray) (a0_1 : ByteArray) (a0_2 : ByteArray) (a0_3 : ByteArray) (l1_0 : List ByteArray) (a1_1 : ByteArray) (a1_2 : ByteArray) (a1_3 : ByteArray) : Option (Bool) := (laws_eqStringS.f k l0_0 l1_0).bind fun t304 => (if t304 = true then (if a0_1.toList = a1_1.toList then (if a0_2.toList = a1_2.toList then (if a0_3.toList = a1_3.toList then (some true) else (some false)) else (some false)) else (some false)) else (some false))
theorem laws_eqName.mono : ∀ a0 a1 a2 a3 a4 a5 a6 a7 k, LeO (laws_eqName.f k a0 a1 a2 a3 a4 a5 a6 a7) (laws_eqName.f (k + 1) a0 a1 a2 a3 a4 a5 a6 a7) := by
 intro a0 a1 a2 a3 a4 a5 a6 a7 k
 unfold laws_eqName.f
 repeat' first
   | (with_reducible exact laws_eqStringS.mono _ _ _)
   | (with_reducible exact LeO.refl _)
   | (with_reducible exact LeO.none _)
   | (with_reducible refine LeO.ite ?_ ?_)
   | (with_reducible refine LeO.bind ?_ (fun _ => ?_))
   | exact laws_eqStringS.mono _ _ _
   | exact LeO.none _
   | refine LeO.ite ?_ ?_
   | refine LeO.bind ?_ (fun _ => ?_)
set_option maxRecDepth 100000 in
theorem laws_eqName.L0 {P : Prop} (h : P := by
  go_enter Tryd.func54, Tryd.ntmps54
  go_wp2_with (first | ((with_reducible refine gate_dst (N := 2) rfl ?_); refine box_event ?hg (N := 2) ?hd (cs := #[.slice A0_0 l0_0.length c0_0, .string a0_1, .string a0_2, .string a0_3]) (t := 70) ?hr ?_; (case hd => rfl); (case hg => rfl); (case hr => first | (go_simp; done) | (go_simp; rfl)); intro gb302 hg w13 hbox hb; have BK302 := Aside0.mk (hbox); have GW302 := Aside0.mk (bsz hg au36); have GE302 := Aside0.mk (bsz hg au36); replace HB := Aside0.mk (below_step au36 hb); clear hb hbox hg) | ((with_reducible refine gate_dst (N := 3) rfl ?_); refine box_event ?hg (N := 3) ?hd (cs := #[.slice A1_0 l1_0.length c1_0, .string a1_1, .string a1_2, .string a1_3]) (t := 70) ?hr ?_; (case hd => rfl); (case hg => rfl); (case hr => first | (go_simp; done) | (go_simp; rfl)); intro gb303 hg w14 hbox hb; have BK303 := Aside0.mk (hbox); have GW303 := Aside0.mk (bsz hg au30); have GE303 := Aside0.mk (bsz hg au30); replace HB := Aside0.mk (below_step au30 hb); have NB302_303 := Aside0.mk (bne (g := gb302) hg au57); have NB303_302 := Aside0.mk (ben (g := gb302) hg au57); replace BK302 := Aside0.mk (blk_below (g := gb302) au57 hb); clear hb hbox hg; have hnb15 := NB302_303.out; have hnc15 := NB303_302.out; obtain ⟨hcz16_0, hcz16_1, hcz16_2, hcz16_3, hfz16_0, hfz16_1, hfz16_2, hfz16_3⟩ := blkc4 BK302.out; obtain ⟨hcz17_0, hcz17_1, hcz17_2, hcz17_3, hfz17_0, hfz17_1, hfz17_2, hfz17_3⟩ := blkc4 BK303.out) | ((with_reducible refine gate_callee (f := 8) rfl ?_); refine goesL_ (some 9) rfl rfl Tryd.func8 (by kernel_rfl) rfl #[.slice A0_0 l0_0.length c0_0, .slice A1_0 l1_0.length c1_0] rfl au35 ?_; (with_reducible refine (laws_eqStringS.calls k _ _ l0_0 _ _ l1_0 _ _ ?side1 ?side2 ?side3 ?side4 A3.out).mono ?_); (case side1 => repeat (first | exact (Kd.C_below HR0_0.out HB.out) | (with_reducible refine Kd.C_alloc ?_ _) | (with_reducible refine Kd.C_drewN ?_ _) | (with_reducible refine Kd.C_drew ?_))); (case side2 => exact HC0_0.out); (case side3 => repeat (first | exact (Kd.C_below HR1_0.out HB.out) | (with_reducible refine Kd.C_alloc ?_ _) | (with_reducible refine Kd.C_drewN ?_ _) | (with_reducible refine Kd.C_drew ?_))); (case side4 => exact HC1_0.out); rintro e w' ⟨rfl, ⟨nd, rfl⟩⟩; refine ⟨_, rfl, ?_⟩))
  go_ret
  exact ⟨by first | rfl | (simp [errW_none, errW_some] <;> rfl) | (simp [*, errW_none, errW_some] <;> rfl), by repeat (first | (with_reducible first | exact HB.out | apply below_alloc | apply pw_below_drewN | apply below_drew1 | refine below_set ?_ GE302.out | refine below_set ?_ GE303.out) | exact HB.out)⟩) : P := h
set_option maxHeartbeats 8000000 in
set_option maxRecDepth 100000 in
theorem laws_eqName.calls (k : Nat) (A0_0 : Option Addr) (c0_0 : Nat) (l0_0 : List ByteArray) (a0_1 : ByteArray) (a0_2 : ByteArray) (a0_3 : ByteArray) (A1_0 : Option Addr) (c1_0 : Nat) (l1_0 : List ByteArray) (a1_1 : ByteArray) (a1_2 : ByteArray) (a1_3 : ByteArray) (r : Bool) (w : World) (hr0_0 : Kd.C Kd.string w A0_0 l0_0.length l0_0) (hc0_0 : l0_0.length ≤ c0_0) (hr1_0 : Kd.C Kd.string w A1_0 l1_0.length l1_0) (hc1_0 : l1_0.length ≤ c1_0) (h : laws_eqName.f k l0_0 a0_1 a0_2 a0_3 l1_0 a1_1 a1_2 a1_3 = some r) :
  Calls Tryd.prog 54 #[.agg #[.slice A0_0 l0_0.length c0_0, .string a0_1, .string a0_2, .string a0_3], .agg #[.slice A1_0 l1_0.length c1_0, .string a1_1, .string a1_2, .string a1_3]] w fun e w' => e = .returned (.bool r) ∧ Below w.heap.size w w' := by
 have hu70 := Tryd.underlying70
 have HR0_0 := Aside0.mk hr0_0
 have HC0_0 := Aside0.mk hc0_0
 clear hr0_0 hc0_0
 have HR1_0 := Aside0.mk hr1_0
 have HC1_0 := Aside0.mk hc1_0
 clear hr1_0 hc1_0
 have HB := Aside0.mk (Below.refl w.heap.size w)
 have H : ((laws_eqStringS.f k l0_0 l1_0).bind fun t304 => (if t304 = true then (if a0_1.toList = a1_1.toList then (if a0_2.toList = a1_2.toList then (if a0_3.toList = a1_3.toList then (some true) else (some false)) else (some false)) else (some false)) else (some false))) = some r := h
 clear h
 replace H := Option.bind_eq_some_iff.mp H
 obtain ⟨t304, A30, H⟩ := H
 try dsimp only at H
 have A3 := Aside0.mk A30
 clear A30
 by_cases c4 : t304 = true
 ·
  subst c4
  replace H := (if_pos rfl).symm.trans H
  by_cases c5 : a0_1.toList = a1_1.toList
  ·
   rw [if_pos c5] at H
   have c5b0 : (a0_1.toList == a1_1.toList) = true := beq_iff_eq.mpr c5
   have c5b1 : (a0_1.toList != a1_1.toList) = false := bne_eq_false_iff_eq.mpr c5
   clear c5
   by_cases c6 : a0_2.toList = a1_2.toList
   ·
    rw [if_pos c6] at H
    have c6b0 : (a0_2.toList == a1_2.toList) = true := beq_iff_eq.mpr c6
    have c6b1 : (a0_2.toList != a1_2.toList) = false := bne_eq_false_iff_eq.mpr c6
    clear c6
    by_cases c7 : a0_3.toList = a1_3.toList
    ·
     rw [if_pos c7] at H
     have c7b0 : (a0_3.toList == a1_3.toList) = true := beq_iff_eq.mpr c7
     have c7b1 : (a0_3.toList != a1_3.toList) = false := bne_eq_false_iff_eq.mpr c7
     clear c7
     obtain rfl := Option.some.inj H
     exact laws_eqName.L0
    ·
     rw [if_neg c7] at H
     have c7b0 : (a0_3.toList == a1_3.toList) = false := beq_eq_false_iff_ne.mpr c7
     have c7b1 : (a0_3.toList != a1_3.toList) = true := bne_iff_ne.mpr c7
     obtain rfl := Option.some.inj H
     exact laws_eqName.L0
   ·
    rw [if_neg c6] at H
    have c6b0 : (a0_2.toList == a1_2.toList) = false := beq_eq_false_iff_ne.mpr c6
    have c6b1 : (a0_2.toList != a1_2.toList) = true := bne_iff_ne.mpr c6
    obtain rfl := Option.some.inj H
    exact laws_eqName.L0
  ·
   rw [if_neg c5] at H
   have c5b0 : (a0_1.toList == a1_1.toList) = false := beq_eq_false_iff_ne.mpr c5
   have c5b1 : (a0_1.toList != a1_1.toList) = true := bne_iff_ne.mpr c5
   obtain rfl := Option.some.inj H
   exact laws_eqName.L0
 ·
  replace c4 := Bool.eq_false_iff.mpr c4
  subst c4
  replace H := (if_neg (show ¬ (false = true) by decide)).symm.trans H
  obtain rfl := Option.some.inj H
  exact laws_eqName.L0


/-! ### laws_eqNameS: function 40 -/
def laws_eqNameS.l0 : Nat → List (S70) → List (S70) → Int → Option (Bool)
 | 0, _, _, _ => none
 | k + 1, x0, x1, x5 => if x5 < (x0.length : Int) then (if 0 ≤ x5 then (if x5 < (x1.length : Int) then ((laws_eqName.f k ((rd_T70 x0 x5).f0) ((rd_T70 x0 x5).f1) ((rd_T70 x0 x5).f2) ((rd_T70 x0 x5).f3) ((rd_T70 x1 x5).f0) ((rd_T70 x1 x5).f1) ((rd_T70 x1 x5).f2) ((rd_T70 x1 x5).f3)).bind fun t307 => (if t307 = true then (laws_eqNameS.l0 k x0 x1 (wrap64 (x5 + 1))) else (some false))) else (none)) else (none)) else (some true)
def laws_eqNameS.f (k : Nat) (l0 : List (S70)) (l1 : List (S70)) : Option (Bool) := if (l0.length : Int) = (l1.length : Int) then (laws_eqNameS.l0 k l0 l1 0) else (some false)
theorem laws_eqNameS.mono_l : ∀ k, (∀ y0 y1 y2, LeO (laws_eqNameS.l0 k y0 y1 y2) (laws_eqNameS.l0 (k + 1) y0 y1 y2))
 | 0 => fun _ _ _ r h => by simp [laws_eqNameS.l0] at h
 | k + 1 => by
  have ih0 := laws_eqNameS.mono_l k
  ·
   intro y0 y1 y2
   unfold laws_eqNameS.l0
   repeat' first
   | (with_reducible exact ih0 _ _ _)
   | (with_reducible exact laws_eqName.mono _ _ _ _ _ _ _ _ _)
   | (with_reducible exact LeO.refl _)
   | (with_reducible exact LeO.none _)
   | (with_reducible refine LeO.ite ?_ ?_)
   | (with_reducible refine LeO.bind ?_ (fun _ => ?_))
   | exact ih0 _ _ _
   | exact laws_eqName.mono _ _ _ _ _ _ _ _ _
   | exact LeO.none _
   | refine LeO.ite ?_ ?_
   | refine LeO.bind ?_ (fun _ => ?_)
theorem laws_eqNameS.mono : ∀ a0 a1 k, LeO (laws_eqNameS.f k a0 a1) (laws_eqNameS.f (k + 1) a0 a1) := by
 intro a0 a1 k
 have ih0 := laws_eqNameS.mono_l k
 unfold laws_eqNameS.f
 repeat' first
   | (with_reducible exact ih0 _ _ _)
   | (with_reducible exact laws_eqName.mono _ _ _ _ _ _ _ _ _)
   | (with_reducible exact LeO.refl _)
   | (with_reducible exact LeO.none _)
   | (with_reducible refine LeO.ite ?_ ?_)
   | (with_reducible refine LeO.bind ?_ (fun _ => ?_))
   | exact ih0 _ _ _
   | exact laws_eqName.mono _ _ _ _ _ _ _ _ _
   | exact LeO.none _
   | refine LeO.ite ?_ ?_
   | refine LeO.bind ?_ (fun _ => ?_)
def laws_eqNameS.T6 : Bool × List (List Nat × List Nat) := (true, [([], []), ([], []), ([0, 1], [0, 1]), ([2], [2]), ([], []), ([], []), ([4, 5], [4, 5]), ([6], [6]), ([3, 7], [3, 7]), ([8], [8])])
def laws_eqNameS.B6 : List Nat := [0, 0, 3, 7, 0, 0, 48, 112, 255, 511]
theorem laws_eqNameS.tab6 : rtab .any (opsOf Tryd.f40 6) = laws_eqNameS.T6 := by kernel_rfl
theorem laws_eqNameS.bits6 : waitsOk laws_eqNameS.T6.2 laws_eqNameS.B6 = true := by kernel_rfl
set_option maxHeartbeats 8000000 in
set_option maxRecDepth 100000 in
theorem laws_eqNameS.calls (k : Nat) (A0 : Option Addr) (c0 : Nat) (l0 : List (S70)) (A1 : Option Addr) (c1 : Nat) (l1 : List (S70)) (r : Bool) (w : World) (hr0 : Kd.C k70 w A0 l0.length l0) (hc0 : l0.length ≤ c0) (hr1 : Kd.C k70 w A1 l1.length l1) (hc1 : l1.length ≤ c1) (h : laws_eqNameS.f k l0 l1 = some r) :
  Calls Tryd.prog 40 #[.slice A0 l0.length c0, .slice A1 l1.length c1] w fun e w' => e = .returned (.bool r) ∧ Below w.heap.size w w' := by
 have hu70 := Tryd.underlying70
 have HR0 := Aside0.mk hr0
 have HC0 := Aside0.mk hc0
 clear hr0 hc0
 have HR1 := Aside0.mk hr1
 have HC1 := Aside0.mk hc1
 clear hr1 hc1
 have HB := Aside0.mk (Below.refl w.heap.size w)
 have H : (if (l0.length : Int) = (l1.length : Int) then (laws_eqNameS.l0 k l0 l1 0) else (some false)) = some r := h
 clear h
 by_cases c3 : (l0.length : Int) = (l1.length : Int)
 ·
  rw [if_pos c3] at H
  have c3b0 : ((l0.length : Int) == (l1.length : Int)) = true := beq_iff_eq.mpr c3
  have c3b1 : ((l0.length : Int) != (l1.length : Int)) = false := bne_eq_false_iff_eq.mpr c3
  have c3b2 : (l0.length == l1.length) = true := by first | simpa using c3 | (simp at c3 ⊢; omega)
  clear c3
  have H' := Aside0.mk H
  clear H
  go_enter Tryd.func40, Tryd.ntmps40
  go_wp2
  go_loopg [5] k (fun kq v5 w' => ∃ (x5_1 : Int), v5 = .int .i64 x5_1 ∧ Aside0 (laws_eqNameS.l0 kq l0 l1 x5_1 = some r) ∧ Aside0 (kq ≤ k) ∧ Aside0 (Below w.heap.size w w'))
  case atStart => exact ⟨(0), au72, H', ⟨Nat.le_refl _⟩, ⟨by repeat (first | (with_reducible first | exact HB.out | apply below_alloc | apply pw_below_drewN | apply below_drew1) | exact HB.out)⟩⟩
  case round =>
   clear H'
   try clear c1
   try clear p2
   try clear c3
   try clear c3b0
   try clear c3b1
   try clear c3b2
   obtain ⟨x5_1, rfl, HA, HK1, HB⟩ := hrel
   cases gk with
   | zero => exact absurd HA.out (by simp [laws_eqNameS.l0])
   | succ k1 =>
    have H := HA.out
    clear HA
    simp only [laws_eqNameS.l0] at H
    by_cases c4 : x5_1 < (l0.length : Int)
    ·
     rw [if_pos c4] at H
     have c4b0 : decide (x5_1 < (l0.length : Int)) = true := decide_eq_true c4
     clear c4
     by_cases c5 : 0 ≤ x5_1
     ·
      rw [if_pos c5] at H
      have c5b0 : decide (0 ≤ x5_1) = true := decide_eq_true c5
      clear c5
      by_cases c6 : x5_1 < (l1.length : Int)
      ·
       rw [if_pos c6] at H
       have c6b0 : decide (x5_1 < (l1.length : Int)) = true := decide_eq_true c6
       clear c6
       replace H := Option.bind_eq_some_iff.mp H
       obtain ⟨t307, A70, H⟩ := H
       try dsimp only at H
       have A7 := Aside0.mk A70
       clear A70
       by_cases c8 : t307 = true
       ·
        subst c8
        replace H := (if_pos rfl).symm.trans H
        have H' := Aside0.mk H
        clear H
        try go_wp2
        replace HB := Aside0.mk (below_drew1 HB.out)
        have p305 : 0 ≤ (x5_1 : Int) := of_decide_eq_true au71
        have q305 : x5_1 < (l0.length : Int) := of_decide_eq_true au71
        obtain ⟨ad305, A305_0, c305_0, e305, hx305_0, hx305_1, hx305_2, hx305_3, hl305_0, hi305_0⟩ := at_T70 HR0.out x5_1 p305 q305
        have hw305_3 := hx305_3
        have hw305_2 := hx305_2
        have hw305_1 := hx305_1
        have hw305_0 := hx305_0
        cases e305
        replace hx305_0 := bcl HB.out hx305_0
        replace hx305_1 := bcl HB.out hx305_1
        replace hx305_2 := bcl HB.out hx305_2
        replace hx305_3 := bcl HB.out hx305_3
        have HR305_0 := Aside0.mk hi305_0
        have HC305_0 := Aside0.mk hl305_0
        clear hi305_0 hl305_0
        replace p305 := eq_true p305
        replace q305 := eq_true q305
        have p306 : 0 ≤ (x5_1 : Int) := of_decide_eq_true au71
        have q306 : x5_1 < (l1.length : Int) := of_decide_eq_true au71
        obtain ⟨ad306, A306_0, c306_0, e306, hx306_0, hx306_1, hx306_2, hx306_3, hl306_0, hi306_0⟩ := at_T70 HR1.out x5_1 p306 q306
        have hw306_3 := hx306_3
        have hw306_2 := hx306_2
        have hw306_1 := hx306_1
        have hw306_0 := hx306_0
        cases e306
        replace hx306_0 := bcl HB.out hx306_0
        replace hx306_1 := bcl HB.out hx306_1
        replace hx306_2 := bcl HB.out hx306_2
        replace hx306_3 := bcl HB.out hx306_3
        have HR306_0 := Aside0.mk hi306_0
        have HC306_0 := Aside0.mk hl306_0
        clear hi306_0 hl306_0
        replace p306 := eq_true p306
        replace q306 := eq_true q306
        refine start_ (n := 10) (S := fun w' => w'.cell? (ad305.add ((x5_1).toNat * 4)) = some (.slice A305_0 ((rd_T70 l0 x5_1).f0).length c305_0) ∧ w'.cell? ⟨(ad305.add ((x5_1).toNat * 4)).block, (ad305.add ((x5_1).toNat * 4)).off + 1, none⟩ = some (.string ((rd_T70 l0 x5_1).f1)) ∧ w'.cell? ⟨(ad305.add ((x5_1).toNat * 4)).block, (ad305.add ((x5_1).toNat * 4)).off + 2, none⟩ = some (.string ((rd_T70 l0 x5_1).f2)) ∧ w'.cell? ⟨(ad305.add ((x5_1).toNat * 4)).block, (ad305.add ((x5_1).toNat * 4)).off + 3, none⟩ = some (.string ((rd_T70 l0 x5_1).f3)) ∧ w'.cell? (ad306.add ((x5_1).toNat * 4)) = some (.slice A306_0 ((rd_T70 l1 x5_1).f0).length c306_0) ∧ w'.cell? ⟨(ad306.add ((x5_1).toNat * 4)).block, (ad306.add ((x5_1).toNat * 4)).off + 1, none⟩ = some (.string ((rd_T70 l1 x5_1).f1)) ∧ w'.cell? ⟨(ad306.add ((x5_1).toNat * 4)).block, (ad306.add ((x5_1).toNat * 4)).off + 2, none⟩ = some (.string ((rd_T70 l1 x5_1).f2)) ∧ w'.cell? ⟨(ad306.add ((x5_1).toNat * 4)).block, (ad306.add ((x5_1).toNat * 4)).off + 3, none⟩ = some (.string ((rd_T70 l1 x5_1).f3))) (ds := []) #[false, false, false, false, false, false, false, false, false, false] (by kernel_rfl) rfl rfl ⟨(bcl HB.out hw305_0), (bcl HB.out hw305_1), (bcl HB.out hw305_2), (bcl HB.out hw305_3), (bcl HB.out hw306_0), (bcl HB.out hw306_1), (bcl HB.out hw306_2), (bcl HB.out hw306_3)⟩ (fun hHeld => ?_); refine with_tabW laws_eqNameS.tab6 laws_eqNameS.bits6 (fun HT_ HW_ => ?_)
        generalize wr.drew = w9 at HB HR305_0 HR306_0 hx305_0 hx305_1 hx305_2 hx305_3 hx306_0 hx306_1 hx306_2 hx306_3 hHeld ⊢
        refine pu_ 0 (some 17) #[true, false, false, false, false, false, false, false, false, false] HT_.out ?_
        refine pu_ 1 (some 18) #[true, true, false, false, false, false, false, false, false, false] HT_.out ?_
        refine pu_ 2 (some 19) #[true, true, true, false, false, false, false, false, false, false] HT_.out ?_
        refine pu_ 4 (some 21) #[true, true, true, false, true, false, false, false, false, false] HT_.out ?_
        refine pu_ 5 (some 22) #[true, true, true, false, true, true, false, false, false, false] HT_.out ?_
        refine pu_ 6 (some 23) #[true, true, true, false, true, true, true, false, false, false] HT_.out ?_
        refine ta4_ 3 (some 20) #[true, true, true, true, true, true, true, false, false, false] HT_.out HW_.out hHeld ?_
        refine ta4_ 7 (some 24) #[true, true, true, true, true, true, true, true, false, false] HT_.out HW_.out hHeld ?_
        refine on_ 8 (some 25) #[true, true, true, true, true, true, true, true, true, false] HT_.out (fun K hK => ?_)
        refine gs_ Tryd.func54 #[.agg #[.slice A305_0 ((rd_T70 l0 x5_1).f0).length c305_0, .string ((rd_T70 l0 x5_1).f1), .string ((rd_T70 l0 x5_1).f2), .string ((rd_T70 l0 x5_1).f3)], .agg #[.slice A306_0 ((rd_T70 l1 x5_1).f0).length c306_0, .string ((rd_T70 l1 x5_1).f1), .string ((rd_T70 l1 x5_1).f2), .string ((rd_T70 l1 x5_1).f3)]] ?_
        with_reducible refine (laws_eqName.calls k1 _ _ ((rd_T70 l0 x5_1).f0) ((rd_T70 l0 x5_1).f1) ((rd_T70 l0 x5_1).f2) ((rd_T70 l0 x5_1).f3) _ _ ((rd_T70 l1 x5_1).f0) ((rd_T70 l1 x5_1).f1) ((rd_T70 l1 x5_1).f2) ((rd_T70 l1 x5_1).f3) true _ ?side1 ?side2 ?side3 ?side4 A7.out).mono ?_
        (case side1 => repeat (first | exact (Kd.C_below HR305_0.out HB.out) | (with_reducible refine Kd.C_alloc ?_ _) | (with_reducible refine Kd.C_drewN ?_ _) | (with_reducible refine Kd.C_drew ?_)))
        (case side2 => exact HC305_0.out)
        (case side3 => repeat (first | exact (Kd.C_below HR306_0.out HB.out) | (with_reducible refine Kd.C_alloc ?_ _) | (with_reducible refine Kd.C_drewN ?_ _) | (with_reducible refine Kd.C_drew ?_)))
        (case side4 => exact HC306_0.out)
        rintro e w10 ⟨rfl, hb⟩
        refine ⟨_, rfl, ?_⟩
        replace HB := Aside0.mk (below_step au36 hb)
        (try clear hb)
        refine hK.out _ _ ⟨(bcl HB.out hw305_0), (bcl HB.out hw305_1), (bcl HB.out hw305_2), (bcl HB.out hw305_3), (bcl HB.out hw306_0), (bcl HB.out hw306_1), (bcl HB.out hw306_2), (bcl HB.out hw306_3)⟩ (fun hHeld => ?_)
        clear hK K
        refine no_ (some 25) ?_
        refine pu_ 9 (some 26) #[true, true, true, true, true, true, true, true, true, true] HT_.out ?_
        refine done_ (done_of HT_.out (by kernel_rfl)) ?_
        try go_wp2
        go_roundg k1
        case measure => have := HK1.out; omega
        case rel => exact ⟨(wrap64 (x5_1 + 1)), au72, H', ⟨by have := HK1.out; omega⟩, ⟨by repeat (first | (with_reducible first | exact HB.out | apply below_alloc | apply pw_below_drewN | apply below_drew1) | exact HB.out)⟩⟩
       ·
        replace c8 := Bool.eq_false_iff.mpr c8
        subst c8
        replace H := (if_neg (show ¬ (false = true) by decide)).symm.trans H
        obtain rfl := Option.some.inj H
        try go_wp2
        replace HB := Aside0.mk (below_drew1 HB.out)
        have p305 : 0 ≤ (x5_1 : Int) := of_decide_eq_true au71
        have q305 : x5_1 < (l0.length : Int) := of_decide_eq_true au71
        obtain ⟨ad305, A305_0, c305_0, e305, hx305_0, hx305_1, hx305_2, hx305_3, hl305_0, hi305_0⟩ := at_T70 HR0.out x5_1 p305 q305
        have hw305_3 := hx305_3
        have hw305_2 := hx305_2
        have hw305_1 := hx305_1
        have hw305_0 := hx305_0
        cases e305
        replace hx305_0 := bcl HB.out hx305_0
        replace hx305_1 := bcl HB.out hx305_1
        replace hx305_2 := bcl HB.out hx305_2
        replace hx305_3 := bcl HB.out hx305_3
        have HR305_0 := Aside0.mk hi305_0
        have HC305_0 := Aside0.mk hl305_0
        clear hi305_0 hl305_0
        replace p305 := eq_true p305
        replace q305 := eq_true q305
        have p306 : 0 ≤ (x5_1 : Int) := of_decide_eq_true au71
        have q306 : x5_1 < (l1.length : Int) := of_decide_eq_true au71
        obtain ⟨ad306, A306_0, c306_0, e306, hx306_0, hx306_1, hx306_2, hx306_3, hl306_0, hi306_0⟩ := at_T70 HR1.out x5_1 p306 q306
        have hw306_3 := hx306_3
        have hw306_2 := hx306_2
        have hw306_1 := hx306_1
        have hw306_0 := hx306_0
        cases e306
        replace hx306_0 := bcl HB.out hx306_0
        replace hx306_1 := bcl HB.out hx306_1
        replace hx306_2 := bcl HB.out hx306_2
        replace hx306_3 := bcl HB.out hx306_3
        have HR306_0 := Aside0.mk hi306_0
        have HC306_0 := Aside0.mk hl306_0
        clear hi306_0 hl306_0
        replace p306 := eq_true p306
        replace q306 := eq_true q306
        refine start_ (n := 10) (S := fun w' => w'.cell? (ad305.add ((x5_1).toNat * 4)) = some (.slice A305_0 ((rd_T70 l0 x5_1).f0).length c305_0) ∧ w'.cell? ⟨(ad305.add ((x5_1).toNat * 4)).block, (ad305.add ((x5_1).toNat * 4)).off + 1, none⟩ = some (.string ((rd_T70 l0 x5_1).f1)) ∧ w'.cell? ⟨(ad305.add ((x5_1).toNat * 4)).block, (ad305.add ((x5_1).toNat * 4)).off + 2, none⟩ = some (.string ((rd_T70 l0 x5_1).f2)) ∧ w'.cell? ⟨(ad305.add ((x5_1).toNat * 4)).block, (ad305.add ((x5_1).toNat * 4)).off + 3, none⟩ = some (.string ((rd_T70 l0 x5_1).f3)) ∧ w'.cell? (ad306.add ((x5_1).toNat * 4)) = some (.slice A306_0 ((rd_T70 l1 x5_1).f0).length c306_0) ∧ w'.cell? ⟨(ad306.add ((x5_1).toNat * 4)).block, (ad306.add ((x5_1).toNat * 4)).off + 1, none⟩ = some (.string ((rd_T70 l1 x5_1).f1)) ∧ w'.cell? ⟨(ad306.add ((x5_1).toNat * 4)).block, (ad306.add ((x5_1).toNat * 4)).off + 2, none⟩ = some (.string ((rd_T70 l1 x5_1).f2)) ∧ w'.cell? ⟨(ad306.add ((x5_1).toNat * 4)).block, (ad306.add ((x5_1).toNat * 4)).off + 3, none⟩ = some (.string ((rd_T70 l1 x5_1).f3))) (ds := []) #[false, false, false, false, false, false, false, false, false, false] (by kernel_rfl) rfl rfl ⟨(bcl HB.out hw305_0), (bcl HB.out hw305_1), (bcl HB.out hw305_2), (bcl HB.out hw305_3), (bcl HB.out hw306_0), (bcl HB.out hw306_1), (bcl HB.out hw306_2), (bcl HB.out hw306_3)⟩ (fun hHeld => ?_); refine with_tabW laws_eqNameS.tab6 laws_eqNameS.bits6 (fun HT_ HW_ => ?_)
        generalize wr.drew = w11 at HB HR305_0 HR306_0 hx305_0 hx305_1 hx305_2 hx305_3 hx306_0 hx306_1 hx306_2 hx306_3 hHeld ⊢
        refine pu_ 0 (some 17) #[true, false, false, false, false, false, false, false, false, false] HT_.out ?_
        refine pu_ 1 (some 18) #[true, true, false, false, false, false, false, false, false, false] HT_.out ?_
        refine pu_ 2 (some 19) #[true, true, true, false, false, false, false, false, false, false] HT_.out ?_
        refine pu_ 4 (some 21) #[true, true, true, false, true, false, false, false, false, false] HT_.out ?_
        refine pu_ 5 (some 22) #[true, true, true, false, true, true, false, false, false, false] HT_.out ?_
        refine pu_ 6 (some 23) #[true, true, true, false, true, true, true, false, false, false] HT_.out ?_
        refine ta4_ 3 (some 20) #[true, true, true, true, true, true, true, false, false, false] HT_.out HW_.out hHeld ?_
        refine ta4_ 7 (some 24) #[true, true, true, true, true, true, true, true, false, false] HT_.out HW_.out hHeld ?_
        refine on_ 8 (some 25) #[true, true, true, true, true, true, true, true, true, false] HT_.out (fun K hK => ?_)
        refine gs_ Tryd.func54 #[.agg #[.slice A305_0 ((rd_T70 l0 x5_1).f0).length c305_0, .string ((rd_T70 l0 x5_1).f1), .string ((rd_T70 l0 x5_1).f2), .string ((rd_T70 l0 x5_1).f3)], .agg #[.slice A306_0 ((rd_T70 l1 x5_1).f0).length c306_0, .string ((rd_T70 l1 x5_1).f1), .string ((rd_T70 l1 x5_1).f2), .string ((rd_T70 l1 x5_1).f3)]] ?_
        with_reducible refine (laws_eqName.calls k1 _ _ ((rd_T70 l0 x5_1).f0) ((rd_T70 l0 x5_1).f1) ((rd_T70 l0 x5_1).f2) ((rd_T70 l0 x5_1).f3) _ _ ((rd_T70 l1 x5_1).f0) ((rd_T70 l1 x5_1).f1) ((rd_T70 l1 x5_1).f2) ((rd_T70 l1 x5_1).f3) false _ ?side1 ?side2 ?side3 ?side4 A7.out).mono ?_
        (case side1 => repeat (first | exact (Kd.C_below HR305_0.out HB.out) | (with_reducible refine Kd.C_alloc ?_ _) | (with_reducible refine Kd.C_drewN ?_ _) | (with_reducible refine Kd.C_drew ?_)))
        (case side2 => exact HC305_0.out)
        (case side3 => repeat (first | exact (Kd.C_below HR306_0.out HB.out) | (with_reducible refine Kd.C_alloc ?_ _) | (with_reducible refine Kd.C_drewN ?_ _) | (with_reducible refine Kd.C_drew ?_)))
        (case side4 => exact HC306_0.out)
        rintro e w12 ⟨rfl, hb⟩
        refine ⟨_, rfl, ?_⟩
        replace HB := Aside0.mk (below_step au36 hb)
        (try clear hb)
        refine hK.out _ _ ⟨(bcl HB.out hw305_0), (bcl HB.out hw305_1), (bcl HB.out hw305_2), (bcl HB.out hw305_3), (bcl HB.out hw306_0), (bcl HB.out hw306_1), (bcl HB.out hw306_2), (bcl HB.out hw306_3)⟩ (fun hHeld => ?_)
        clear hK K
        refine no_ (some 25) ?_
        refine pu_ 9 (some 26) #[true, true, true, true, true, true, true, true, true, true] HT_.out ?_
        refine done_ (done_of HT_.out (by kernel_rfl)) ?_
        try go_wp2
        go_ret
        exact ax1
      ·
       rw [if_neg c6] at H
       exact absurd H (by simp)
     ·
      rw [if_neg c5] at H
      exact absurd H (by simp)
    ·
     rw [if_neg c4] at H
     have c4b0 : decide (x5_1 < (l0.length : Int)) = false := decide_eq_false c4
     clear c4
     obtain rfl := Option.some.inj H
     go_wp2
     go_ret
     exact ax1
 ·
  rw [if_neg c3] at H
  have c3b0 : ((l0.length : Int) == (l1.length : Int)) = false := beq_eq_false_iff_ne.mpr c3
  have c3b1 : ((l0.length : Int) != (l1.length : Int)) = true := bne_iff_ne.mpr c3
  have c3b2 : (l0.length == l1.length) = false := by first | simpa using c3 | (simp at c3 ⊢; omega)
  obtain rfl := Option.some.inj H
  go_enter Tryd.func40, Tryd.ntmps40
  go_wp2
  go_ret
  exact ax1


/-! ### laws_eqDate: function 41 -/
def laws_eqDate.f (a0_0 : Int) (a0_1 : Int) (a0_2 : Int) (a0_3 : Bool) (a1_0 : Int) (a1_1 : Int) (a1_2 : Int) (a1_3 : Bool) : Option (Bool) := if a0_0 = a1_0 then (if a0_1 = a1_1 then (if a0_2 = a1_2 then (if (a0_3 != a1_3) = true then (some false) else (some true)) else (some false)) else (some false)) else (some false)
set_option maxRecDepth 100000 in
theorem laws_eqDate.L0 {P : Prop} (h : P := by
  go_enter Tryd.func41, Tryd.ntmps41
  go_wp2_with (first | ((with_reducible refine gate_dst (N := 2) rfl ?_); refine box_event ?hg (N := 2) ?hd (cs := #[.int .i64 a0_0, .int .i64 a0_1, .int .i64 a0_2, .bool a0_3]) (t := 43) ?hr ?_; (case hd => rfl); (case hg => rfl); (case hr => first | (go_simp; done) | (go_simp; rfl)); intro gb308 hg w12 hbox hb; have BK308 := Aside0.mk (hbox); have GW308 := Aside0.mk (bsz hg au36); have GE308 := Aside0.mk (bsz hg au36); replace HB := Aside0.mk (below_step au36 hb); clear hb hbox hg) | ((with_reducible refine gate_dst (N := 3) rfl ?_); refine box_event ?hg (N := 3) ?hd (cs := #[.int .i64 a1_0, .int .i64 a1_1, .int .i64 a1_2, .bool a1_3]) (t := 43) ?hr ?_; (case hd => rfl); (case hg => rfl); (case hr => first | (go_simp; done) | (go_simp; rfl)); intro gb309 hg w13 hbox hb; have BK309 := Aside0.mk (hbox); have GW309 := Aside0.mk (bsz hg au31); have GE309 := Aside0.mk (bsz hg au31); replace HB := Aside0.mk (below_step au31 hb); have NB308_309 := Aside0.mk (bne (g := gb308) hg au58); have NB309_308 := Aside0.mk (ben (g := gb308) hg au58); replace BK308 := Aside0.mk (blk_below (g := gb308) au58 hb); clear hb hbox hg; have hnb14 := NB308_309.out; have hnc14 := NB309_308.out; obtain ⟨hcz15_0, hcz15_1, hcz15_2, hcz15_3, hfz15_0, hfz15_1, hfz15_2, hfz15_3⟩ := blkc4 BK308.out; obtain ⟨hcz16_0, hcz16_1, hcz16_2, hcz16_3, hfz16_0, hfz16_1, hfz16_2, hfz16_3⟩ := blkc4 BK309.out))
  go_ret
  exact ⟨by first | rfl | (simp [errW_none, errW_some] <;> rfl) | (simp [*, errW_none, errW_some] <;> rfl), by repeat (first | (with_reducible first | exact HB.out | apply below_alloc | apply pw_below_drewN | apply below_drew1 | refine below_set ?_ GE308.out | refine below_set ?_ GE309.out) | exact HB.out)⟩) : P := h
set_option maxHeartbeats 8000000 in
set_option maxRecDepth 100000 in
theorem laws_eqDate.calls (a0_0 : Int) (a0_1 : Int) (a0_2 : Int) (a0_3 : Bool) (a1_0 : Int) (a1_1 : Int) (a1_2 : Int) (a1_3 : Bool) (r : Bool) (w : World) (h : laws_eqDate.f a0_0 a0_1 a0_2 a0_3 a1_0 a1_1 a1_2 a1_3 = some r) :
  Calls Tryd.prog 41 #[.agg #[.int .i64 a0_0, .int .i64 a0_1, .int .i64 a0_2, .bool a0_3], .agg #[.int .i64 a1_0, .int .i64 a1_1, .int .i64 a1_2, .bool a1_3]] w fun e w' => e = .returned (.bool r) ∧ Below w.heap.size w w' := by
 have hu43 := Tryd.underlying43
 have HB := Aside0.mk (Below.refl w.heap.size w)
 have H : (if a0_0 = a1_0 then (if a0_1 = a1_1 then (if a0_2 = a1_2 then (if (a0_3 != a1_3) = true then (some false) else (some true)) else (some false)) else (some false)) else (some false)) = some r := h
 clear h
 by_cases c3 : a0_0 = a1_0
 ·
  rw [if_pos c3] at H
  have c3b0 : (a0_0 == a1_0) = true := beq_iff_eq.mpr c3
  have c3b1 : (a0_0 != a1_0) = false := bne_eq_false_iff_eq.mpr c3
  clear c3
  by_cases c4 : a0_1 = a1_1
  ·
   rw [if_pos c4] at H
   have c4b0 : (a0_1 == a1_1) = true := beq_iff_eq.mpr c4
   have c4b1 : (a0_1 != a1_1) = false := bne_eq_false_iff_eq.mpr c4
   clear c4
   by_cases c5 : a0_2 = a1_2
   ·
    rw [if_pos c5] at H
    have c5b0 : (a0_2 == a1_2) = true := beq_iff_eq.mpr c5
    have c5b1 : (a0_2 != a1_2) = false := bne_eq_false_iff_eq.mpr c5
    clear c5
    by_cases c6 : (a0_3 != a1_3) = true
    ·
     rw [if_pos c6] at H
     have c6b0 : (a0_3 != a1_3) = true := c6
     (try (have c6b1 : decide (a0_3 = a1_3) = false := by simpa using c6))
     (try (have c6b2 : (a0_3 == a1_3) = false := by simpa using c6))
     (try (have c6b3 : ¬ (a0_3 = a1_3) := by simpa using c6))
     clear c6
     obtain rfl := Option.some.inj H
     exact laws_eqDate.L0
    ·
     rw [if_neg c6] at H
     have c6b0 : (a0_3 != a1_3) = false := by simpa using c6
     (try (have c6b1 : decide (a0_3 = a1_3) = true := by simpa using c6))
     (try (have c6b2 : (a0_3 == a1_3) = true := by simpa using c6))
     clear c6
     obtain rfl := Option.some.inj H
     exact laws_eqDate.L0
   ·
    rw [if_neg c5] at H
    have c5b0 : (a0_2 == a1_2) = false := beq_eq_false_iff_ne.mpr c5
    have c5b1 : (a0_2 != a1_2) = true := bne_iff_ne.mpr c5
    obtain rfl := Option.some.inj H
    exact laws_eqDate.L0
  ·
   rw [if_neg c4] at H
   have c4b0 : (a0_1 == a1_1) = false := beq_eq_false_iff_ne.mpr c4
   have c4b1 : (a0_1 != a1_1) = true := bne_iff_ne.mpr c4
   obtain rfl := Option.some.inj H
   exact laws_eqDate.L0
 ·
  rw [if_neg c3] at H
  have c3b0 : (a0_0 == a1_0) = false := beq_eq_false_iff_ne.mpr c3
  have c3b1 : (a0_0 != a1_0) = true := bne_iff_ne.mpr c3
  obtain rfl := Option.some.inj H
  exact laws_eqDate.L0


/-! ### laws_eqEntry: function 27 -/
def laws_eqEntry.f (k : Nat) (a0_0 : ByteArray) (a0_1 : Int) (l0_2 : List (S70)) (l0_3 : List (S70)) (a0_4 : ByteArray) (a0_5 : ByteArray) (a0_6 : ByteArray) (a0_7 : Int) (a0_8 : Int) (a0_9 : Int) (a0_10 : Bool) (a0_11 : Int) (a0_12 : ByteArray) (a0_13 : ByteArray) (a1_0 : ByteArray) (a1_1 : Int) (l1_2 : List (S70)) (l1_3 : List (S70)) (a1_4 : ByteArray) (a1_5 : ByteArray) (a1_6 : ByteArray) (a1_7 : Int) (a1_8 : Int) (a1_9 : Int) (a1_10 : Bool) (a1_11 : Int) (a1_12 : ByteArray) (a1_13 : ByteArray) : Option (Bool) := if a0_0.toList = a1_0.toList then (if a0_1 = a1_1 then ((laws_eqNameS.f k l0_2 l1_2).bind fun t312 => (if t312 = true then ((laws_eqNameS.f k l0_3 l1_3).bind fun t313 => (if t313 = true then (if a0_4.toList = a1_4.toList then (if a0_5.toList = a1_5.toList then (if a0_6.toList = a1_6.toList then ((laws_eqDate.f a0_7 a0_8 a0_9 a0_10 a1_7 a1_8 a1_9 a1_10).bind fun t314 => (if t314 = true then (if a0_11 = a1_11 then (if a0_12.toList = a1_12.toList then (if a0_13.toList = a1_13.toList then (some true) else (some false)) else (some false)) else (some false)) else (some false))) else (some false)) else (some false)) else (some false)) else (some false))) else (some false))) else (some false)) else (some false)
theorem laws_eqEntry.mono : ∀ a0 a1 a2 a3 a4 a5 a6 a7 a8 a9 a10 a11 a12 a13 a14 a15 a16 a17 a18 a19 a20 a21 a22 a23 a24 a25 a26 a27 k, LeO (laws_eqEntry.f k a0 a1 a2 a3 a4 a5 a6 a7 a8 a9 a10 a11 a12 a13 a14 a15 a16 a17 a18 a19 a20 a21 a22 a23 a24 a25 a26 a27) (laws_eqEntry.f (k + 1) a0 a1 a2 a3 a4 a5 a6 a7 a8 a9 a10 a11 a12 a13 a14 a15 a16 a17 a18 a19 a20 a21 a22 a23 a24 a25 a26 a27) := by
 intro a0 a1 a2 a3 a4 a5 a6 a7 a8 a9 a10 a11 a12 a13 a14 a15 a16 a17 a18 a19 a20 a21 a22 a23 a24 a25 a26 a27 k
 unfold laws_eqEntry.f
 repeat' first
   | (with_reducible exact laws_eqNameS.mono _ _ _)
   | (with_reducible exact LeO.refl _)
   | (with_reducible exact LeO.none _)
   | (with_reducible refine LeO.ite ?_ ?_)
   | (with_reducible refine LeO.bind ?_ (fun _ => ?_))
   | exact laws_eqNameS.mono _ _ _
   | exact LeO.none _
   | refine LeO.ite ?_ ?_
   | refine LeO.bind ?_ (fun _ => ?_)
set_option maxRecDepth 100000 in
theorem laws_eqEntry.L0 {P : Prop} (h : P := by
  go_enter Tryd.func27, Tryd.ntmps27
  go_wp2_with (first | ((with_reducible refine gate_dst (N := 2) rfl ?_); refine box_event ?hg (N := 2) ?hd (cs := #[.string a0_0, .int .i64 a0_1, .slice A0_2 l0_2.length c0_2, .slice A0_3 l0_3.length c0_3, .string a0_4, .string a0_5, .string a0_6, .int .i64 a0_7, .int .i64 a0_8, .int .i64 a0_9, .bool a0_10, .int .i64 a0_11, .string a0_12, .string a0_13]) (t := 45) ?hr ?_; (case hd => rfl); (case hg => rfl); (case hr => first | (go_simp; done) | (go_simp; rfl)); intro gb310 hg w17 hbox hb; have BK310 := Aside0.mk (hbox); have GW310 := Aside0.mk (bsz hg au36); have GE310 := Aside0.mk (bsz hg au36); replace HB := Aside0.mk (below_step au36 hb); clear hb hbox hg) | ((with_reducible refine gate_dst (N := 3) rfl ?_); refine box_event ?hg (N := 3) ?hd (cs := #[.string a1_0, .int .i64 a1_1, .slice A1_2 l1_2.length c1_2, .slice A1_3 l1_3.length c1_3, .string a1_4, .string a1_5, .string a1_6, .int .i64 a1_7, .int .i64 a1_8, .int .i64 a1_9, .bool a1_10, .int .i64 a1_11, .string a1_12, .string a1_13]) (t := 45) ?hr ?_; (case hd => rfl); (case hg => rfl); (case hr => first | (go_simp; done) | (go_simp; rfl)); intro gb311 hg w18 hbox hb; have BK311 := Aside0.mk (hbox); have GW311 := Aside0.mk (bsz hg au32); have GE311 := Aside0.mk (bsz hg au32); replace HB := Aside0.mk (below_step au32 hb); have NB310_311 := Aside0.mk (bne (g := gb310) hg au59); have NB311_310 := Aside0.mk (ben (g := gb310) hg au59); replace BK310 := Aside0.mk (blk_below (g := gb310) au59 hb); clear hb hbox hg; have hnb19 := NB310_311.out; have hnc19 := NB311_310.out; obtain ⟨hcz20_0, hcz20_1, hcz20_2, hcz20_3, hcz20_4, hcz20_5, hcz20_6, hcz20_7, hcz20_8, hcz20_9, hcz20_10, hcz20_11, hcz20_12, hcz20_13, hfz20_0, hfz20_1, hfz20_2, hfz20_3, hfz20_4, hfz20_5, hfz20_6, hfz20_7, hfz20_8, hfz20_9, hfz20_10, hfz20_11, hfz20_12, hfz20_13⟩ := blkc14 BK310.out; obtain ⟨hcz21_0, hcz21_1, hcz21_2, hcz21_3, hcz21_4, hcz21_5, hcz21_6, hcz21_7, hcz21_8, hcz21_9, hcz21_10, hcz21_11, hcz21_12, hcz21_13, hfz21_0, hfz21_1, hfz21_2, hfz21_3, hfz21_4, hfz21_5, hfz21_6, hfz21_7, hfz21_8, hfz21_9, hfz21_10, hfz21_11, hfz21_12, hfz21_13⟩ := blkc14 BK311.out) | ((with_reducible refine gate_callee (f := 40) rfl ?_); refine goesL_ (some 19) rfl rfl Tryd.func40 (by kernel_rfl) rfl #[.slice A0_2 l0_2.length c0_2, .slice A1_2 l1_2.length c1_2] rfl au35 ?_; (with_reducible refine (laws_eqNameS.calls k _ _ l0_2 _ _ l1_2 _ _ ?side1 ?side2 ?side3 ?side4 A5.out).mono ?_); (case side1 => repeat (first | exact (Kd.C_below HR0_2.out HB.out) | (with_reducible refine Kd.C_alloc ?_ _) | (with_reducible refine Kd.C_drewN ?_ _) | (with_reducible refine Kd.C_drew ?_))); (case side2 => exact HC0_2.out); (case side3 => repeat (first | exact (Kd.C_below HR1_2.out HB.out) | (with_reducible refine Kd.C_alloc ?_ _) | (with_reducible refine Kd.C_drewN ?_ _) | (with_reducible refine Kd.C_drew ?_))); (case side4 => exact HC1_2.out); rintro e w22 ⟨rfl, hb⟩; refine ⟨_, rfl, ?_⟩; replace BK310 := Aside0.mk (blk_below (g := gb310) au59 hb); replace BK311 := Aside0.mk (blk_below (g := gb311) au60 hb); replace HB := Aside0.mk (below_step au14 hb); (try clear hb); obtain ⟨hcz23_0, hcz23_1, hcz23_2, hcz23_3, hcz23_4, hcz23_5, hcz23_6, hcz23_7, hcz23_8, hcz23_9, hcz23_10, hcz23_11, hcz23_12, hcz23_13, hfz23_0, hfz23_1, hfz23_2, hfz23_3, hfz23_4, hfz23_5, hfz23_6, hfz23_7, hfz23_8, hfz23_9, hfz23_10, hfz23_11, hfz23_12, hfz23_13⟩ := blkc14 BK310.out; obtain ⟨hcz24_0, hcz24_1, hcz24_2, hcz24_3, hcz24_4, hcz24_5, hcz24_6, hcz24_7, hcz24_8, hcz24_9, hcz24_10, hcz24_11, hcz24_12, hcz24_13, hfz24_0, hfz24_1, hfz24_2, hfz24_3, hfz24_4, hfz24_5, hfz24_6, hfz24_7, hfz24_8, hfz24_9, hfz24_10, hfz24_11, hfz24_12, hfz24_13⟩ := blkc14 BK311.out) | ((with_reducible refine gate_callee (f := 40) rfl ?_); refine goesL_ (some 25) rfl rfl Tryd.func40 (by kernel_rfl) rfl #[.slice A0_3 l0_3.length c0_3, .slice A1_3 l1_3.length c1_3] rfl au35 ?_; (with_reducible refine (laws_eqNameS.calls k _ _ l0_3 _ _ l1_3 _ _ ?side1 ?side2 ?side3 ?side4 A7.out).mono ?_); (case side1 => repeat (first | exact (Kd.C_below HR0_3.out HB.out) | (with_reducible refine Kd.C_alloc ?_ _) | (with_reducible refine Kd.C_drewN ?_ _) | (with_reducible refine Kd.C_drew ?_))); (case side2 => exact HC0_3.out); (case side3 => repeat (first | exact (Kd.C_below HR1_3.out HB.out) | (with_reducible refine Kd.C_alloc ?_ _) | (with_reducible refine Kd.C_drewN ?_ _) | (with_reducible refine Kd.C_drew ?_))); (case side4 => exact HC1_3.out); rintro e w25 ⟨rfl, hb⟩; refine ⟨_, rfl, ?_⟩; replace BK310 := Aside0.mk (blk_below (g := gb310) au59 hb); replace BK311 := Aside0.mk (blk_below (g := gb311) au60 hb); replace HB := Aside0.mk (below_step au14 hb); (try clear hb); obtain ⟨hcz26_0, hcz26_1, hcz26_2, hcz26_3, hcz26_4, hcz26_5, hcz26_6, hcz26_7, hcz26_8, hcz26_9, hcz26_10, hcz26_11, hcz26_12, hcz26_13, hfz26_0, hfz26_1, hfz26_2, hfz26_3, hfz26_4, hfz26_5, hfz26_6, hfz26_7, hfz26_8, hfz26_9, hfz26_10, hfz26_11, hfz26_12, hfz26_13⟩ := blkc14 BK310.out; obtain ⟨hcz27_0, hcz27_1, hcz27_2, hcz27_3, hcz27_4, hcz27_5, hcz27_6, hcz27_7, hcz27_8, hcz27_9, hcz27_10, hcz27_11, hcz27_12, hcz27_13, hfz27_0, hfz27_1, hfz27_2, hfz27_3, hfz27_4, hfz27_5, hfz27_6, hfz27_7, hfz27_8, hfz27_9, hfz27_10, hfz27_11, hfz27_12, hfz27_13⟩ := blkc14 BK311.out) | ((with_reducible refine gate_callee (f := 41) rfl ?_); refine goesL_ (some 46) rfl rfl Tryd.func41 (by kernel_rfl) rfl #[.agg #[.int .i64 a0_7, .int .i64 a0_8, .int .i64 a0_9, .bool a0_10], .agg #[.int .i64 a1_7, .int .i64 a1_8, .int .i64 a1_9, .bool a1_10]] rfl au35 ?_; (with_reducible refine (laws_eqDate.calls a0_7 a0_8 a0_9 a0_10 a1_7 a1_8 a1_9 a1_10 _ _ A12.out).mono ?_); rintro e w28 ⟨rfl, hb⟩; refine ⟨_, rfl, ?_⟩; replace BK310 := Aside0.mk (blk_below (g := gb310) au59 hb); replace BK311 := Aside0.mk (blk_below (g := gb311) au60 hb); replace HB := Aside0.mk (below_step au14 hb); (try clear hb); obtain ⟨hcz29_0, hcz29_1, hcz29_2, hcz29_3, hcz29_4, hcz29_5, hcz29_6, hcz29_7, hcz29_8, hcz29_9, hcz29_10, hcz29_11, hcz29_12, hcz29_13, hfz29_0, hfz29_1, hfz29_2, hfz29_3, hfz29_4, hfz29_5, hfz29_6, hfz29_7, hfz29_8, hfz29_9, hfz29_10, hfz29_11, hfz29_12, hfz29_13⟩ := blkc14 BK310.out; obtain ⟨hcz30_0, hcz30_1, hcz30_2, hcz30_3, hcz30_4, hcz30_5, hcz30_6, hcz30_7, hcz30_8, hcz30_9, hcz30_10, hcz30_11, hcz30_12, hcz30_13, hfz30_0, hfz30_1, hfz30_2, hfz30_3, hfz30_4, hfz30_5, hfz30_6, hfz30_7, hfz30_8, hfz30_9, hfz30_10, hfz30_11, hfz30_12, hfz30_13⟩ := blkc14 BK311.out))
  go_ret
  exact ax10) : P := h
set_option maxHeartbeats 8000000 in
set_option maxRecDepth 100000 in
theorem laws_eqEntry.calls (k : Nat) (a0_0 : ByteArray) (a0_1 : Int) (A0_2 : Option Addr) (c0_2 : Nat) (l0_2 : List (S70)) (A0_3 : Option Addr) (c0_3 : Nat) (l0_3 : List (S70)) (a0_4 : ByteArray) (a0_5 : ByteArray) (a0_6 : ByteArray) (a0_7 : Int) (a0_8 : Int) (a0_9 : Int) (a0_10 : Bool) (a0_11 : Int) (a0_12 : ByteArray) (a0_13 : ByteArray) (a1_0 : ByteArray) (a1_1 : Int) (A1_2 : Option Addr) (c1_2 : Nat) (l1_2 : List (S70)) (A1_3 : Option Addr) (c1_3 : Nat) (l1_3 : List (S70)) (a1_4 : ByteArray) (a1_5 : ByteArray) (a1_6 : ByteArray) (a1_7 : Int) (a1_8 : Int) (a1_9 : Int) (a1_10 : Bool) (a1_11 : Int) (a1_12 : ByteArray) (a1_13 : ByteArray) (r : Bool) (w : World) (hr0_2 : Kd.C k70 w A0_2 l0_2.length l0_2) (hc0_2 : l0_2.length ≤ c0_2) (hr0_3 : Kd.C k70 w A0_3 l0_3.length l0_3) (hc0_3 : l0_3.length ≤ c0_3) (hr1_2 : Kd.C k70 w A1_2 l1_2.length l1_2) (hc1_2 : l1_2.length ≤ c1_2) (hr1_3 : Kd.C k70 w A1_3 l1_3.length l1_3) (hc1_3 : l1_3.length ≤ c1_3) (h : laws_eqEntry.f k a0_0 a0_1 l0_2 l0_3 a0_4 a0_5 a0_6 a0_7 a0_8 a0_9 a0_10 a0_11 a0_12 a0_13 a1_0 a1_1 l1_2 l1_3 a1_4 a1_5 a1_6 a1_7 a1_8 a1_9 a1_10 a1_11 a1_12 a1_13 = some r) :
  Calls Tryd.prog 27 #[.agg #[.string a0_0, .int .i64 a0_1, .slice A0_2 l0_2.length c0_2, .slice A0_3 l0_3.length c0_3, .string a0_4, .string a0_5, .string a0_6, .int .i64 a0_7, .int .i64 a0_8, .int .i64 a0_9, .bool a0_10, .int .i64 a0_11, .string a0_12, .string a0_13], .agg #[.string a1_0, .int .i64 a1_1, .slice A1_2 l1_2.length c1_2, .slice A1_3 l1_3.length c1_3, .string a1_4, .string a1_5, .string a1_6, .int .i64 a1_7, .int .i64 a1_8, .int .i64 a1_9, .bool a1_10, .int .i64 a1_11, .string a1_12, .string a1_13]] w fun e w' => e = .returned (.bool r) ∧ Below w.heap.size w w' := by
 have hu45 := Tryd.underlying45
 have hu43 := Tryd.underlying43
 have HR0_2 := Aside0.mk hr0_2
 have HC0_2 := Aside0.mk hc0_2
 clear hr0_2 hc0_2
 have HR0_3 := Aside0.mk hr0_3
 have HC0_3 := Aside0.mk hc0_3
 clear hr0_3 hc0_3
 have HR1_2 := Aside0.mk hr1_2
 have HC1_2 := Aside0.mk hc1_2
 clear hr1_2 hc1_2
 have HR1_3 := Aside0.mk hr1_3
 have HC1_3 := Aside0.mk hc1_3
 clear hr1_3 hc1_3
 have HB := Aside0.mk (Below.refl w.heap.size w)
 have H : (if a0_0.toList = a1_0.toList then (if a0_1 = a1_1 then ((laws_eqNameS.f k l0_2 l1_2).bind fun t312 => (if t312 = true then ((laws_eqNameS.f k l0_3 l1_3).bind fun t313 => (if t313 = true then (if a0_4.toList = a1_4.toList then (if a0_5.toList = a1_5.toList then (if a0_6.toList = a1_6.toList then ((laws_eqDate.f a0_7 a0_8 a0_9 a0_10 a1_7 a1_8 a1_9 a1_10).bind fun t314 => (if t314 = true then (if a0_11 = a1_11 then (if a0_12.toList = a1_12.toList then (if a0_13.toList = a1_13.toList then (some true) else (some false)) else (some false)) else (some false)) else (some false))) else (some false)) else (some false)) else (some false)) else (some false))) else (some false))) else (some false)) else (some false)) = some r := h
 clear h
 by_cases c3 : a0_0.toList = a1_0.toList
 ·
  rw [if_pos c3] at H
  have c3b0 : (a0_0.toList == a1_0.toList) = true := beq_iff_eq.mpr c3
  have c3b1 : (a0_0.toList != a1_0.toList) = false := bne_eq_false_iff_eq.mpr c3
  clear c3
  by_cases c4 : a0_1 = a1_1
  ·
   rw [if_pos c4] at H
   have c4b0 : (a0_1 == a1_1) = true := beq_iff_eq.mpr c4
   have c4b1 : (a0_1 != a1_1) = false := bne_eq_false_iff_eq.mpr c4
   clear c4
   replace H := Option.bind_eq_some_iff.mp H
   obtain ⟨t312, A50, H⟩ := H
   try dsimp only at H
   have A5 := Aside0.mk A50
   clear A50
   by_cases c6 : t312 = true
   ·
    subst c6
    replace H := (if_pos rfl).symm.trans H
    replace H := Option.bind_eq_some_iff.mp H
    obtain ⟨t313, A70, H⟩ := H
    try dsimp only at H
    have A7 := Aside0.mk A70
    clear A70
    by_cases c8 : t313 = true
    ·
     subst c8
     replace H := (if_pos rfl).symm.trans H
     by_cases c9 : a0_4.toList = a1_4.toList
     ·
      rw [if_pos c9] at H
      have c9b0 : (a0_4.toList == a1_4.toList) = true := beq_iff_eq.mpr c9
      have c9b1 : (a0_4.toList != a1_4.toList) = false := bne_eq_false_iff_eq.mpr c9
      clear c9
      by_cases c10 : a0_5.toList = a1_5.toList
      ·
       rw [if_pos c10] at H
       have c10b0 : (a0_5.toList == a1_5.toList) = true := beq_iff_eq.mpr c10
       have c10b1 : (a0_5.toList != a1_5.toList) = false := bne_eq_false_iff_eq.mpr c10
       clear c10
       by_cases c11 : a0_6.toList = a1_6.toList
       ·
        rw [if_pos c11] at H
        have c11b0 : (a0_6.toList == a1_6.toList) = true := beq_iff_eq.mpr c11
        have c11b1 : (a0_6.toList != a1_6.toList) = false := bne_eq_false_iff_eq.mpr c11
        clear c11
        replace H := Option.bind_eq_some_iff.mp H
        obtain ⟨t314, A120, H⟩ := H
        try dsimp only at H
        have A12 := Aside0.mk A120
        clear A120
        by_cases c13 : t314 = true
        ·
         subst c13
         replace H := (if_pos rfl).symm.trans H
         by_cases c14 : a0_11 = a1_11
         ·
          rw [if_pos c14] at H
          have c14b0 : (a0_11 == a1_11) = true := beq_iff_eq.mpr c14
          have c14b1 : (a0_11 != a1_11) = false := bne_eq_false_iff_eq.mpr c14
          clear c14
          by_cases c15 : a0_12.toList = a1_12.toList
          ·
           rw [if_pos c15] at H
           have c15b0 : (a0_12.toList == a1_12.toList) = true := beq_iff_eq.mpr c15
           have c15b1 : (a0_12.toList != a1_12.toList) = false := bne_eq_false_iff_eq.mpr c15
           clear c15
           by_cases c16 : a0_13.toList = a1_13.toList
           ·
            rw [if_pos c16] at H
            have c16b0 : (a0_13.toList == a1_13.toList) = true := beq_iff_eq.mpr c16
            have c16b1 : (a0_13.toList != a1_13.toList) = false := bne_eq_false_iff_eq.mpr c16
            clear c16
            obtain rfl := Option.some.inj H
            exact laws_eqEntry.L0
           ·
            rw [if_neg c16] at H
            have c16b0 : (a0_13.toList == a1_13.toList) = false := beq_eq_false_iff_ne.mpr c16
            have c16b1 : (a0_13.toList != a1_13.toList) = true := bne_iff_ne.mpr c16
            obtain rfl := Option.some.inj H
            exact laws_eqEntry.L0
          ·
           rw [if_neg c15] at H
           have c15b0 : (a0_12.toList == a1_12.toList) = false := beq_eq_false_iff_ne.mpr c15
           have c15b1 : (a0_12.toList != a1_12.toList) = true := bne_iff_ne.mpr c15
           obtain rfl := Option.some.inj H
           exact laws_eqEntry.L0
         ·
          rw [if_neg c14] at H
          have c14b0 : (a0_11 == a1_11) = false := beq_eq_false_iff_ne.mpr c14
          have c14b1 : (a0_11 != a1_11) = true := bne_iff_ne.mpr c14
          obtain rfl := Option.some.inj H
          exact laws_eqEntry.L0
        ·
         replace c13 := Bool.eq_false_iff.mpr c13
         subst c13
         replace H := (if_neg (show ¬ (false = true) by decide)).symm.trans H
         obtain rfl := Option.some.inj H
         go_enter Tryd.func27, Tryd.ntmps27
         go_wp2_with (first | ((with_reducible refine gate_dst (N := 2) rfl ?_); refine box_event ?hg (N := 2) ?hd (cs := #[.string a0_0, .int .i64 a0_1, .slice A0_2 l0_2.length c0_2, .slice A0_3 l0_3.length c0_3, .string a0_4, .string a0_5, .string a0_6, .int .i64 a0_7, .int .i64 a0_8, .int .i64 a0_9, .bool a0_10, .int .i64 a0_11, .string a0_12, .string a0_13]) (t := 45) ?hr ?_; (case hd => rfl); (case hg => rfl); (case hr => first | (go_simp; done) | (go_simp; rfl)); intro gb310 hg w73 hbox hb; have BK310 := Aside0.mk (hbox); have GW310 := Aside0.mk (bsz hg au36); have GE310 := Aside0.mk (bsz hg au36); replace HB := Aside0.mk (below_step au36 hb); clear hb hbox hg) | ((with_reducible refine gate_dst (N := 3) rfl ?_); refine box_event ?hg (N := 3) ?hd (cs := #[.string a1_0, .int .i64 a1_1, .slice A1_2 l1_2.length c1_2, .slice A1_3 l1_3.length c1_3, .string a1_4, .string a1_5, .string a1_6, .int .i64 a1_7, .int .i64 a1_8, .int .i64 a1_9, .bool a1_10, .int .i64 a1_11, .string a1_12, .string a1_13]) (t := 45) ?hr ?_; (case hd => rfl); (case hg => rfl); (case hr => first | (go_simp; done) | (go_simp; rfl)); intro gb311 hg w74 hbox hb; have BK311 := Aside0.mk (hbox); have GW311 := Aside0.mk (bsz hg au32); have GE311 := Aside0.mk (bsz hg au32); replace HB := Aside0.mk (below_step au32 hb); have NB310_311 := Aside0.mk (bne (g := gb310) hg au59); have NB311_310 := Aside0.mk (ben (g := gb310) hg au59); replace BK310 := Aside0.mk (blk_below (g := gb310) au59 hb); clear hb hbox hg; have hnb75 := NB310_311.out; have hnc75 := NB311_310.out; obtain ⟨hcz76_0, hcz76_1, hcz76_2, hcz76_3, hcz76_4, hcz76_5, hcz76_6, hcz76_7, hcz76_8, hcz76_9, hcz76_10, hcz76_11, hcz76_12, hcz76_13, hfz76_0, hfz76_1, hfz76_2, hfz76_3, hfz76_4, hfz76_5, hfz76_6, hfz76_7, hfz76_8, hfz76_9, hfz76_10, hfz76_11, hfz76_12, hfz76_13⟩ := blkc14 BK310.out; obtain ⟨hcz77_0, hcz77_1, hcz77_2, hcz77_3, hcz77_4, hcz77_5, hcz77_6, hcz77_7, hcz77_8, hcz77_9, hcz77_10, hcz77_11, hcz77_12, hcz77_13, hfz77_0, hfz77_1, hfz77_2, hfz77_3, hfz77_4, hfz77_5, hfz77_6, hfz77_7, hfz77_8, hfz77_9, hfz77_10, hfz77_11, hfz77_12, hfz77_13⟩ := blkc14 BK311.out) | ((with_reducible refine gate_callee (f := 40) rfl ?_); refine goesL_ (some 19) rfl rfl Tryd.func40 (by kernel_rfl) rfl #[.slice A0_2 l0_2.length c0_2, .slice A1_2 l1_2.length c1_2] rfl au35 ?_; (with_reducible refine (laws_eqNameS.calls k _ _ l0_2 _ _ l1_2 _ _ ?side1 ?side2 ?side3 ?side4 A5.out).mono ?_); (case side1 => repeat (first | exact (Kd.C_below HR0_2.out HB.out) | (with_reducible refine Kd.C_alloc ?_ _) | (with_reducible refine Kd.C_drewN ?_ _) | (with_reducible refine Kd.C_drew ?_))); (case side2 => exact HC0_2.out); (case side3 => repeat (first | exact (Kd.C_below HR1_2.out HB.out) | (with_reducible refine Kd.C_alloc ?_ _) | (with_reducible refine Kd.C_drewN ?_ _) | (with_reducible refine Kd.C_drew ?_))); (case side4 => exact HC1_2.out); rintro e w78 ⟨rfl, hb⟩; refine ⟨_, rfl, ?_⟩; replace BK310 := Aside0.mk (blk_below (g := gb310) au59 hb); replace BK311 := Aside0.mk (blk_below (g := gb311) au60 hb); replace HB := Aside0.mk (below_step au14 hb); (try clear hb); obtain ⟨hcz79_0, hcz79_1, hcz79_2, hcz79_3, hcz79_4, hcz79_5, hcz79_6, hcz79_7, hcz79_8, hcz79_9, hcz79_10, hcz79_11, hcz79_12, hcz79_13, hfz79_0, hfz79_1, hfz79_2, hfz79_3, hfz79_4, hfz79_5, hfz79_6, hfz79_7, hfz79_8, hfz79_9, hfz79_10, hfz79_11, hfz79_12, hfz79_13⟩ := blkc14 BK310.out; obtain ⟨hcz80_0, hcz80_1, hcz80_2, hcz80_3, hcz80_4, hcz80_5, hcz80_6, hcz80_7, hcz80_8, hcz80_9, hcz80_10, hcz80_11, hcz80_12, hcz80_13, hfz80_0, hfz80_1, hfz80_2, hfz80_3, hfz80_4, hfz80_5, hfz80_6, hfz80_7, hfz80_8, hfz80_9, hfz80_10, hfz80_11, hfz80_12, hfz80_13⟩ := blkc14 BK311.out) | ((with_reducible refine gate_callee (f := 40) rfl ?_); refine goesL_ (some 25) rfl rfl Tryd.func40 (by kernel_rfl) rfl #[.slice A0_3 l0_3.length c0_3, .slice A1_3 l1_3.length c1_3] rfl au35 ?_; (with_reducible refine (laws_eqNameS.calls k _ _ l0_3 _ _ l1_3 _ _ ?side1 ?side2 ?side3 ?side4 A7.out).mono ?_); (case side1 => repeat (first | exact (Kd.C_below HR0_3.out HB.out) | (with_reducible refine Kd.C_alloc ?_ _) | (with_reducible refine Kd.C_drewN ?_ _) | (with_reducible refine Kd.C_drew ?_))); (case side2 => exact HC0_3.out); (case side3 => repeat (first | exact (Kd.C_below HR1_3.out HB.out) | (with_reducible refine Kd.C_alloc ?_ _) | (with_reducible refine Kd.C_drewN ?_ _) | (with_reducible refine Kd.C_drew ?_))); (case side4 => exact HC1_3.out); rintro e w81 ⟨rfl, hb⟩; refine ⟨_, rfl, ?_⟩; replace BK310 := Aside0.mk (blk_below (g := gb310) au59 hb); replace BK311 := Aside0.mk (blk_below (g := gb311) au60 hb); replace HB := Aside0.mk (below_step au14 hb); (try clear hb); obtain ⟨hcz82_0, hcz82_1, hcz82_2, hcz82_3, hcz82_4, hcz82_5, hcz82_6, hcz82_7, hcz82_8, hcz82_9, hcz82_10, hcz82_11, hcz82_12, hcz82_13, hfz82_0, hfz82_1, hfz82_2, hfz82_3, hfz82_4, hfz82_5, hfz82_6, hfz82_7, hfz82_8, hfz82_9, hfz82_10, hfz82_11, hfz82_12, hfz82_13⟩ := blkc14 BK310.out; obtain ⟨hcz83_0, hcz83_1, hcz83_2, hcz83_3, hcz83_4, hcz83_5, hcz83_6, hcz83_7, hcz83_8, hcz83_9, hcz83_10, hcz83_11, hcz83_12, hcz83_13, hfz83_0, hfz83_1, hfz83_2, hfz83_3, hfz83_4, hfz83_5, hfz83_6, hfz83_7, hfz83_8, hfz83_9, hfz83_10, hfz83_11, hfz83_12, hfz83_13⟩ := blkc14 BK311.out) | ((with_reducible refine gate_callee (f := 41) rfl ?_); refine goesL_ (some 46) rfl rfl Tryd.func41 (by kernel_rfl) rfl #[.agg #[.int .i64 a0_7, .int .i64 a0_8, .int .i64 a0_9, .bool a0_10], .agg #[.int .i64 a1_7, .int .i64 a1_8, .int .i64 a1_9, .bool a1_10]] rfl au35 ?_; (with_reducible refine (laws_eqDate.calls a0_7 a0_8 a0_9 a0_10 a1_7 a1_8 a1_9 a1_10 _ _ A12.out).mono ?_); rintro e w84 ⟨rfl, hb⟩; refine ⟨_, rfl, ?_⟩; replace BK310 := Aside0.mk (blk_below (g := gb310) au59 hb); replace BK311 := Aside0.mk (blk_below (g := gb311) au60 hb); replace HB := Aside0.mk (below_step au14 hb); (try clear hb)))
         go_ret
         exact ax10
       ·
        rw [if_neg c11] at H
        have c11b0 : (a0_6.toList == a1_6.toList) = false := beq_eq_false_iff_ne.mpr c11
        have c11b1 : (a0_6.toList != a1_6.toList) = true := bne_iff_ne.mpr c11
        obtain rfl := Option.some.inj H
        exact laws_eqEntry.L0
      ·
       rw [if_neg c10] at H
       have c10b0 : (a0_5.toList == a1_5.toList) = false := beq_eq_false_iff_ne.mpr c10
       have c10b1 : (a0_5.toList != a1_5.toList) = true := bne_iff_ne.mpr c10
       obtain rfl := Option.some.inj H
       exact laws_eqEntry.L0
     ·
      rw [if_neg c9] at H
      have c9b0 : (a0_4.toList == a1_4.toList) = false := beq_eq_false_iff_ne.mpr c9
      have c9b1 : (a0_4.toList != a1_4.toList) = true := bne_iff_ne.mpr c9
      obtain rfl := Option.some.inj H
      exact laws_eqEntry.L0
    ·
     replace c8 := Bool.eq_false_iff.mpr c8
     subst c8
     replace H := (if_neg (show ¬ (false = true) by decide)).symm.trans H
     obtain rfl := Option.some.inj H
     go_enter Tryd.func27, Tryd.ntmps27
     go_wp2_with (first | ((with_reducible refine gate_dst (N := 2) rfl ?_); refine box_event ?hg (N := 2) ?hd (cs := #[.string a0_0, .int .i64 a0_1, .slice A0_2 l0_2.length c0_2, .slice A0_3 l0_3.length c0_3, .string a0_4, .string a0_5, .string a0_6, .int .i64 a0_7, .int .i64 a0_8, .int .i64 a0_9, .bool a0_10, .int .i64 a0_11, .string a0_12, .string a0_13]) (t := 45) ?hr ?_; (case hd => rfl); (case hg => rfl); (case hr => first | (go_simp; done) | (go_simp; rfl)); intro gb310 hg w118 hbox hb; have BK310 := Aside0.mk (hbox); have GW310 := Aside0.mk (bsz hg au36); have GE310 := Aside0.mk (bsz hg au36); replace HB := Aside0.mk (below_step au36 hb); clear hb hbox hg) | ((with_reducible refine gate_dst (N := 3) rfl ?_); refine box_event ?hg (N := 3) ?hd (cs := #[.string a1_0, .int .i64 a1_1, .slice A1_2 l1_2.length c1_2, .slice A1_3 l1_3.length c1_3, .string a1_4, .string a1_5, .string a1_6, .int .i64 a1_7, .int .i64 a1_8, .int .i64 a1_9, .bool a1_10, .int .i64 a1_11, .string a1_12, .string a1_13]) (t := 45) ?hr ?_; (case hd => rfl); (case hg => rfl); (case hr => first | (go_simp; done) | (go_simp; rfl)); intro gb311 hg w119 hbox hb; have BK311 := Aside0.mk (hbox); have GW311 := Aside0.mk (bsz hg au32); have GE311 := Aside0.mk (bsz hg au32); replace HB := Aside0.mk (below_step au32 hb); have NB310_311 := Aside0.mk (bne (g := gb310) hg au59); have NB311_310 := Aside0.mk (ben (g := gb310) hg au59); replace BK310 := Aside0.mk (blk_below (g := gb310) au59 hb); clear hb hbox hg; have hnb120 := NB310_311.out; have hnc120 := NB311_310.out; obtain ⟨hcz121_0, hcz121_1, hcz121_2, hcz121_3, hcz121_4, hcz121_5, hcz121_6, hcz121_7, hcz121_8, hcz121_9, hcz121_10, hcz121_11, hcz121_12, hcz121_13, hfz121_0, hfz121_1, hfz121_2, hfz121_3, hfz121_4, hfz121_5, hfz121_6, hfz121_7, hfz121_8, hfz121_9, hfz121_10, hfz121_11, hfz121_12, hfz121_13⟩ := blkc14 BK310.out; obtain ⟨hcz122_0, hcz122_1, hcz122_2, hcz122_3, hcz122_4, hcz122_5, hcz122_6, hcz122_7, hcz122_8, hcz122_9, hcz122_10, hcz122_11, hcz122_12, hcz122_13, hfz122_0, hfz122_1, hfz122_2, hfz122_3, hfz122_4, hfz122_5, hfz122_6, hfz122_7, hfz122_8, hfz122_9, hfz122_10, hfz122_11, hfz122_12, hfz122_13⟩ := blkc14 BK311.out) | ((with_reducible refine gate_callee (f := 40) rfl ?_); refine goesL_ (some 19) rfl rfl Tryd.func40 (by kernel_rfl) rfl #[.slice A0_2 l0_2.length c0_2, .slice A1_2 l1_2.length c1_2] rfl au35 ?_; (with_reducible refine (laws_eqNameS.calls k _ _ l0_2 _ _ l1_2 _ _ ?side1 ?side2 ?side3 ?side4 A5.out).mono ?_); (case side1 => repeat (first | exact (Kd.C_below HR0_2.out HB.out) | (with_reducible refine Kd.C_alloc ?_ _) | (with_reducible refine Kd.C_drewN ?_ _) | (with_reducible refine Kd.C_drew ?_))); (case side2 => exact HC0_2.out); (case side3 => repeat (first | exact (Kd.C_below HR1_2.out HB.out) | (with_reducible refine Kd.C_alloc ?_ _) | (with_reducible refine Kd.C_drewN ?_ _) | (with_reducible refine Kd.C_drew ?_))); (case side4 => exact HC1_2.out); rintro e w123 ⟨rfl, hb⟩; refine ⟨_, rfl, ?_⟩; replace BK310 := Aside0.mk (blk_below (g := gb310) au59 hb); replace BK311 := Aside0.mk (blk_below (g := gb311) au60 hb); replace HB := Aside0.mk (below_step au14 hb); (try clear hb); obtain ⟨hcz124_0, hcz124_1, hcz124_2, hcz124_3, hcz124_4, hcz124_5, hcz124_6, hcz124_7, hcz124_8, hcz124_9, hcz124_10, hcz124_11, hcz124_12, hcz124_13, hfz124_0, hfz124_1, hfz124_2, hfz124_3, hfz124_4, hfz124_5, hfz124_6, hfz124_7, hfz124_8, hfz124_9, hfz124_10, hfz124_11, hfz124_12, hfz124_13⟩ := blkc14 BK310.out; obtain ⟨hcz125_0, hcz125_1, hcz125_2, hcz125_3, hcz125_4, hcz125_5, hcz125_6, hcz125_7, hcz125_8, hcz125_9, hcz125_10, hcz125_11, hcz125_12, hcz125_13, hfz125_0, hfz125_1, hfz125_2, hfz125_3, hfz125_4, hfz125_5, hfz125_6, hfz125_7, hfz125_8, hfz125_9, hfz125_10, hfz125_11, hfz125_12, hfz125_13⟩ := blkc14 BK311.out) | ((with_reducible refine gate_callee (f := 40) rfl ?_); refine goesL_ (some 25) rfl rfl Tryd.func40 (by kernel_rfl) rfl #[.slice A0_3 l0_3.length c0_3, .slice A1_3 l1_3.length c1_3] rfl au35 ?_; (with_reducible refine (laws_eqNameS.calls k _ _ l0_3 _ _ l1_3 _ _ ?side1 ?side2 ?side3 ?side4 A7.out).mono ?_); (case side1 => repeat (first | exact (Kd.C_below HR0_3.out HB.out) | (with_reducible refine Kd.C_alloc ?_ _) | (with_reducible refine Kd.C_drewN ?_ _) | (with_reducible refine Kd.C_drew ?_))); (case side2 => exact HC0_3.out); (case side3 => repeat (first | exact (Kd.C_below HR1_3.out HB.out) | (with_reducible refine Kd.C_alloc ?_ _) | (with_reducible refine Kd.C_drewN ?_ _) | (with_reducible refine Kd.C_drew ?_))); (case side4 => exact HC1_3.out); rintro e w126 ⟨rfl, hb⟩; refine ⟨_, rfl, ?_⟩; replace BK310 := Aside0.mk (blk_below (g := gb310) au59 hb); replace BK311 := Aside0.mk (blk_below (g := gb311) au60 hb); replace HB := Aside0.mk (below_step au14 hb); (try clear hb)))
     go_ret
     exact ax10
   ·
    replace c6 := Bool.eq_false_iff.mpr c6
    subst c6
    replace H := (if_neg (show ¬ (false = true) by decide)).symm.trans H
    obtain rfl := Option.some.inj H
    go_enter Tryd.func27, Tryd.ntmps27
    go_wp2_with (first | ((with_reducible refine gate_dst (N := 2) rfl ?_); refine box_event ?hg (N := 2) ?hd (cs := #[.string a0_0, .int .i64 a0_1, .slice A0_2 l0_2.length c0_2, .slice A0_3 l0_3.length c0_3, .string a0_4, .string a0_5, .string a0_6, .int .i64 a0_7, .int .i64 a0_8, .int .i64 a0_9, .bool a0_10, .int .i64 a0_11, .string a0_12, .string a0_13]) (t := 45) ?hr ?_; (case hd => rfl); (case hg => rfl); (case hr => first | (go_simp; done) | (go_simp; rfl)); intro gb310 hg w127 hbox hb; have BK310 := Aside0.mk (hbox); have GW310 := Aside0.mk (bsz hg au36); have GE310 := Aside0.mk (bsz hg au36); replace HB := Aside0.mk (below_step au36 hb); clear hb hbox hg) | ((with_reducible refine gate_dst (N := 3) rfl ?_); refine box_event ?hg (N := 3) ?hd (cs := #[.string a1_0, .int .i64 a1_1, .slice A1_2 l1_2.length c1_2, .slice A1_3 l1_3.length c1_3, .string a1_4, .string a1_5, .string a1_6, .int .i64 a1_7, .int .i64 a1_8, .int .i64 a1_9, .bool a1_10, .int .i64 a1_11, .string a1_12, .string a1_13]) (t := 45) ?hr ?_; (case hd => rfl); (case hg => rfl); (case hr => first | (go_simp; done) | (go_simp; rfl)); intro gb311 hg w128 hbox hb; have BK311 := Aside0.mk (hbox); have GW311 := Aside0.mk (bsz hg au32); have GE311 := Aside0.mk (bsz hg au32); replace HB := Aside0.mk (below_step au32 hb); have NB310_311 := Aside0.mk (bne (g := gb310) hg au59); have NB311_310 := Aside0.mk (ben (g := gb310) hg au59); replace BK310 := Aside0.mk (blk_below (g := gb310) au59 hb); clear hb hbox hg; have hnb129 := NB310_311.out; have hnc129 := NB311_310.out; obtain ⟨hcz130_0, hcz130_1, hcz130_2, hcz130_3, hcz130_4, hcz130_5, hcz130_6, hcz130_7, hcz130_8, hcz130_9, hcz130_10, hcz130_11, hcz130_12, hcz130_13, hfz130_0, hfz130_1, hfz130_2, hfz130_3, hfz130_4, hfz130_5, hfz130_6, hfz130_7, hfz130_8, hfz130_9, hfz130_10, hfz130_11, hfz130_12, hfz130_13⟩ := blkc14 BK310.out; obtain ⟨hcz131_0, hcz131_1, hcz131_2, hcz131_3, hcz131_4, hcz131_5, hcz131_6, hcz131_7, hcz131_8, hcz131_9, hcz131_10, hcz131_11, hcz131_12, hcz131_13, hfz131_0, hfz131_1, hfz131_2, hfz131_3, hfz131_4, hfz131_5, hfz131_6, hfz131_7, hfz131_8, hfz131_9, hfz131_10, hfz131_11, hfz131_12, hfz131_13⟩ := blkc14 BK311.out) | ((with_reducible refine gate_callee (f := 40) rfl ?_); refine goesL_ (some 19) rfl rfl Tryd.func40 (by kernel_rfl) rfl #[.slice A0_2 l0_2.length c0_2, .slice A1_2 l1_2.length c1_2] rfl au35 ?_; (with_reducible refine (laws_eqNameS.calls k _ _ l0_2 _ _ l1_2 _ _ ?side1 ?side2 ?side3 ?side4 A5.out).mono ?_); (case side1 => repeat (first | exact (Kd.C_below HR0_2.out HB.out) | (with_reducible refine Kd.C_alloc ?_ _) | (with_reducible refine Kd.C_drewN ?_ _) | (with_reducible refine Kd.C_drew ?_))); (case side2 => exact HC0_2.out); (case side3 => repeat (first | exact (Kd.C_below HR1_2.out HB.out) | (with_reducible refine Kd.C_alloc ?_ _) | (with_reducible refine Kd.C_drewN ?_ _) | (with_reducible refine Kd.C_drew ?_))); (case side4 => exact HC1_2.out); rintro e w132 ⟨rfl, hb⟩; refine ⟨_, rfl, ?_⟩; replace BK310 := Aside0.mk (blk_below (g := gb310) au59 hb); replace BK311 := Aside0.mk (blk_below (g := gb311) au60 hb); replace HB := Aside0.mk (below_step au14 hb); (try clear hb)))
    go_ret
    exact ax10
  ·
   rw [if_neg c4] at H
   have c4b0 : (a0_1 == a1_1) = false := beq_eq_false_iff_ne.mpr c4
   have c4b1 : (a0_1 != a1_1) = true := bne_iff_ne.mpr c4
   obtain rfl := Option.some.inj H
   exact laws_eqEntry.L0
 ·
  rw [if_neg c3] at H
  have c3b0 : (a0_0.toList == a1_0.toList) = false := beq_eq_false_iff_ne.mpr c3
  have c3b1 : (a0_0.toList != a1_0.toList) = true := bne_iff_ne.mpr c3
  obtain rfl := Option.some.inj H
  exact laws_eqEntry.L0


/-! ### laws_eqEntryS: function 19 -/
def laws_eqEntryS.l0 : Nat → List (S45) → List (S45) → Int → Option (Bool)
 | 0, _, _, _ => none
 | k + 1, x0, x1, x5 => if x5 < (x0.length : Int) then (if 0 ≤ x5 then (if x5 < (x1.length : Int) then ((laws_eqEntry.f k ((rd_T45 x0 x5).f0) ((rd_T45 x0 x5).f1) ((rd_T45 x0 x5).f2) ((rd_T45 x0 x5).f3) ((rd_T45 x0 x5).f4) ((rd_T45 x0 x5).f5) ((rd_T45 x0 x5).f6) ((rd_T45 x0 x5).f7.f0) ((rd_T45 x0 x5).f7.f1) ((rd_T45 x0 x5).f7.f2) ((rd_T45 x0 x5).f7.f3) ((rd_T45 x0 x5).f8) ((rd_T45 x0 x5).f9) ((rd_T45 x0 x5).f10) ((rd_T45 x1 x5).f0) ((rd_T45 x1 x5).f1) ((rd_T45 x1 x5).f2) ((rd_T45 x1 x5).f3) ((rd_T45 x1 x5).f4) ((rd_T45 x1 x5).f5) ((rd_T45 x1 x5).f6) ((rd_T45 x1 x5).f7.f0) ((rd_T45 x1 x5).f7.f1) ((rd_T45 x1 x5).f7.f2) ((rd_T45 x1 x5).f7.f3) ((rd_T45 x1 x5).f8) ((rd_T45 x1 x5).f9) ((rd_T45 x1 x5).f10)).bind fun t317 => (if t317 = true then (laws_eqEntryS.l0 k x0 x1 (wrap64 (x5 + 1))) else (some false))) else (none)) else (none)) else (some true)
def laws_eqEntryS.f (k : Nat) (l0 : List (S45)) (l1 : List (S45)) : Option (Bool) := if (l0.length : Int) = (l1.length : Int) then (laws_eqEntryS.l0 k l0 l1 0) else (some false)
theorem laws_eqEntryS.mono_l : ∀ k, (∀ y0 y1 y2, LeO (laws_eqEntryS.l0 k y0 y1 y2) (laws_eqEntryS.l0 (k + 1) y0 y1 y2))
 | 0 => fun _ _ _ r h => by simp [laws_eqEntryS.l0] at h
 | k + 1 => by
  have ih0 := laws_eqEntryS.mono_l k
  ·
   intro y0 y1 y2
   unfold laws_eqEntryS.l0
   repeat' first
   | (with_reducible exact ih0 _ _ _)
   | (with_reducible exact laws_eqEntry.mono _ _ _ _ _ _ _ _ _ _ _ _ _ _ _ _ _ _ _ _ _ _ _ _ _ _ _ _ _)
   | (with_reducible exact LeO.refl _)
   | (with_reducible exact LeO.none _)
   | (with_reducible refine LeO.ite ?_ ?_)
   | (with_reducible refine LeO.bind ?_ (fun _ => ?_))
   | exact ih0 _ _ _
   | exact laws_eqEntry.mono _ _ _ _ _ _ _ _ _ _ _ _ _ _ _ _ _ _ _ _ _ _ _ _ _ _ _ _ _
   | exact LeO.none _
   | refine LeO.ite ?_ ?_
   | refine LeO.bind ?_ (fun _ => ?_)
theorem laws_eqEntryS.mono : ∀ a0 a1 k, LeO (laws_eqEntryS.f k a0 a1) (laws_eqEntryS.f (k + 1) a0 a1) := by
 intro a0 a1 k
 have ih0 := laws_eqEntryS.mono_l k
 unfold laws_eqEntryS.f
 repeat' first
   | (with_reducible exact ih0 _ _ _)
   | (with_reducible exact laws_eqEntry.mono _ _ _ _ _ _ _ _ _ _ _ _ _ _ _ _ _ _ _ _ _ _ _ _ _ _ _ _ _)
   | (with_reducible exact LeO.refl _)
   | (with_reducible exact LeO.none _)
   | (with_reducible refine LeO.ite ?_ ?_)
   | (with_reducible refine LeO.bind ?_ (fun _ => ?_))
   | exact ih0 _ _ _
   | exact laws_eqEntry.mono _ _ _ _ _ _ _ _ _ _ _ _ _ _ _ _ _ _ _ _ _ _ _ _ _ _ _ _ _
   | exact LeO.none _
   | refine LeO.ite ?_ ?_
   | refine LeO.bind ?_ (fun _ => ?_)
def laws_eqEntryS.T6 : Bool × List (List Nat × List Nat) := (true, [([], []), ([], []), ([0, 1], [0, 1]), ([2], [2]), ([], []), ([], []), ([4, 5], [4, 5]), ([6], [6]), ([3, 7], [3, 7]), ([8], [8])])
def laws_eqEntryS.B6 : List Nat := [0, 0, 3, 7, 0, 0, 48, 112, 255, 511]
theorem laws_eqEntryS.tab6 : rtab .any (opsOf Tryd.f19 6) = laws_eqEntryS.T6 := by kernel_rfl
theorem laws_eqEntryS.bits6 : waitsOk laws_eqEntryS.T6.2 laws_eqEntryS.B6 = true := by kernel_rfl
set_option maxRecDepth 100000 in
theorem laws_eqEntryS.L0 {P : Prop} (h : P := by
  try go_wp2
  replace HB := Aside0.mk (below_drew1 HB.out)
  have p315 : 0 ≤ (x5_1 : Int) := of_decide_eq_true au71
  have q315 : x5_1 < (l0.length : Int) := of_decide_eq_true au71
  obtain ⟨ad315, A315_2, c315_2, A315_3, c315_3, e315, hx315_0, hx315_1, hx315_2, hx315_3, hx315_4, hx315_5, hx315_6, hx315_7, hx315_8, hx315_9, hx315_10, hx315_11, hx315_12, hx315_13, hl315_2, hi315_2, hl315_3, hi315_3⟩ := at_T45 HR0.out x5_1 p315 q315
  have hw315_13 := hx315_13
  have hw315_12 := hx315_12
  have hw315_11 := hx315_11
  have hw315_10 := hx315_10
  have hw315_9 := hx315_9
  have hw315_8 := hx315_8
  have hw315_7 := hx315_7
  have hw315_6 := hx315_6
  have hw315_5 := hx315_5
  have hw315_4 := hx315_4
  have hw315_3 := hx315_3
  have hw315_2 := hx315_2
  have hw315_1 := hx315_1
  have hw315_0 := hx315_0
  cases e315
  replace hx315_0 := bcl HB.out hx315_0
  replace hx315_1 := bcl HB.out hx315_1
  replace hx315_2 := bcl HB.out hx315_2
  replace hx315_3 := bcl HB.out hx315_3
  replace hx315_4 := bcl HB.out hx315_4
  replace hx315_5 := bcl HB.out hx315_5
  replace hx315_6 := bcl HB.out hx315_6
  replace hx315_7 := bcl HB.out hx315_7
  replace hx315_8 := bcl HB.out hx315_8
  replace hx315_9 := bcl HB.out hx315_9
  replace hx315_10 := bcl HB.out hx315_10
  replace hx315_11 := bcl HB.out hx315_11
  replace hx315_12 := bcl HB.out hx315_12
  replace hx315_13 := bcl HB.out hx315_13
  have HR315_2 := Aside0.mk hi315_2
  have HC315_2 := Aside0.mk hl315_2
  clear hi315_2 hl315_2
  have HR315_3 := Aside0.mk hi315_3
  have HC315_3 := Aside0.mk hl315_3
  clear hi315_3 hl315_3
  replace p315 := eq_true p315
  replace q315 := eq_true q315
  have p316 : 0 ≤ (x5_1 : Int) := of_decide_eq_true au71
  have q316 : x5_1 < (l1.length : Int) := of_decide_eq_true au71
  obtain ⟨ad316, A316_2, c316_2, A316_3, c316_3, e316, hx316_0, hx316_1, hx316_2, hx316_3, hx316_4, hx316_5, hx316_6, hx316_7, hx316_8, hx316_9, hx316_10, hx316_11, hx316_12, hx316_13, hl316_2, hi316_2, hl316_3, hi316_3⟩ := at_T45 HR1.out x5_1 p316 q316
  have hw316_13 := hx316_13
  have hw316_12 := hx316_12
  have hw316_11 := hx316_11
  have hw316_10 := hx316_10
  have hw316_9 := hx316_9
  have hw316_8 := hx316_8
  have hw316_7 := hx316_7
  have hw316_6 := hx316_6
  have hw316_5 := hx316_5
  have hw316_4 := hx316_4
  have hw316_3 := hx316_3
  have hw316_2 := hx316_2
  have hw316_1 := hx316_1
  have hw316_0 := hx316_0
  cases e316
  replace hx316_0 := bcl HB.out hx316_0
  replace hx316_1 := bcl HB.out hx316_1
  replace hx316_2 := bcl HB.out hx316_2
  replace hx316_3 := bcl HB.out hx316_3
  replace hx316_4 := bcl HB.out hx316_4
  replace hx316_5 := bcl HB.out hx316_5
  replace hx316_6 := bcl HB.out hx316_6
  replace hx316_7 := bcl HB.out hx316_7
  replace hx316_8 := bcl HB.out hx316_8
  replace hx316_9 := bcl HB.out hx316_9
  replace hx316_10 := bcl HB.out hx316_10
  replace hx316_11 := bcl HB.out hx316_11
  replace hx316_12 := bcl HB.out hx316_12
  replace hx316_13 := bcl HB.out hx316_13
  have HR316_2 := Aside0.mk hi316_2
  have HC316_2 := Aside0.mk hl316_2
  clear hi316_2 hl316_2
  have HR316_3 := Aside0.mk hi316_3
  have HC316_3 := Aside0.mk hl316_3
  clear hi316_3 hl316_3
  replace p316 := eq_true p316
  replace q316 := eq_true q316
  refine start_ (n := 10) (S := fun w' => w'.cell? (ad315.add ((x5_1).toNat * 14)) = some (.string ((rd_T45 l0 x5_1).f0)) ∧ w'.cell? ⟨(ad315.add ((x5_1).toNat * 14)).block, (ad315.add ((x5_1).toNat * 14)).off + 1, none⟩ = some (.int .i64 ((rd_T45 l0 x5_1).f1)) ∧ w'.cell? ⟨(ad315.add ((x5_1).toNat * 14)).block, (ad315.add ((x5_1).toNat * 14)).off + 2, none⟩ = some (.slice A315_2 ((rd_T45 l0 x5_1).f2).length c315_2) ∧ w'.cell? ⟨(ad315.add ((x5_1).toNat * 14)).block, (ad315.add ((x5_1).toNat * 14)).off + 3, none⟩ = some (.slice A315_3 ((rd_T45 l0 x5_1).f3).length c315_3) ∧ w'.cell? ⟨(ad315.add ((x5_1).toNat * 14)).block, (ad315.add ((x5_1).toNat * 14)).off + 4, none⟩ = some (.string ((rd_T45 l0 x5_1).f4)) ∧ w'.cell? ⟨(ad315.add ((x5_1).toNat * 14)).block, (ad315.add ((x5_1).toNat * 14)).off + 5, none⟩ = some (.string ((rd_T45 l0 x5_1).f5)) ∧ w'.cell? ⟨(ad315.add ((x5_1).toNat * 14)).block, (ad315.add ((x5_1).toNat * 14)).off + 6, none⟩ = some (.string ((rd_T45 l0 x5_1).f6)) ∧ w'.cell? ⟨(ad315.add ((x5_1).toNat * 14)).block, (ad315.add ((x5_1).toNat * 14)).off + 7, none⟩ = some (.int .i64 ((rd_T45 l0 x5_1).f7.f0)) ∧ w'.cell? ⟨(ad315.add ((x5_1).toNat * 14)).block, (ad315.add ((x5_1).toNat * 14)).off + 8, none⟩ = some (.int .i64 ((rd_T45 l0 x5_1).f7.f1)) ∧ w'.cell? ⟨(ad315.add ((x5_1).toNat * 14)).block, (ad315.add ((x5_1).toNat * 14)).off + 9, none⟩ = some (.int .i64 ((rd_T45 l0 x5_1).f7.f2)) ∧ w'.cell? ⟨(ad315.add ((x5_1).toNat * 14)).block, (ad315.add ((x5_1).toNat * 14)).off + 10, none⟩ = some (.bool ((rd_T45 l0 x5_1).f7.f3)) ∧ w'.cell? ⟨(ad315.add ((x5_1).toNat * 14)).block, (ad315.add ((x5_1).toNat * 14)).off + 11, none⟩ = some (.int .i64 ((rd_T45 l0 x5_1).f8)) ∧ w'.cell? ⟨(ad315.add ((x5_1).toNat * 14)).block, (ad315.add ((x5_1).toNat * 14)).off + 12, none⟩ = some (.string ((rd_T45 l0 x5_1).f9)) ∧ w'.cell? ⟨(ad315.add ((x5_1).toNat * 14)).block, (ad315.add ((x5_1).toNat * 14)).off + 13, none⟩ = some (.string ((rd_T45 l0 x5_1).f10)) ∧ w'.cell? (ad316.add ((x5_1).toNat * 14)) = some (.string ((rd_T45 l1 x5_1).f0)) ∧ w'.cell? ⟨(ad316.add ((x5_1).toNat * 14)).block, (ad316.add ((x5_1).toNat * 14)).off + 1, none⟩ = some (.int .i64 ((rd_T45 l1 x5_1).f1)) ∧ w'.cell? ⟨(ad316.add ((x5_1).toNat * 14)).block, (ad316.add ((x5_1).toNat * 14)).off + 2, none⟩ = some (.slice A316_2 ((rd_T45 l1 x5_1).f2).length c316_2) ∧ w'.cell? ⟨(ad316.add ((x5_1).toNat * 14)).block, (ad316.add ((x5_1).toNat * 14)).off + 3, none⟩ = some (.slice A316_3 ((rd_T45 l1 x5_1).f3).length c316_3) ∧ w'.cell? ⟨(ad316.add ((x5_1).toNat * 14)).block, (ad316.add ((x5_1).toNat * 14)).off + 4, none⟩ = some (.string ((rd_T45 l1 x5_1).f4)) ∧ w'.cell? ⟨(ad316.add ((x5_1).toNat * 14)).block, (ad316.add ((x5_1).toNat * 14)).off + 5, none⟩ = some (.string ((rd_T45 l1 x5_1).f5)) ∧ w'.cell? ⟨(ad316.add ((x5_1).toNat * 14)).block, (ad316.add ((x5_1).toNat * 14)).off + 6, none⟩ = some (.string ((rd_T45 l1 x5_1).f6)) ∧ w'.cell? ⟨(ad316.add ((x5_1).toNat * 14)).block, (ad316.add ((x5_1).toNat * 14)).off + 7, none⟩ = some (.int .i64 ((rd_T45 l1 x5_1).f7.f0)) ∧ w'.cell? ⟨(ad316.add ((x5_1).toNat * 14)).block, (ad316.add ((x5_1).toNat * 14)).off + 8, none⟩ = some (.int .i64 ((rd_T45 l1 x5_1).f7.f1)) ∧ w'.cell? ⟨(ad316.add ((x5_1).toNat * 14)).block, (ad316.add ((x5_1).toNat * 14)).off + 9, none⟩ = some (.int .i64 ((rd_T45 l1 x5_1).f7.f2)) ∧ w'.cell? ⟨(ad316.add ((x5_1).toNat * 14)).block, (ad316.add ((x5_1).toNat * 14)).off + 10, none⟩ = some (.bool ((rd_T45 l1 x5_1).f7.f3)) ∧ w'.cell? ⟨(ad316.add ((x5_1).toNat * 14)).block, (ad316.add ((x5_1).toNat * 14)).off + 11, none⟩ = some (.int .i64 ((rd_T45 l1 x5_1).f8)) ∧ w'.cell? ⟨(ad316.add ((x5_1).toNat * 14)).block, (ad316.add ((x5_1).toNat * 14)).off + 12, none⟩ = some (.string ((rd_T45 l1 x5_1).f9)) ∧ w'.cell? ⟨(ad316.add ((x5_1).toNat * 14)).block, (ad316.add ((x5_1).toNat * 14)).off + 13, none⟩ = some (.string ((rd_T45 l1 x5_1).f10))) (ds := []) #[false, false, false, false, false, false, false, false, false, false] (by kernel_rfl) rfl rfl ⟨(bcl HB.out hw315_0), (bcl HB.out hw315_1), (bcl HB.out hw315_2), (bcl HB.out hw315_3), (bcl HB.out hw315_4), (bcl HB.out hw315_5), (bcl HB.out hw315_6), (bcl HB.out hw315_7), (bcl HB.out hw315_8), (bcl HB.out hw315_9), (bcl HB.out hw315_10), (bcl HB.out hw315_11), (bcl HB.out hw315_12), (bcl HB.out hw315_13), (bcl HB.out hw316_0), (bcl HB.out hw316_1), (bcl HB.out hw316_2), (bcl HB.out hw316_3), (bcl HB.out hw316_4), (bcl HB.out hw316_5), (bcl HB.out hw316_6), (bcl HB.out hw316_7), (bcl HB.out hw316_8), (bcl HB.out hw316_9), (bcl HB.out hw316_10), (bcl HB.out hw316_11), (bcl HB.out hw316_12), (bcl HB.out hw316_13)⟩ (fun hHeld => ?_); refine with_tabW laws_eqEntryS.tab6 laws_eqEntryS.bits6 (fun HT_ HW_ => ?_)
  generalize wr.drew = w9 at HB HR315_2 HR315_3 HR316_2 HR316_3 hx315_0 hx315_1 hx315_10 hx315_11 hx315_12 hx315_13 hx315_2 hx315_3 hx315_4 hx315_5 hx315_6 hx315_7 hx315_8 hx315_9 hx316_0 hx316_1 hx316_10 hx316_11 hx316_12 hx316_13 hx316_2 hx316_3 hx316_4 hx316_5 hx316_6 hx316_7 hx316_8 hx316_9 hHeld ⊢
  refine pu_ 0 (some 17) #[true, false, false, false, false, false, false, false, false, false] HT_.out ?_
  refine pu_ 1 (some 18) #[true, true, false, false, false, false, false, false, false, false] HT_.out ?_
  refine pu_ 2 (some 19) #[true, true, true, false, false, false, false, false, false, false] HT_.out ?_
  refine pu_ 4 (some 21) #[true, true, true, false, true, false, false, false, false, false] HT_.out ?_
  refine pu_ 5 (some 22) #[true, true, true, false, true, true, false, false, false, false] HT_.out ?_
  refine pu_ 6 (some 23) #[true, true, true, false, true, true, true, false, false, false] HT_.out ?_
  refine ta5_ 3 (some 20) #[true, true, true, true, true, true, true, false, false, false] HT_.out HW_.out hHeld ?_
  refine ta5_ 7 (some 24) #[true, true, true, true, true, true, true, true, false, false] HT_.out HW_.out hHeld ?_
  refine on_ 8 (some 25) #[true, true, true, true, true, true, true, true, true, false] HT_.out (fun K hK => ?_)
  refine gs_ Tryd.func27 #[.agg #[.string ((rd_T45 l0 x5_1).f0), .int .i64 ((rd_T45 l0 x5_1).f1), .slice A315_2 ((rd_T45 l0 x5_1).f2).length c315_2, .slice A315_3 ((rd_T45 l0 x5_1).f3).length c315_3, .string ((rd_T45 l0 x5_1).f4), .string ((rd_T45 l0 x5_1).f5), .string ((rd_T45 l0 x5_1).f6), .int .i64 ((rd_T45 l0 x5_1).f7.f0), .int .i64 ((rd_T45 l0 x5_1).f7.f1), .int .i64 ((rd_T45 l0 x5_1).f7.f2), .bool ((rd_T45 l0 x5_1).f7.f3), .int .i64 ((rd_T45 l0 x5_1).f8), .string ((rd_T45 l0 x5_1).f9), .string ((rd_T45 l0 x5_1).f10)], .agg #[.string ((rd_T45 l1 x5_1).f0), .int .i64 ((rd_T45 l1 x5_1).f1), .slice A316_2 ((rd_T45 l1 x5_1).f2).length c316_2, .slice A316_3 ((rd_T45 l1 x5_1).f3).length c316_3, .string ((rd_T45 l1 x5_1).f4), .string ((rd_T45 l1 x5_1).f5), .string ((rd_T45 l1 x5_1).f6), .int .i64 ((rd_T45 l1 x5_1).f7.f0), .int .i64 ((rd_T45 l1 x5_1).f7.f1), .int .i64 ((rd_T45 l1 x5_1).f7.f2), .bool ((rd_T45 l1 x5_1).f7.f3), .int .i64 ((rd_T45 l1 x5_1).f8), .string ((rd_T45 l1 x5_1).f9), .string ((rd_T45 l1 x5_1).f10)]] ?_
  with_reducible refine (laws_eqEntry.calls k1 ((rd_T45 l0 x5_1).f0) ((rd_T45 l0 x5_1).f1) _ _ ((rd_T45 l0 x5_1).f2) _ _ ((rd_T45 l0 x5_1).f3) ((rd_T45 l0 x5_1).f4) ((rd_T45 l0 x5_1).f5) ((rd_T45 l0 x5_1).f6) ((rd_T45 l0 x5_1).f7.f0) ((rd_T45 l0 x5_1).f7.f1) ((rd_T45 l0 x5_1).f7.f2) ((rd_T45 l0 x5_1).f7.f3) ((rd_T45 l0 x5_1).f8) ((rd_T45 l0 x5_1).f9) ((rd_T45 l0 x5_1).f10) ((rd_T45 l1 x5_1).f0) ((rd_T45 l1 x5_1).f1) _ _ ((rd_T45 l1 x5_1).f2) _ _ ((rd_T45 l1 x5_1).f3) ((rd_T45 l1 x5_1).f4) ((rd_T45 l1 x5_1).f5) ((rd_T45 l1 x5_1).f6) ((rd_T45 l1 x5_1).f7.f0) ((rd_T45 l1 x5_1).f7.f1) ((rd_T45 l1 x5_1).f7.f2) ((rd_T45 l1 x5_1).f7.f3) ((rd_T45 l1 x5_1).f8) ((rd_T45 l1 x5_1).f9) ((rd_T45 l1 x5_1).f10) _ _ ?side1 ?side2 ?side3 ?side4 ?side5 ?side6 ?side7 ?side8 A7.out).mono ?_
  (case side1 => repeat (first | exact (Kd.C_below HR315_2.out HB.out) | (with_reducible refine Kd.C_alloc ?_ _) | (with_reducible refine Kd.C_drewN ?_ _) | (with_reducible refine Kd.C_drew ?_)))
  (case side2 => exact HC315_2.out)
  (case side3 => repeat (first | exact (Kd.C_below HR315_3.out HB.out) | (with_reducible refine Kd.C_alloc ?_ _) | (with_reducible refine Kd.C_drewN ?_ _) | (with_reducible refine Kd.C_drew ?_)))
  (case side4 => exact HC315_3.out)
  (case side5 => repeat (first | exact (Kd.C_below HR316_2.out HB.out) | (with_reducible refine Kd.C_alloc ?_ _) | (with_reducible refine Kd.C_drewN ?_ _) | (with_reducible refine Kd.C_drew ?_)))
  (case side6 => exact HC316_2.out)
  (case side7 => repeat (first | exact (Kd.C_below HR316_3.out HB.out) | (with_reducible refine Kd.C_alloc ?_ _) | (with_reducible refine Kd.C_drewN ?_ _) | (with_reducible refine Kd.C_drew ?_)))
  (case side8 => exact HC316_3.out)
  rintro e w10 ⟨rfl, hb⟩
  refine ⟨_, rfl, ?_⟩
  replace HB := Aside0.mk (below_step au36 hb)
  (try clear hb)
  refine hK.out _ _ ⟨(bcl HB.out hw315_0), (bcl HB.out hw315_1), (bcl HB.out hw315_2), (bcl HB.out hw315_3), (bcl HB.out hw315_4), (bcl HB.out hw315_5), (bcl HB.out hw315_6), (bcl HB.out hw315_7), (bcl HB.out hw315_8), (bcl HB.out hw315_9), (bcl HB.out hw315_10), (bcl HB.out hw315_11), (bcl HB.out hw315_12), (bcl HB.out hw315_13), (bcl HB.out hw316_0), (bcl HB.out hw316_1), (bcl HB.out hw316_2), (bcl HB.out hw316_3), (bcl HB.out hw316_4), (bcl HB.out hw316_5), (bcl HB.out hw316_6), (bcl HB.out hw316_7), (bcl HB.out hw316_8), (bcl HB.out hw316_9), (bcl HB.out hw316_10), (bcl HB.out hw316_11), (bcl HB.out hw316_12), (bcl HB.out hw316_13)⟩ (fun hHeld => ?_)
  clear hK K
  refine no_ (some 25) ?_
  refine pu_ 9 (some 26) #[true, true, true, true, true, true, true, true, true, true] HT_.out ?_
  refine done_ (done_of HT_.out (by kernel_rfl)) ?_
  try go_wp2
  first
  |
   have g_ : decide (x5_1 < (l1.length : Int)) = true := c6b0
   clear g_
   go_roundg k1
   case measure => have := HK1.out; omega
   case rel => exact ⟨(wrap64 (x5_1 + 1)), au72, H', ⟨by have := HK1.out; omega⟩, ⟨by repeat (first | (with_reducible first | exact HB.out | apply below_alloc | apply pw_below_drewN | apply below_drew1) | exact HB.out)⟩⟩
  |
   go_ret
   exact ax1) : P := h
set_option maxHeartbeats 8000000 in
set_option maxRecDepth 100000 in
theorem laws_eqEntryS.calls (k : Nat) (A0 : Option Addr) (c0 : Nat) (l0 : List (S45)) (A1 : Option Addr) (c1 : Nat) (l1 : List (S45)) (r : Bool) (w : World) (hr0 : Kd.C k45 w A0 l0.length l0) (hc0 : l0.length ≤ c0) (hr1 : Kd.C k45 w A1 l1.length l1) (hc1 : l1.length ≤ c1) (h : laws_eqEntryS.f k l0 l1 = some r) :
  Calls Tryd.prog 19 #[.slice A0 l0.length c0, .slice A1 l1.length c1] w fun e w' => e = .returned (.bool r) ∧ Below w.heap.size w w' := by
 have hu45 := Tryd.underlying45
 have HR0 := Aside0.mk hr0
 have HC0 := Aside0.mk hc0
 clear hr0 hc0
 have HR1 := Aside0.mk hr1
 have HC1 := Aside0.mk hc1
 clear hr1 hc1
 have HB := Aside0.mk (Below.refl w.heap.size w)
 have H : (if (l0.length : Int) = (l1.length : Int) then (laws_eqEntryS.l0 k l0 l1 0) else (some false)) = some r := h
 clear h
 by_cases c3 : (l0.length : Int) = (l1.length : Int)
 ·
  rw [if_pos c3] at H
  have c3b0 : ((l0.length : Int) == (l1.length : Int)) = true := beq_iff_eq.mpr c3
  have c3b1 : ((l0.length : Int) != (l1.length : Int)) = false := bne_eq_false_iff_eq.mpr c3
  have c3b2 : (l0.length == l1.length) = true := by first | simpa using c3 | (simp at c3 ⊢; omega)
  clear c3
  have H' := Aside0.mk H
  clear H
  go_enter Tryd.func19, Tryd.ntmps19
  go_wp2
  go_loopg [5] k (fun kq v5 w' => ∃ (x5_1 : Int), v5 = .int .i64 x5_1 ∧ Aside0 (laws_eqEntryS.l0 kq l0 l1 x5_1 = some r) ∧ Aside0 (kq ≤ k) ∧ Aside0 (Below w.heap.size w w'))
  case atStart => exact ⟨(0), au72, H', ⟨Nat.le_refl _⟩, ⟨by repeat (first | (with_reducible first | exact HB.out | apply below_alloc | apply pw_below_drewN | apply below_drew1) | exact HB.out)⟩⟩
  case round =>
   clear H'
   try clear c1
   try clear p2
   try clear c3
   try clear c3b0
   try clear c3b1
   try clear c3b2
   obtain ⟨x5_1, rfl, HA, HK1, HB⟩ := hrel
   cases gk with
   | zero => exact absurd HA.out (by simp [laws_eqEntryS.l0])
   | succ k1 =>
    have H := HA.out
    clear HA
    simp only [laws_eqEntryS.l0] at H
    by_cases c4 : x5_1 < (l0.length : Int)
    ·
     rw [if_pos c4] at H
     have c4b0 : decide (x5_1 < (l0.length : Int)) = true := decide_eq_true c4
     clear c4
     by_cases c5 : 0 ≤ x5_1
     ·
      rw [if_pos c5] at H
      have c5b0 : decide (0 ≤ x5_1) = true := decide_eq_true c5
      clear c5
      by_cases c6 : x5_1 < (l1.length : Int)
      ·
       rw [if_pos c6] at H
       have c6b0 : decide (x5_1 < (l1.length : Int)) = true := decide_eq_true c6
       clear c6
       replace H := Option.bind_eq_some_iff.mp H
       obtain ⟨t317, A70, H⟩ := H
       try dsimp only at H
       have A7 := Aside0.mk A70
       clear A70
       by_cases c8 : t317 = true
       ·
        subst c8
        replace H := (if_pos rfl).symm.trans H
        have H' := Aside0.mk H
        clear H
        exact laws_eqEntryS.L0
       ·
        replace c8 := Bool.eq_false_iff.mpr c8
        subst c8
        replace H := (if_neg (show ¬ (false = true) by decide)).symm.trans H
        obtain rfl := Option.some.inj H
        exact laws_eqEntryS.L0
      ·
       rw [if_neg c6] at H
       exact absurd H (by simp)
     ·
      rw [if_neg c5] at H
      exact absurd H (by simp)
    ·
     rw [if_neg c4] at H
     have c4b0 : decide (x5_1 < (l0.length : Int)) = false := decide_eq_false c4
     clear c4
     obtain rfl := Option.some.inj H
     go_wp2
     go_ret
     exact ax1
 ·
  rw [if_neg c3] at H
  have c3b0 : ((l0.length : Int) == (l1.length : Int)) = false := beq_eq_false_iff_ne.mpr c3
  have c3b1 : ((l0.length : Int) != (l1.length : Int)) = true := bne_iff_ne.mpr c3
  have c3b2 : (l0.length == l1.length) = false := by first | simpa using c3 | (simp at c3 ⊢; omega)
  obtain rfl := Option.some.inj H
  go_enter Tryd.func19, Tryd.ntmps19
  go_wp2
  go_ret
  exact ax1


/-! ### laws_eqLibrary: function 9 -/
def laws_eqLibrary.f (k : Nat) (l0_0 : List (S45)) (l1_0 : List (S45)) : Option (Bool) := (laws_eqEntryS.f k l0_0 l1_0).bind fun t320 => (if t320 = true then (some true) else (some false))
theorem laws_eqLibrary.mono : ∀ a0 a1 k, LeO (laws_eqLibrary.f k a0 a1) (laws_eqLibrary.f (k + 1) a0 a1) := by
 intro a0 a1 k
 unfold laws_eqLibrary.f
 repeat' first
   | (with_reducible exact laws_eqEntryS.mono _ _ _)
   | (with_reducible exact LeO.refl _)
   | (with_reducible exact LeO.none _)
   | (with_reducible refine LeO.ite ?_ ?_)
   | (with_reducible refine LeO.bind ?_ (fun _ => ?_))
   | exact laws_eqEntryS.mono _ _ _
   | exact LeO.none _
   | refine LeO.ite ?_ ?_
   | refine LeO.bind ?_ (fun _ => ?_)
set_option maxRecDepth 100000 in
theorem laws_eqLibrary.L0 {P : Prop} (h : P := by
  go_enter Tryd.func9, Tryd.ntmps9
  go_wp2_with (first | ((with_reducible refine gate_dst (N := 2) rfl ?_); refine box_event ?hg (N := 2) ?hd (cs := #[.slice A0_0 l0_0.length c0_0]) (t := 31) ?hr ?_; (case hd => rfl); (case hg => rfl); (case hr => first | (go_simp; done) | (go_simp; rfl)); intro gb318 hg w11 hbox hb; have BK318 := Aside0.mk (hbox); have GW318 := Aside0.mk (bsz hg au36); have GE318 := Aside0.mk (bsz hg au36); replace HB := Aside0.mk (below_step au36 hb); clear hb hbox hg) | ((with_reducible refine gate_dst (N := 3) rfl ?_); refine box_event ?hg (N := 3) ?hd (cs := #[.slice A1_0 l1_0.length c1_0]) (t := 31) ?hr ?_; (case hd => rfl); (case hg => rfl); (case hr => first | (go_simp; done) | (go_simp; rfl)); intro gb319 hg w12 hbox hb; have BK319 := Aside0.mk (hbox); have GW319 := Aside0.mk (bsz hg au33); have GE319 := Aside0.mk (bsz hg au33); replace HB := Aside0.mk (below_step au33 hb); have NB318_319 := Aside0.mk (bne (g := gb318) hg au61); have NB319_318 := Aside0.mk (ben (g := gb318) hg au61); replace BK318 := Aside0.mk (blk_below (g := gb318) au61 hb); clear hb hbox hg; have hnb13 := NB318_319.out; have hnc13 := NB319_318.out; have hcz14_0 : w12.cell? ⟨gb318, 0, none⟩ = some (.slice A0_0 l0_0.length c0_0) := (blk_cell BK318.out 0).trans rfl; have hfz14_0 := blk_frozen BK318.out 0; have hcz15_0 : w12.cell? ⟨gb319, 0, none⟩ = some (.slice A1_0 l1_0.length c1_0) := (blk_cell BK319.out 0).trans rfl; have hfz15_0 := blk_frozen BK319.out 0) | ((with_reducible refine gate_callee (f := 19) rfl ?_); refine goesL_ (some 9) rfl rfl Tryd.func19 (by kernel_rfl) rfl #[.slice A0_0 l0_0.length c0_0, .slice A1_0 l1_0.length c1_0] rfl au35 ?_; (with_reducible refine (laws_eqEntryS.calls k _ _ l0_0 _ _ l1_0 _ _ ?side1 ?side2 ?side3 ?side4 A3.out).mono ?_); (case side1 => repeat (first | exact (Kd.C_below HR0_0.out HB.out) | (with_reducible refine Kd.C_alloc ?_ _) | (with_reducible refine Kd.C_drewN ?_ _) | (with_reducible refine Kd.C_drew ?_))); (case side2 => exact HC0_0.out); (case side3 => repeat (first | exact (Kd.C_below HR1_0.out HB.out) | (with_reducible refine Kd.C_alloc ?_ _) | (with_reducible refine Kd.C_drewN ?_ _) | (with_reducible refine Kd.C_drew ?_))); (case side4 => exact HC1_0.out); rintro e w16 ⟨rfl, hb⟩; refine ⟨_, rfl, ?_⟩; replace BK318 := Aside0.mk (blk_below (g := gb318) au61 hb); replace BK319 := Aside0.mk (blk_below (g := gb319) (by (with_reducible repeat (first | refine blk_drewN ?_ _ | refine blk_drew ?_ | refine blk_alloc ?_ _)); exact BK319.out) hb); replace HB := Aside0.mk (below_step (by repeat (first | (with_reducible first | exact HB.out | apply below_alloc | apply pw_below_drewN | apply below_drew1 | refine below_set ?_ GE318.out | refine below_set ?_ GE319.out) | exact HB.out)) hb); (try clear hb)))
  go_ret
  exact ⟨by first | rfl | (simp [errW_none, errW_some] <;> rfl) | (simp [*, errW_none, errW_some] <;> rfl), by repeat (first | (with_reducible first | exact HB.out | apply below_alloc | apply pw_below_drewN | apply below_drew1 | refine below_set ?_ GE318.out | refine below_set ?_ GE319.out) | exact HB.out)⟩) : P := h
set_option maxHeartbeats 8000000 in
set_option maxRecDepth 100000 in
theorem laws_eqLibrary.calls (k : Nat) (A0_0 : Option Addr) (c0_0 : Nat) (l0_0 : List (S45)) (A1_0 : Option Addr) (c1_0 : Nat) (l1_0 : List (S45)) (r : Bool) (w : World) (hr0_0 : Kd.C k45 w A0_0 l0_0.length l0_0) (hc0_0 : l0_0.length ≤ c0_0) (hr1_0 : Kd.C k45 w A1_0 l1_0.length l1_0) (hc1_0 : l1_0.length ≤ c1_0) (h : laws_eqLibrary.f k l0_0 l1_0 = some r) :
  Calls Tryd.prog 9 #[.agg #[.slice A0_0 l0_0.length c0_0], .agg #[.slice A1_0 l1_0.length c1_0]] w fun e w' => e = .returned (.bool r) ∧ Below w.heap.size w w' := by
 have hu31 := Tryd.underlying31
 have HR0_0 := Aside0.mk hr0_0
 have HC0_0 := Aside0.mk hc0_0
 clear hr0_0 hc0_0
 have HR1_0 := Aside0.mk hr1_0
 have HC1_0 := Aside0.mk hc1_0
 clear hr1_0 hc1_0
 have HB := Aside0.mk (Below.refl w.heap.size w)
 have H : ((laws_eqEntryS.f k l0_0 l1_0).bind fun t320 => (if t320 = true then (some true) else (some false))) = some r := h
 clear h
 replace H := Option.bind_eq_some_iff.mp H
 obtain ⟨t320, A30, H⟩ := H
 try dsimp only at H
 have A3 := Aside0.mk A30
 clear A30
 by_cases c4 : t320 = true
 ·
  subst c4
  replace H := (if_pos rfl).symm.trans H
  obtain rfl := Option.some.inj H
  exact laws_eqLibrary.L0
 ·
  replace c4 := Bool.eq_false_iff.mpr c4
  subst c4
  replace H := (if_neg (show ¬ (false = true) by decide)).symm.trans H
  obtain rfl := Option.some.inj H
  exact laws_eqLibrary.L0

end Go.Proofs.YthhdodlpbpagfaaDoor.G
