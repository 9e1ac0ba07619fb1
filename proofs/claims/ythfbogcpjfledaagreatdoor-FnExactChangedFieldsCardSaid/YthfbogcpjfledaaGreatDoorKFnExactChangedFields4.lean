/- Texts of this session for the law FnExactChangedFields, put together by a program (merge.py): each ends with its namespace; conditions stand with each theorem. -/
import Derived.Test.YthfbogcpjfledaaGreatDoorKFnExactChangedFields2
import Derived.Test.YthfbogcpjfledaaGreatDoorKFnExactChangedFields3
import Derived.Shelf.Strings.Builder1
import Derived.Shelf.Strings.Builder2
import Derived.Shelf.Strings.OnBuilder
import Derived.Shelf.Small.Utf8
import Derived.Shelf.Small.Strs
import Derived.Shelf.Strconv.Itoa0
import Derived.Shelf.Strconv.Itoa1
import Derived.Shelf.LaysM
import Derived.Shelf.Strconv.Itoa2
import Derived.Shelf.Strconv.Itoa3
import Derived.Shelf.Strings.Search1
import Derived.Shelf.Strings.Search2
import Derived.Shelf.Strings.Search3
import Derived.Shelf.Strings.Count
import Derived.Shelf.Strings.Split
import Derived.Shelf.Strings.SplitShaped
import Derived.Ground.SlgfProg
import Derived.Shelf.SlicesE.IndexFunc
import Derived.Shelf.SlicesE.DeleteFunc
import Derived.Test.YthfbogcpjfledaaGreatDoorProg
namespace Go.Proofs.YthfbogcpjfledaaGreatDoor.G
open Go.RowKit Go.Proofs.YthfbogcpjfledaaGreatDoorW.PrintWords Go.Proofs.YthfbogcpjfledaaGreatDoorW.PrintLast Go.Proofs.YthfbogcpjfledaaGreatDoorW.PrintMore
open Go.Proofs.YthfbogcpjfledaaGreatDoor.Gl Go.Proofs.YthfbogcpjfledaaGreatDoor.Ext
attribute [local go_sem] max2_int min2_int max_two min_two max_three min_three max_four min_four   -- for this text's walks alone
set_option linter.unusedVariables false
set_option linter.unusedSimpArgs false
mutual
def spec_ChangedFields.j0 : Nat → List ByteArray → Bool → ByteArray → Int → List (S62) → List (S62) → ByteArray → ByteArray → ByteArray → Int → Int → Int → Bool → Int → ByteArray → ByteArray → ByteArray → Int → List (S62) → List (S62) → ByteArray → ByteArray → ByteArray → Int → Int → Int → Bool → Int → ByteArray → ByteArray → Option (List ByteArray × Bool)
 | 0, _, _, _, _, _, _, _, _, _, _, _, _, _, _, _, _, _, _, _, _, _, _, _, _, _, _, _, _, _, _ => none
 | k + 1, x6, XB, gY, j4, ki, kj, kl, km, kn, ko, kr, ks, ku, kv, kw, j5, gZ, j6, kx, ky, kz, kA, kB, kC, kD, kE, kF, kG, kH, j7 => if XB = true then (some (x6, false)) else ((spec_l4Fields.f).bind fun dx => (spec_ChangedFields.l0 k x6 dx 0 gY j4 ki kj kl km kn ko kr ks ku kv kw j5 gZ j6 kx ky kz kA kB kC kD kE kF kG kH j7))
def spec_ChangedFields.l0 : Nat → List ByteArray → List ByteArray → Int → ByteArray → Int → List (S62) → List (S62) → ByteArray → ByteArray → ByteArray → Int → Int → Int → Bool → Int → ByteArray → ByteArray → ByteArray → Int → List (S62) → List (S62) → ByteArray → ByteArray → ByteArray → Int → Int → Int → Bool → Int → ByteArray → ByteArray → Option (List ByteArray × Bool)
 | 0, _, _, _, _, _, _, _, _, _, _, _, _, _, _, _, _, _, _, _, _, _, _, _, _, _, _, _, _, _, _, _ => none
 | k + 1, x6, x7, x8, gY, j4, ki, kj, kl, km, kn, ko, kr, ks, ku, kv, kw, j5, gZ, j6, kx, ky, kz, kA, kB, kC, kD, kE, kF, kG, kH, j7 => if x8 < (x7.length : Int) then (if 0 ≤ x8 then ((spec_l4Field.f k gY j4 ki kj kl km kn ko kr ks ku kv kw j5 (rdOf ByteArray.empty x7 x8)).bind fun a08 => ((spec_l4Field.f k gZ j6 kx ky kz kA kB kC kD kE kF kG kH j7 (rdOf ByteArray.empty x7 x8)).bind fun Mt => (if a08.1.toList = Mt.1.toList then (spec_ChangedFields.l0 k x6 x7 (wrap64 (x8 + 1)) gY j4 ki kj kl km kn ko kr ks ku kv kw j5 gZ j6 kx ky kz kA kB kC kD kE kF kG kH j7) else (if x6.length < 8796093022208 then (spec_ChangedFields.l0 k (x6 ++ [rdOf ByteArray.empty x7 x8]) x7 (wrap64 (x8 + 1)) gY j4 ki kj kl km kn ko kr ks ku kv kw j5 gZ j6 kx ky kz kA kB kC kD kE kF kG kH j7) else (none))))) else (none)) else (if j5.toList = j7.toList then (spec_ChangedFields.j2 k x6 gY j4 ki kj kl km kn ko kr ks ku kv kw j5 gZ j6 kx ky kz kA kB kC kD kE kF kG kH j7) else (if x6.length < 8796093022208 then (spec_ChangedFields.j2 k (x6 ++ [(⟨#[99, 114, 111, 115, 115]⟩ : ByteArray)]) gY j4 ki kj kl km kn ko kr ks ku kv kw j5 gZ j6 kx ky kz kA kB kC kD kE kF kG kH j7) else (none)))
def spec_ChangedFields.j2 : Nat → List ByteArray → ByteArray → Int → List (S62) → List (S62) → ByteArray → ByteArray → ByteArray → Int → Int → Int → Bool → Int → ByteArray → ByteArray → ByteArray → Int → List (S62) → List (S62) → ByteArray → ByteArray → ByteArray → Int → Int → Int → Bool → Int → ByteArray → ByteArray → Option (List ByteArray × Bool)
 | 0, _, _, _, _, _, _, _, _, _, _, _, _, _, _, _, _, _, _, _, _, _, _, _, _, _, _, _, _, _ => none
 | k + 1, x6, gY, j4, ki, kj, kl, km, kn, ko, kr, ks, ku, kv, kw, j5, gZ, j6, kx, ky, kz, kA, kB, kC, kD, kE, kF, kG, kH, j7 => if j4 = j6 then (if gY.toList = gZ.toList then (some (x6, true)) else (if x6.length < 8796093022208 then (some ((x6 ++ [(⟨#[107, 101, 121]⟩ : ByteArray)]), true)) else (none))) else (if x6.length < 8796093022208 then ((some (x6 ++ [(⟨#[107, 105, 110, 100]⟩ : ByteArray)] : List ByteArray)).bind fun qj => (if gY.toList = gZ.toList then (some (qj, true)) else (if qj.length < 8796093022208 then (some ((qj ++ [(⟨#[107, 101, 121]⟩ : ByteArray)]), true)) else (none)))) else (none))
end
def spec_ChangedFields.f (k : Nat) (ab : ByteArray) (aa : Int) (ai : List (S62)) (aj : List (S62)) (ak : ByteArray) (an : ByteArray) (ap : ByteArray) (ar : Int) (av : Int) (aw : Int) (af : Bool) (ac : Int) (ae : ByteArray) (ag : ByteArray) (aR : ByteArray) (aQ : Int) (aM : List (S62)) (aN : List (S62)) (aZ : ByteArray) (ba : ByteArray) (bb : ByteArray) (aW : Int) (aX : Int) (aY : Int) (aG : Bool) (aH : Int) (aI : ByteArray) (aE : ByteArray) : Option (List ByteArray × Bool) := (some (([] : List ByteArray) : List ByteArray)).bind fun pM => ((spec_l4Entry.f k ab aa ai aj ak an ap ar av aw af ac ae ag).bind fun yM => (if yM = true then ((spec_l4Entry.f k aR aQ aM aN aZ ba bb aW aX aY aG aH aI aE).bind fun uY => (spec_ChangedFields.j0 k pM (!uY) ab aa ai aj ak an ap ar av aw af ac ae ag aR aQ aM aN aZ ba bb aW aX aY aG aH aI aE)) else (spec_ChangedFields.j0 k pM true ab aa ai aj ak an ap ar av aw af ac ae ag aR aQ aM aN aZ ba bb aW aX aY aG aH aI aE)))
theorem spec_ChangedFields.mono_l : ∀ k, (∀ y0 y1 y2 y3 y4 y5 y6 y7 y8 y9 dZ e7 e8 e9 ea gf gg gh gi gj gm gn gp gq gr gt gu gv gw kY, LeO (spec_ChangedFields.j0 k y0 y1 y2 y3 y4 y5 y6 y7 y8 y9 dZ e7 e8 e9 ea gf gg gh gi gj gm gn gp gq gr gt gu gv gw kY) (spec_ChangedFields.j0 (k + 1) y0 y1 y2 y3 y4 y5 y6 y7 y8 y9 dZ e7 e8 e9 ea gf gg gh gi gj gm gn gp gq gr gt gu gv gw kY)) ∧ (∀ y0 y1 y2 y3 y4 y5 y6 y7 y8 y9 dZ e7 e8 e9 ea gf gg gh gi gj gm gn gp gq gr gt gu gv gw kY uZ, LeO (spec_ChangedFields.l0 k y0 y1 y2 y3 y4 y5 y6 y7 y8 y9 dZ e7 e8 e9 ea gf gg gh gi gj gm gn gp gq gr gt gu gv gw kY uZ) (spec_ChangedFields.l0 (k + 1) y0 y1 y2 y3 y4 y5 y6 y7 y8 y9 dZ e7 e8 e9 ea gf gg gh gi gj gm gn gp gq gr gt gu gv gw kY uZ)) ∧ (∀ y0 y1 y2 y3 y4 y5 y6 y7 y8 y9 dZ e7 e8 e9 ea gf gg gh gi gj gm gn gp gq gr gt gu gv gw, LeO (spec_ChangedFields.j2 k y0 y1 y2 y3 y4 y5 y6 y7 y8 y9 dZ e7 e8 e9 ea gf gg gh gi gj gm gn gp gq gr gt gu gv gw) (spec_ChangedFields.j2 (k + 1) y0 y1 y2 y3 y4 y5 y6 y7 y8 y9 dZ e7 e8 e9 ea gf gg gh gi gj gm gn gp gq gr gt gu gv gw))
 | 0 => ⟨fun _ _ _ _ _ _ _ _ _ _ _ _ _ _ _ _ _ _ _ _ _ _ _ _ _ _ _ _ _ _ r h => by simp [spec_ChangedFields.j0] at h, fun _ _ _ _ _ _ _ _ _ _ _ _ _ _ _ _ _ _ _ _ _ _ _ _ _ _ _ _ _ _ _ r h => by simp [spec_ChangedFields.l0] at h, fun _ _ _ _ _ _ _ _ _ _ _ _ _ _ _ _ _ _ _ _ _ _ _ _ _ _ _ _ _ r h => by simp [spec_ChangedFields.j2] at h⟩
 | k + 1 => by
  obtain ⟨ih0, ih1, ih2⟩ := spec_ChangedFields.mono_l k;refine ⟨?_, ?_, ?_⟩
  ·
   intro y0 y1 y2 y3 y4 y5 y6 y7 y8 y9 dZ e7 e8 e9 ea gf gg gh gi gj gm gn gp gq gr gt gu gv gw kY;unfold spec_ChangedFields.j0
   repeat' first
   | (with_reducible exact ih0 _ _ _ _ _ _ _ _ _ _ _ _ _ _ _ _ _ _ _ _ _ _ _ _ _ _ _ _ _ _)
   | (with_reducible exact ih1 _ _ _ _ _ _ _ _ _ _ _ _ _ _ _ _ _ _ _ _ _ _ _ _ _ _ _ _ _ _ _)
   | (with_reducible exact ih2 _ _ _ _ _ _ _ _ _ _ _ _ _ _ _ _ _ _ _ _ _ _ _ _ _ _ _ _ _)
   | (with_reducible exact spec_l4Entry.mono _ _ _ _ _ _ _ _ _ _ _ _ _ _ _)
   | (with_reducible exact spec_l4Field.mono _ _ _ _ _ _ _ _ _ _ _ _ _ _ _ _)
   | (with_reducible exact LeO.refl _)
   | (with_reducible exact LeO.none _)
   | (with_reducible refine LeO.ite ?_ ?_)
   | (with_reducible refine LeO.bind ?_ (fun _ => ?_))
   | exact ih0 _ _ _ _ _ _ _ _ _ _ _ _ _ _ _ _ _ _ _ _ _ _ _ _ _ _ _ _ _ _
   | exact ih1 _ _ _ _ _ _ _ _ _ _ _ _ _ _ _ _ _ _ _ _ _ _ _ _ _ _ _ _ _ _ _
   | exact ih2 _ _ _ _ _ _ _ _ _ _ _ _ _ _ _ _ _ _ _ _ _ _ _ _ _ _ _ _ _
   | exact spec_l4Entry.mono _ _ _ _ _ _ _ _ _ _ _ _ _ _ _
   | exact spec_l4Field.mono _ _ _ _ _ _ _ _ _ _ _ _ _ _ _ _
   | exact LeO.none _
   | refine LeO.ite ?_ ?_
   | refine LeO.bind ?_ (fun _ => ?_)
  ·
   intro y0 y1 y2 y3 y4 y5 y6 y7 y8 y9 dZ e7 e8 e9 ea gf gg gh gi gj gm gn gp gq gr gt gu gv gw kY uZ;unfold spec_ChangedFields.l0
   repeat' first
   | (with_reducible exact ih0 _ _ _ _ _ _ _ _ _ _ _ _ _ _ _ _ _ _ _ _ _ _ _ _ _ _ _ _ _ _)
   | (with_reducible exact ih1 _ _ _ _ _ _ _ _ _ _ _ _ _ _ _ _ _ _ _ _ _ _ _ _ _ _ _ _ _ _ _)
   | (with_reducible exact ih2 _ _ _ _ _ _ _ _ _ _ _ _ _ _ _ _ _ _ _ _ _ _ _ _ _ _ _ _ _)
   | (with_reducible exact spec_l4Entry.mono _ _ _ _ _ _ _ _ _ _ _ _ _ _ _)
   | (with_reducible exact spec_l4Field.mono _ _ _ _ _ _ _ _ _ _ _ _ _ _ _ _)
   | (with_reducible exact LeO.refl _)
   | (with_reducible exact LeO.none _)
   | (with_reducible refine LeO.ite ?_ ?_)
   | (with_reducible refine LeO.bind ?_ (fun _ => ?_))
   | exact ih0 _ _ _ _ _ _ _ _ _ _ _ _ _ _ _ _ _ _ _ _ _ _ _ _ _ _ _ _ _ _
   | exact ih1 _ _ _ _ _ _ _ _ _ _ _ _ _ _ _ _ _ _ _ _ _ _ _ _ _ _ _ _ _ _ _
   | exact ih2 _ _ _ _ _ _ _ _ _ _ _ _ _ _ _ _ _ _ _ _ _ _ _ _ _ _ _ _ _
   | exact spec_l4Entry.mono _ _ _ _ _ _ _ _ _ _ _ _ _ _ _
   | exact spec_l4Field.mono _ _ _ _ _ _ _ _ _ _ _ _ _ _ _ _
   | exact LeO.none _
   | refine LeO.ite ?_ ?_
   | refine LeO.bind ?_ (fun _ => ?_)
  ·
   intro y0 y1 y2 y3 y4 y5 y6 y7 y8 y9 dZ e7 e8 e9 ea gf gg gh gi gj gm gn gp gq gr gt gu gv gw;unfold spec_ChangedFields.j2
   repeat' first
   | (with_reducible exact ih0 _ _ _ _ _ _ _ _ _ _ _ _ _ _ _ _ _ _ _ _ _ _ _ _ _ _ _ _ _ _)
   | (with_reducible exact ih1 _ _ _ _ _ _ _ _ _ _ _ _ _ _ _ _ _ _ _ _ _ _ _ _ _ _ _ _ _ _ _)
   | (with_reducible exact ih2 _ _ _ _ _ _ _ _ _ _ _ _ _ _ _ _ _ _ _ _ _ _ _ _ _ _ _ _ _)
   | (with_reducible exact spec_l4Entry.mono _ _ _ _ _ _ _ _ _ _ _ _ _ _ _)
   | (with_reducible exact spec_l4Field.mono _ _ _ _ _ _ _ _ _ _ _ _ _ _ _ _)
   | (with_reducible exact LeO.refl _)
   | (with_reducible exact LeO.none _)
   | (with_reducible refine LeO.ite ?_ ?_)
   | (with_reducible refine LeO.bind ?_ (fun _ => ?_))
   | exact ih0 _ _ _ _ _ _ _ _ _ _ _ _ _ _ _ _ _ _ _ _ _ _ _ _ _ _ _ _ _ _
   | exact ih1 _ _ _ _ _ _ _ _ _ _ _ _ _ _ _ _ _ _ _ _ _ _ _ _ _ _ _ _ _ _ _
   | exact ih2 _ _ _ _ _ _ _ _ _ _ _ _ _ _ _ _ _ _ _ _ _ _ _ _ _ _ _ _ _
   | exact spec_l4Entry.mono _ _ _ _ _ _ _ _ _ _ _ _ _ _ _
   | exact spec_l4Field.mono _ _ _ _ _ _ _ _ _ _ _ _ _ _ _ _
   | exact LeO.none _
   | refine LeO.ite ?_ ?_
   | refine LeO.bind ?_ (fun _ => ?_)
theorem spec_ChangedFields.mono : ∀ a0 a1 a2 a3 a4 a5 a6 a7 a8 a9 cP cQ cR cS eU kZ l4 l5 l6 l7 a20 a21 a22 a23 l8 a25 l9 lc k, LeO (spec_ChangedFields.f k a0 a1 a2 a3 a4 a5 a6 a7 a8 a9 cP cQ cR cS eU kZ l4 l5 l6 l7 a20 a21 a22 a23 l8 a25 l9 lc) (spec_ChangedFields.f (k + 1) a0 a1 a2 a3 a4 a5 a6 a7 a8 a9 cP cQ cR cS eU kZ l4 l5 l6 l7 a20 a21 a22 a23 l8 a25 l9 lc) := by
 intro a0 a1 a2 a3 a4 a5 a6 a7 a8 a9 cP cQ cR cS eU kZ l4 l5 l6 l7 a20 a21 a22 a23 l8 a25 l9 lc k;obtain ⟨ih0, ih1, ih2⟩ := spec_ChangedFields.mono_l k;unfold spec_ChangedFields.f
 repeat' first
   | (with_reducible exact ih0 _ _ _ _ _ _ _ _ _ _ _ _ _ _ _ _ _ _ _ _ _ _ _ _ _ _ _ _ _ _)
   | (with_reducible exact ih1 _ _ _ _ _ _ _ _ _ _ _ _ _ _ _ _ _ _ _ _ _ _ _ _ _ _ _ _ _ _ _)
   | (with_reducible exact ih2 _ _ _ _ _ _ _ _ _ _ _ _ _ _ _ _ _ _ _ _ _ _ _ _ _ _ _ _ _)
   | (with_reducible exact spec_l4Entry.mono _ _ _ _ _ _ _ _ _ _ _ _ _ _ _)
   | (with_reducible exact spec_l4Field.mono _ _ _ _ _ _ _ _ _ _ _ _ _ _ _ _)
   | (with_reducible exact LeO.refl _)
   | (with_reducible exact LeO.none _)
   | (with_reducible refine LeO.ite ?_ ?_)
   | (with_reducible refine LeO.bind ?_ (fun _ => ?_))
   | exact ih0 _ _ _ _ _ _ _ _ _ _ _ _ _ _ _ _ _ _ _ _ _ _ _ _ _ _ _ _ _ _
   | exact ih1 _ _ _ _ _ _ _ _ _ _ _ _ _ _ _ _ _ _ _ _ _ _ _ _ _ _ _ _ _ _ _
   | exact ih2 _ _ _ _ _ _ _ _ _ _ _ _ _ _ _ _ _ _ _ _ _ _ _ _ _ _ _ _ _
   | exact spec_l4Entry.mono _ _ _ _ _ _ _ _ _ _ _ _ _ _ _
   | exact spec_l4Field.mono _ _ _ _ _ _ _ _ _ _ _ _ _ _ _ _
   | exact LeO.none _
   | refine LeO.ite ?_ ?_
   | refine LeO.bind ?_ (fun _ => ?_)
def spec_ChangedFields.T8 : Bool × List (List Nat × List Nat) := (true, [([], []), ([], []), ([], []), ([1, 2], [1, 2]), ([3], [3]), ([0, 4], [0, 4]), ([5], [5]), ([6], [6]), ([6], [6]), ([7, 5, 0, 1, 2, 3, 4, 5, 6, 7], [7]), ([8, 9, 0, 1, 2, 3, 4, 5, 6, 7, 8, 9], [8])])
def spec_ChangedFields.B8 : List Nat := [0, 0, 0, 6, 14, 31, 63, 127, 127, 255, 1023]
theorem spec_ChangedFields.tab8 : rtab .any (opsOf Tryz.f5 8) = spec_ChangedFields.T8 := by kernel_rfl
theorem spec_ChangedFields.bits8 : waitsOk spec_ChangedFields.T8.2 spec_ChangedFields.B8 = true := by kernel_rfl
def spec_ChangedFields.T9 : Bool × List (List Nat × List Nat) := (true, [([], []), ([], []), ([], []), ([1, 2], [1, 2]), ([3], [3]), ([0, 4], [0, 4]), ([5], [5]), ([6], [6]), ([6], [6]), ([7, 5, 0, 1, 2, 3, 4, 5, 6, 7], [7]), ([8, 9, 0, 1, 2, 3, 4, 5, 6, 7, 8, 9], [8])])
def spec_ChangedFields.B9 : List Nat := [0, 0, 0, 6, 14, 31, 63, 127, 127, 255, 1023]
theorem spec_ChangedFields.tab9 : rtab .any (opsOf Tryz.f5 9) = spec_ChangedFields.T9 := by kernel_rfl
theorem spec_ChangedFields.bits9 : waitsOk spec_ChangedFields.T9.2 spec_ChangedFields.B9 = true := by kernel_rfl
set_option maxRecDepth 100000 in
theorem spec_ChangedFields.L0 {P : Prop} (h : P := by
  go_wp2_with (first | ((with_reducible refine gate_callee (f := 14) rfl ?_); refine goesL_ (some 15) rfl rfl Tryz.func14 (by kernel_rfl) rfl #[.agg #[.string ab, .int .i64 aa, .slice bj ai.length bl, .slice bm aj.length bn, .string ak, .string an, .string ap, .int .i64 ar, .int .i64 av, .int .i64 aw, .bool af, .int .i64 ac, .string ae, .string ag]] rfl au50 ?_; (with_reducible refine (spec_l4Entry.calls k ab aa _ _ ai _ _ aj ak an ap ar av aw af ac ae ag _ _ ?ax ?ay ?bi ?bp A8.out).mono ?_); (case ax => repeat (first | exact (Kd.C_below ck.out HB.out) | (with_reducible refine Kd.C_alloc ?_ _) | (with_reducible refine Kd.C_drewN ?_ _) | (with_reducible refine Kd.C_drew ?_))); (case ay => exact cn.out); (case bi => repeat (first | exact (Kd.C_below cz.out HB.out) | (with_reducible refine Kd.C_alloc ?_ _) | (with_reducible refine Kd.C_drewN ?_ _) | (with_reducible refine Kd.C_drew ?_))); (case bp => exact cA.out); rintro e uC ⟨rfl, hb⟩; refine ⟨_, rfl, ?_⟩; replace vK := am (Kd.R_below au88 hb); replace bg := am (blk_below (g := bZ) au59 hb); replace bh := am (blk_below (g := ce) au60 hb); replace HB := am (below_step au19 hb); (try clear hb); obtain ⟨lx, ly, lz, lB, Bh, Bi, Bj, Bl, Bm, Bn, xU, xV, xW, xX, lC, lD, lF, lG, Bo, Bp, Bq, Br, Bs, Bt, xY, xZ, ya, yb⟩ := blkc14 bh.out) | (go_at_call 14; (with_reducible refine (spec_l4Entry.calls k aR aQ _ _ aM _ _ aN aZ ba bb aW aX aY aG aH aI aE uY _ ?ax ?ay ?bi ?bp gB.out).mono ?_); (case ax => repeat (first | exact (Kd.C_below ee.out HB.out) | (with_reducible refine Kd.C_alloc ?_ _) | (with_reducible refine Kd.C_drewN ?_ _) | (with_reducible refine Kd.C_drew ?_))); (case ay => exact ef.out); (case bi => repeat (first | exact (Kd.C_below em.out HB.out) | (with_reducible refine Kd.C_alloc ?_ _) | (with_reducible refine Kd.C_drewN ?_ _) | (with_reducible refine Kd.C_drew ?_))); (case bp => exact en.out); rintro e w15 ⟨rfl, hb⟩; replace vK := am (Kd.R_below au88 hb); replace bg := am (blk_below (g := bZ) au59 hb); replace bh := am (blk_below (g := ce) au60 hb); replace HB := am (below_step au19 hb); (try clear hb)));go_meet
  case rel => first | (exact ⟨_, (!uY), au107, H', ⟨by first | omega | exact Nat.le_refl _⟩, ⟨by (with_reducible repeat (first | apply Kd.R_alloc | apply Kd.R_drewN | apply Kd.R_drew)); exact vK.out⟩, ⟨by (with_reducible repeat (first | refine blk_drewN ?_ _ | refine blk_drew ?_ | refine blk_alloc ?_ _)); exact bg.out⟩, ⟨by (with_reducible repeat (first | refine blk_drewN ?_ _ | refine blk_drew ?_ | refine blk_alloc ?_ _)); exact bh.out⟩, ⟨by repeat (first | (with_reducible first | exact HB.out | apply below_alloc | apply pw_below_drewN | apply below_drew1 | refine below_set ?_ iE.out | refine below_set ?_ jx.out) | exact HB.out)⟩⟩) | (exact ⟨_, (dI), H', ⟨by have := xH.out; have := HK2.out; first | omega | exact Nat.le_refl _⟩, ⟨by (with_reducible repeat (first | apply Kd.R_alloc | apply Kd.R_drewN | apply Kd.R_drew)); exact Kd.R_mono bD.out (fun _ hk => trivial)⟩, ⟨by (with_reducible repeat (first | refine blk_drewN ?_ _ | refine blk_drew ?_ | refine blk_alloc ?_ _)); exact bg.out⟩, ⟨by (with_reducible repeat (first | refine blk_drewN ?_ _ | refine blk_drew ?_ | refine blk_alloc ?_ _)); exact bh.out⟩, ⟨by repeat (first | (with_reducible first | exact HB.out | apply below_alloc | apply pw_below_drewN | apply below_drew1 | refine below_set ?_ iE.out | refine below_set ?_ jx.out) | exact HB.out)⟩⟩)) : P := h
set_option maxRecDepth 100000 in
theorem spec_ChangedFields.L1 {P : Prop} (h : P := by
  try go_wp2_with (first | ((with_reducible refine gate_builtin (b := .append) (xs := #[.tmp 51, .tmp 56]) rfl ?_); at_builtin; refine Kd.R_append Kd.string (w0 := w) w.heap.size rfl (.tmp 51) (.tmp 56) 28 9 (.string ⟨#[]⟩) 16 rfl Tryz.underlying28 info9 rfl (by decide) (by omega) u6 dI (rdOf ByteArray.empty dx cB) [.string (rdOf ByteArray.empty dx cB)] (fun k_ => some k_ ≠ (.slice (some nj) dx.length a3W : Value).ownBlock) (fun _ => False) rfl rfl ?aP (fun _ hk => hk.elim) ?aF ?aO ?aB ?aS ?aL ?_; (case aP => exact rfl); (case aB => exact au19); (case aF => exact (fun k_ hk => Kd.fresh' (Kd.R_lt au102) k_ hk)); (case aO => exact au103); (case aS => exact (below_size au19)); (case aL => have := Mu.out; omega); intro anQ w38 ho hb hg hat; rw [← a09.out] at ho; have cZ := am (Kd.R_after (ok := (fun _ => True)) au49 hg hat); have d0 := am (blk_grown (g := bZ) (o := .cells #[.string ab, .int .i64 aa, .slice bj ai.length bl, .slice bm aj.length bn, .string ak, .string an, .string ap, .int .i64 ar, .int .i64 av, .int .i64 aw, .bool af, .int .i64 ac, .string ae, .string ag] 34 (0, 0)) au59 hg (Kd.R_ne bD.out bg.out (by decide))); have dQ := am (blk_grown (g := ce) (o := .cells #[.string aR, .int .i64 aQ, .slice bI aM.length bJ, .slice bL aN.length bM, .string aZ, .string ba, .string bb, .int .i64 aW, .int .i64 aX, .int .i64 aY, .bool aG, .int .i64 aH, .string aI, .string aE] 34 (0, 0)) au60 hg (Kd.R_ne bD.out bh.out (by decide))); have dU := am (hb); have vk := am (ho); clear dR; clear bg; clear bh; clear HB; clear bD; have dR := cZ; have bg := d0; have bh := dQ; have HB := dU; have a0a := vk; clear cZ d0 dQ dU vk; clear ho hb hg hat))
  go_roundg k2
  case measure => have := xH.out; have := HK2.out; omega
  case rel => first | (exact ⟨(XC), (wrap64 (cB + 1)), au107, H', ⟨by have := xH.out; have := HK2.out; omega⟩, ⟨by (with_reducible repeat (first | apply Kd.R_alloc | apply Kd.R_drewN | apply Kd.R_drew)); exact a0a.out⟩, ⟨by (with_reducible repeat (first | apply Kd.R_alloc | apply Kd.R_drewN | apply Kd.R_drew)); exact Kd.R_mono dR.out (fun _ hk => hk.2)⟩, ⟨by (with_reducible repeat (first | refine blk_drewN ?_ _ | refine blk_drew ?_ | refine blk_alloc ?_ _)); exact bg.out⟩, ⟨by (with_reducible repeat (first | refine blk_drewN ?_ _ | refine blk_drew ?_ | refine blk_alloc ?_ _)); exact bh.out⟩, ⟨by repeat (first | (with_reducible first | exact HB.out | apply below_alloc | apply pw_below_drewN | apply below_drew1 | refine below_set ?_ iE.out | refine below_set ?_ jx.out) | exact HB.out)⟩⟩) | (exact ⟨(dI), (wrap64 (cB + 1)), au107, H', ⟨by have := xH.out; have := HK2.out; omega⟩, ⟨by (with_reducible repeat (first | apply Kd.R_alloc | apply Kd.R_drewN | apply Kd.R_drew)); exact bD.out⟩, ⟨by (with_reducible repeat (first | apply Kd.R_alloc | apply Kd.R_drewN | apply Kd.R_drew)); exact dR.out⟩, ⟨by (with_reducible repeat (first | refine blk_drewN ?_ _ | refine blk_drew ?_ | refine blk_alloc ?_ _)); exact bg.out⟩, ⟨by (with_reducible repeat (first | refine blk_drewN ?_ _ | refine blk_drew ?_ | refine blk_alloc ?_ _)); exact bh.out⟩, ⟨by repeat (first | (with_reducible first | exact HB.out | apply below_alloc | apply pw_below_drewN | apply below_drew1 | refine below_set ?_ iE.out | refine below_set ?_ jx.out) | exact HB.out)⟩⟩)) : P := h
set_option maxRecDepth 100000 in
theorem spec_ChangedFields.L2 {P : Prop} (h : P := by
  go_wp2_with (first | ((with_reducible refine gate_builtin (b := .append) (xs := #[.tmp 71, .tmp 72]) rfl ?_); at_builtin; refine Kd.R_append Kd.string (w0 := w) w.heap.size rfl (.tmp 71) (.tmp 72) 28 9 (.string ⟨#[]⟩) 16 rfl Tryz.underlying28 info9 rfl (by decide) (by omega) u6 mH (⟨#[107, 105, 110, 100]⟩ : ByteArray) [.string (⟨#[107, 105, 110, 100]⟩ : ByteArray)] (fun _ => True) (fun _ => False) rfl rfl ?aP (fun _ hk => hk.elim) ?aF ?aO ?aB ?aS ?aL ?_; (case aP => exact rfl); (case aB => exact au19); (case aF => exact (fun _ _ => trivial)); (case aO => exact au103); (case aS => exact (below_size au19)); (case aL => have := RH.out; omega); intro XD w62 ho hb hg hat; rw [← RI.out] at ho; have cZ := am (blk_grown (g := bZ) (o := .cells #[.string ab, .int .i64 aa, .slice bj ai.length bl, .slice bm aj.length bn, .string ak, .string an, .string ap, .int .i64 ar, .int .i64 av, .int .i64 aw, .bool af, .int .i64 ac, .string ae, .string ag] 34 (0, 0)) au59 hg (Kd.R_ne bD.out bg.out (by decide))); have d0 := am (blk_grown (g := ce) (o := .cells #[.string aR, .int .i64 aQ, .slice bI aM.length bJ, .slice bL aN.length bM, .string aZ, .string ba, .string bb, .int .i64 aW, .int .i64 aX, .int .i64 aY, .bool aG, .int .i64 aH, .string aI, .string aE] 34 (0, 0)) au60 hg (Kd.R_ne bD.out bh.out (by decide))); have dQ := am (hb); have dU := am (ho); clear bg; clear bh; clear HB; clear bD; have bg := cZ; have bh := d0; have HB := dQ; have wW := dU; clear cZ d0 dQ dU; clear ho hb hg hat; obtain ⟨T7, Ta, Tb, Tc, Td, Te, Tf, Tg, Ti, Tj, Pm, Pn, Po, Pp, Tk, Tl, Tm, Tn, To, Tp, Tq, Tr, Ts, Tt, Pq, Pr, Ps, Pt⟩ := blkc14 bg.out; obtain ⟨ac7, ac8, ac9, aca, acb, acc, acd, ace, acf, acg, a3X, a3Y, a3Z, a40, ach, aci, acj, ack, acl, acm, acn, aco, acp, acq, a41, a42, a43, a44⟩ := blkc14 bh.out));go_ret2
  first | (exact ⟨_, by first | rfl | (simp [errW_none, errW_some] <;> rfl) | (simp [*, errW_none, errW_some] <;> rfl), by (with_reducible repeat (first | apply Kd.R_alloc | apply Kd.R_drewN | apply Kd.R_drew)); exact wW.out, by repeat (first | (with_reducible first | exact HB.out | apply below_alloc | apply pw_below_drewN | apply below_drew1 | refine below_set ?_ iE.out | refine below_set ?_ jx.out) | exact HB.out)⟩) | (exact ⟨_, by first | rfl | (simp [errW_none, errW_some] <;> rfl) | (simp [*, errW_none, errW_some] <;> rfl), by (with_reducible repeat (first | apply Kd.R_alloc | apply Kd.R_drewN | apply Kd.R_drew)); exact bD.out, by repeat (first | (with_reducible first | exact HB.out | apply below_alloc | apply pw_below_drewN | apply below_drew1 | refine below_set ?_ iE.out | refine below_set ?_ jx.out) | exact HB.out)⟩)) : P := h
set_option maxHeartbeats 8000000 in
set_option maxRecDepth 100000 in
theorem spec_ChangedFields.calls (k : Nat) (ab : ByteArray) (aa : Int) (bj : Option Addr) (bl : Nat) (ai : List (S62)) (bm : Option Addr) (bn : Nat) (aj : List (S62)) (ak : ByteArray) (an : ByteArray) (ap : ByteArray) (ar : Int) (av : Int) (aw : Int) (af : Bool) (ac : Int) (ae : ByteArray) (ag : ByteArray) (aR : ByteArray) (aQ : Int) (bI : Option Addr) (bJ : Nat) (aM : List (S62)) (bL : Option Addr) (bM : Nat) (aN : List (S62)) (aZ : ByteArray) (ba : ByteArray) (bb : ByteArray) (aW : Int) (aX : Int) (aY : Int) (aG : Bool) (aH : Int) (aI : ByteArray) (aE : ByteArray) (r1 : List ByteArray) (r2 : Bool) (w : World) (cV : Kd.C k62 w bj ai.length ai) (cL : ai.length ≤ bl) (cW : Kd.C k62 w bm aj.length aj) (cM : aj.length ≤ bn) (fQ : Kd.C k62 w bI aM.length aM) (fa : aM.length ≤ bJ) (fR : Kd.C k62 w bL aN.length aN) (fb : aN.length ≤ bM) (h : spec_ChangedFields.f k ab aa ai aj ak an ap ar av aw af ac ae ag aR aQ aM aN aZ ba bb aW aX aY aG aH aI aE = some (r1, r2)) :
  Calls Tryz.prog 5 #[.agg #[.string ab, .int .i64 aa, .slice bj ai.length bl, .slice bm aj.length bn, .string ak, .string an, .string ap, .int .i64 ar, .int .i64 av, .int .i64 aw, .bool af, .int .i64 ac, .string ae, .string ag], .agg #[.string aR, .int .i64 aQ, .slice bI aM.length bJ, .slice bL aN.length bM, .string aZ, .string ba, .string bb, .int .i64 aW, .int .i64 aX, .int .i64 aY, .bool aG, .int .i64 aH, .string aI, .string aE]] w fun e w' => ∃ gA : Value, e = .returned (.tuple #[gA, .bool r2]) ∧ Kd.R Kd.string 9 w' w.heap.size (fun _ => True) gA r1 ∧ Below w.heap.size w w' := by
 have hu34 := Tryz.underlying34;have ck := am cV;have cn := am cL;clear cV cL;have cz := am cW;have cA := am cM;clear cW cM;have ee := am fQ;have ef := am fa;clear fQ fa;have em := am fR;have en := am fb;clear fR fb;have HB := am (Below.refl w.heap.size w);have H : ((some (([] : List ByteArray) : List ByteArray)).bind fun pM => ((spec_l4Entry.f k ab aa ai aj ak an ap ar av aw af ac ae ag).bind fun yM => (if yM = true then ((spec_l4Entry.f k aR aQ aM aN aZ ba bb aW aX aY aG aH aI aE).bind fun uY => (spec_ChangedFields.j0 k pM (!uY) ab aa ai aj ak an ap ar av aw af ac ae ag aR aQ aM aN aZ ba bb aW aX aY aG aH aI aE)) else (spec_ChangedFields.j0 k pM true ab aa ai aj ak an ap ar av aw af ac ae ag aR aQ aM aN aZ ba bb aW aX aY aG aH aI aE)))) = some (r1, r2) := h;clear h
 obtain ⟨pM, AD⟩ : ∃ y_ : List ByteArray, y_ = (([] : List ByteArray)) := ⟨_, rfl⟩
 replace H : ((spec_l4Entry.f k ab aa ai aj ak an ap ar av aw af ac ae ag).bind fun yM => (if yM = true then ((spec_l4Entry.f k aR aQ aM aN aZ ba bb aW aX aY aG aH aI aE).bind fun uY => (spec_ChangedFields.j0 k pM (!uY) ab aa ai aj ak an ap ar av aw af ac ae ag aR aQ aM aN aZ ba bb aW aX aY aG aH aI aE)) else (spec_ChangedFields.j0 k pM true ab aa ai aj ak an ap ar av aw af ac ae ag aR aQ aM aN aZ ba bb aW aX aY aG aH aI aE))) = some (r1, r2) := by first | (rw [AD]; with_reducible exact H) | (have H2_ := (Option.bind_some _ _).symm.trans H; rw [AD]; with_reducible exact H2_) | (have H2_ := (Option.bind_some _ _).symm.trans H; with_reducible exact H2_) | with_reducible exact H | (rw [AD]; exact H) | exact H
 have RJ := am AD;clear AD;have pK := am H;clear H;go_enter Tryz.func5, Tryz.ntmps5
 go_upto_region 2 with (first | ((with_reducible refine gate_dst (N := 2) rfl ?_); refine box_event ?hg (N := 2) ?hd (cs := #[.string ab, .int .i64 aa, .slice bj ai.length bl, .slice bm aj.length bn, .string ak, .string an, .string ap, .int .i64 ar, .int .i64 av, .int .i64 aw, .bool af, .int .i64 ac, .string ae, .string ag]) (t := 34) ?hr ?_; (case hd => rfl); (case hg => rfl); (case hr => first | (go_simp; done) | (go_simp; rfl)); intro bZ hg w4 hbox hb; have bg := am (hbox); have alS := am (bsz hg au51); have iE := am (bsz hg au51); replace HB := am (below_step au51 hb); clear hb hbox hg) | ((with_reducible refine gate_dst (N := 3) rfl ?_); refine box_event ?hg (N := 3) ?hd (cs := #[.string aR, .int .i64 aQ, .slice bI aM.length bJ, .slice bL aN.length bM, .string aZ, .string ba, .string bb, .int .i64 aW, .int .i64 aX, .int .i64 aY, .bool aG, .int .i64 aH, .string aI, .string aE]) (t := 34) ?hr ?_; (case hd => rfl); (case hg => rfl); (case hr => first | (go_simp; done) | (go_simp; rfl)); intro ce hg w5 hbox hb; have bh := am (hbox); have alT := am (bsz hg au33); have jx := am (bsz hg au33); replace HB := am (below_step au33 hb); have ip := am (bne (g := bZ) hg au59); have iq := am (ben (g := bZ) hg au59); replace bg := am (blk_below (g := bZ) au59 hb); clear hb hbox hg) | ((with_reducible refine gate_dst (N := 13) rfl ?_); refine Kd.R_lit Kd.string _ 9 ?hg (N := 13) ?hd (xs := ([] : List ByteArray)) (inner := []) (ok := fun _ => True) (okp := fun _ => True) ?hr ?hp (fun _ hk => hk) trivial (Below.refl _ _) (Nat.le_refl _) (by simp) ?_; (case hd => rfl); (case hg => rfl); (case hr => first | (go_simp; done) | (go_simp; rfl)); (case hp => exact (Reps.none _ _)); intro a45 w6 ho7 hb hg_ hnew_; clear hg_ hnew_; (first | rw [← RJ.out] at ho7 | (simp only [Int.reduceToNat] at ho7; rw [← RJ.out] at ho7)); have vK := am (Kd.R_lower ho7 (below_size au19)); replace bg := am (blk_below (g := bZ) au59 hb); replace bh := am (blk_below (g := ce) au60 hb); replace HB := am (below_step au19 hb); clear hb ho7))
 (try simp only [Act.put, List.setIfInBounds_toArray, List.set_cons_zero, List.set_cons_succ])
 go_cut [21] (fun v21 wc => ∃ (kq : Nat) (Ft : Bool), v21 = .bool Ft ∧ Aside0 (spec_ChangedFields.j0 kq pM Ft ab aa ai aj ak an ap ar av aw af ac ae ag aR aQ aM aN aZ ba bb aW aX aY aG aH aI aE = some (r1, r2)) ∧ Aside0 (kq ≤ k) ∧ Aside0 (Kd.R Kd.string 9 wc w.heap.size (fun _ => True) a45 pM) ∧ Aside0 (wc.heap[bZ]? = some (.cells #[.string ab, .int .i64 aa, (.slice bj ai.length bl), (.slice bm aj.length bn), .string ak, .string an, .string ap, .int .i64 ar, .int .i64 av, .int .i64 aw, .bool af, .int .i64 ac, .string ae, .string ag] 34 (0, 0))) ∧ Aside0 (wc.heap[ce]? = some (.cells #[.string aR, .int .i64 aQ, (.slice bI aM.length bJ), (.slice bL aN.length bM), .string aZ, .string ba, .string bb, .int .i64 aW, .int .i64 aX, .int .i64 aY, .bool aG, .int .i64 aH, .string aI, .string aE] 34 (0, 0))) ∧ Aside0 (Below w.heap.size w wc))
 case first =>
  have H := pK.out;clear pK;replace H := ob H;obtain ⟨yM, jT, H⟩ := H
  try dsimp only at H
  have A8 := am jT;clear jT;by_cases c9 : yM = true
  ·
   subst c9;replace H := (if_pos rfl).symm.trans H;replace H := ob H;obtain ⟨uY, er, H⟩ := H
   try dsimp only at H
   have gB := am er;clear er;have H' := am H;clear H;have RL := ip.out;have RN := iq.out;obtain ⟨gQ, gR, gS, gT, CH, CJ, CK, CL, CM, CN, yN, yO, yP, yQ, gU, gV, gW, gX, CO, CP, CQ, CR, CS, CU, yR, yS, yT, yU⟩ := blkc14 bg.out;exact spec_ChangedFields.L0
  ·
   replace c9 := Bool.eq_false_iff.mpr c9;subst c9;replace H := (if_neg (show ¬ (false = true) by decide)).symm.trans H;have H' := am H;clear H;have alU := ip.out;have alV := iq.out;obtain ⟨ft, fu, fv, fw, iL, iO, iP, iQ, iR, iT, gE, gF, gG, gH, fx, fy, fz, fA, iU, iV, iW, iX, iZ, j3, gI, gJ, gK, gL⟩ := blkc14 bg.out;go_wp2_with (first | ((with_reducible refine gate_callee (f := 14) rfl ?_); refine goesL_ (some 15) rfl rfl Tryz.func14 (by kernel_rfl) rfl #[.agg #[.string ab, .int .i64 aa, .slice bj ai.length bl, .slice bm aj.length bn, .string ak, .string an, .string ap, .int .i64 ar, .int .i64 av, .int .i64 aw, .bool af, .int .i64 ac, .string ae, .string ag]] rfl au50 ?_; (with_reducible refine (spec_l4Entry.calls k ab aa _ _ ai _ _ aj ak an ap ar av aw af ac ae ag _ _ ?ax ?ay ?bi ?bp A8.out).mono ?_); (case ax => repeat (first | exact (Kd.C_below ck.out HB.out) | (with_reducible refine Kd.C_alloc ?_ _) | (with_reducible refine Kd.C_drewN ?_ _) | (with_reducible refine Kd.C_drew ?_))); (case ay => exact cn.out); (case bi => repeat (first | exact (Kd.C_below cz.out HB.out) | (with_reducible refine Kd.C_alloc ?_ _) | (with_reducible refine Kd.C_drewN ?_ _) | (with_reducible refine Kd.C_drew ?_))); (case bp => exact cA.out); rintro e K3 ⟨rfl, hb⟩; refine ⟨_, rfl, ?_⟩; replace vK := am (Kd.R_below au88 hb); replace bg := am (blk_below (g := bZ) au59 hb); replace bh := am (blk_below (g := ce) au60 hb); replace HB := am (below_step au19 hb); (try clear hb)));go_meet
   case rel => exact ⟨_, (true), au107, H', ⟨by first | omega | exact Nat.le_refl _⟩, ⟨by (with_reducible repeat (first | apply Kd.R_alloc | apply Kd.R_drewN | apply Kd.R_drew)); exact vK.out⟩, ⟨by (with_reducible repeat (first | refine blk_drewN ?_ _ | refine blk_drew ?_ | refine blk_alloc ?_ _)); exact bg.out⟩, ⟨by (with_reducible repeat (first | refine blk_drewN ?_ _ | refine blk_drew ?_ | refine blk_alloc ?_ _)); exact bh.out⟩, ⟨by repeat (first | (with_reducible first | exact HB.out | apply below_alloc | apply pw_below_drewN | apply below_drew1 | refine below_set ?_ iE.out | refine below_set ?_ jx.out) | exact HB.out)⟩⟩
 case rest =>
  clear pK
  try clear c1
  try clear p2
  try clear c5
  try clear c9
  try clear bH
  try clear cO
  try clear cb
  try clear gQ gR yN yO yP yQ gS gT CH CJ CK CL CM CN gU gV yR yS yT yU gW gX CO CP CQ CR CS CU
  try clear lx ly xU xV xW xX lz lB Bh Bi Bj Bl Bm Bn lC lD xY xZ ya yb lF lG Bo Bp Bq Br Bs Bt
  try clear ft fu gE gF gG gH fv fw iL iO iP iQ iR iT fx fy gI gJ gK gL fz fA iU iV iW iX iZ j3
  obtain ⟨kq, Ft, rfl, HA, xH, bD, bg, bh, HB⟩ := hcut
  cases kq with
  | zero => exact absurd HA.out (by simp [spec_ChangedFields.j0])
  | succ GK =>
   have H := HA.out;clear HA;simp only [spec_ChangedFields.j0] at H;by_cases dp : Ft = true
   · subst dp;replace H := (if_pos rfl).symm.trans H;simp only [Option.some.injEq, Prod.mk.injEq] at H;obtain ⟨rfl, rfl⟩ := H;exact spec_ChangedFields.L2
   ·
    replace dp := Bool.eq_false_iff.mpr dp;subst dp;replace H := (if_neg (show ¬ (false = true) by decide)).symm.trans H;replace H := ob H;obtain ⟨dx, pi, H⟩ := H
    try dsimp only at H
    have dP := am pi;clear pi;have H' := am H;clear H;go_wp2_with (first | ((with_reducible refine gate_callee (f := 15) rfl ?_); refine goesL_ (some 23) rfl rfl Tryz.func15 (by kernel_rfl) rfl #[] rfl au50 ?_; (with_reducible refine (spec_l4Fields.calls  dx _ dP.out).mono ?_); rintro e w21 ⟨XE, rfl, ho0, hb⟩; refine ⟨_, rfl, ?_⟩; have a0b := am (Kd.R_lower (Kd.R_new' ho0 (Kd.R_lt au103)) (below_size au19)); replace bD := am (Kd.R_elder' au103 (Kd.R_base ho0) hb); replace bg := am (blk_below (g := bZ) au59 hb); replace bh := am (blk_below (g := ce) au60 hb); replace HB := am (below_step au19 hb); (try clear hb); (try clear ho0)))
    go_loopg [6, 8] GK (fun kq v6 v8 w' => ∃ (dI : List ByteArray) (cB : Int), v8 = .int .i64 cB ∧ Aside0 (spec_ChangedFields.l0 kq dI dx cB ab aa ai aj ak an ap ar av aw af ac ae ag aR aQ aM aN aZ ba bb aW aX aY aG aH aI aE = some (r1, r2)) ∧ Aside0 (kq ≤ GK) ∧ Aside0 (Kd.R Kd.string 9 w' w.heap.size (fun k_ => some k_ ≠ (XE : Value).ownBlock) v6 dI) ∧ Aside0 (Kd.R Kd.string 9 w' w.heap.size (fun k_ => some k_ ≠ (v6 : Value).ownBlock) XE dx) ∧ Aside0 (w'.heap[bZ]? = some (.cells #[.string ab, .int .i64 aa, (.slice bj ai.length bl), (.slice bm aj.length bn), .string ak, .string an, .string ap, .int .i64 ar, .int .i64 av, .int .i64 aw, .bool af, .int .i64 ac, .string ae, .string ag] 34 (0, 0))) ∧ Aside0 (w'.heap[ce]? = some (.cells #[.string aR, .int .i64 aQ, (.slice bI aM.length bJ), (.slice bL aN.length bM), .string aZ, .string ba, .string bb, .int .i64 aW, .int .i64 aX, .int .i64 aY, .bool aG, .int .i64 aH, .string aI, .string aE] 34 (0, 0))) ∧ Aside0 (Below w.heap.size w w'))
    case atStart => exact ⟨(pM), (0), au107, H', ⟨Nat.le_refl _⟩, ⟨by (with_reducible repeat (first | apply Kd.R_alloc | apply Kd.R_drewN | apply Kd.R_drew)); exact Kd.R_mono bD.out (fun _ hk => hk.2)⟩, ⟨by (with_reducible repeat (first | apply Kd.R_alloc | apply Kd.R_drewN | apply Kd.R_drew)); exact Kd.R_mono a0b.out (fun _ hk => hk.2)⟩, ⟨by (with_reducible repeat (first | refine blk_drewN ?_ _ | refine blk_drew ?_ | refine blk_alloc ?_ _)); exact bg.out⟩, ⟨by (with_reducible repeat (first | refine blk_drewN ?_ _ | refine blk_drew ?_ | refine blk_alloc ?_ _)); exact bh.out⟩, ⟨by repeat (first | (with_reducible first | exact HB.out | apply below_alloc | apply pw_below_drewN | apply below_drew1 | refine below_set ?_ iE.out | refine below_set ?_ jx.out) | exact HB.out)⟩⟩
    case round =>
     clear H'
     try clear c1
     try clear p2
     try clear c5
     try clear c9
     try clear bH
     try clear cO
     try clear bV
     try clear cb
     try clear dp
     try clear gQ gR yN yO yP yQ gS gT CH CJ CK CL CM CN gU gV yR yS yT yU gW gX CO CP CQ CR CS CU
     try clear lx ly xU xV xW xX lz lB Bh Bi Bj Bl Bm Bn lC lD xY xZ ya yb lF lG Bo Bp Bq Br Bs Bt
     try clear ft fu gE gF gG gH fv fw iL iO iP iQ iR iT fx fy gI gJ gK gL fz fA iU iV iW iX iZ j3
     try clear p2
     obtain ⟨dI, cB, rfl, HA, HK2, bD, dR, bg, bh, HB⟩ := hrel
     cases gk with
     | zero => exact absurd HA.out (by simp [spec_ChangedFields.l0])
     | succ k2 =>
      have H := HA.out;clear HA;simp only [spec_ChangedFields.l0] at H;by_cases dy : cB < (dx.length : Int)
      ·
       rw [if_pos dy] at H;have c22b0 := dt dy;clear dy;by_cases fc : 0 ≤ cB
       ·
        rw [if_pos fc] at H;have c23b0 := dt fc;clear fc;replace H := ob H;obtain ⟨⟨GW, XF⟩, vl, H⟩ := H;replace H : ((spec_l4Field.f k2 aR aQ aM aN aZ ba bb aW aX aY aG aH aI aE (rdOf ByteArray.empty dx cB)).bind fun Mt => (if GW.toList = Mt.1.toList then (spec_ChangedFields.l0 k2 dI dx (wrap64 (cB + 1)) ab aa ai aj ak an ap ar av aw af ac ae ag aR aQ aM aN aZ ba bb aW aX aY aG aH aI aE) else (if dI.length < 8796093022208 then (spec_ChangedFields.l0 k2 (dI ++ [rdOf ByteArray.empty dx cB]) dx (wrap64 (cB + 1)) ab aa ai aj ak an ap ar av aw af ac ae ag aR aQ aM aN aZ ba bb aW aX aY aG aH aI aE) else (none)))) = some (r1, r2) := H;have Kk := am vl;clear vl;replace H := ob H;obtain ⟨⟨Mv, XG⟩, Gz, H⟩ := H;replace H : (if GW.toList = Mv.toList then (spec_ChangedFields.l0 k2 dI dx (wrap64 (cB + 1)) ab aa ai aj ak an ap ar av aw af ac ae ag aR aQ aM aN aZ ba bb aW aX aY aG aH aI aE) else (if dI.length < 8796093022208 then (spec_ChangedFields.l0 k2 (dI ++ [rdOf ByteArray.empty dx cB]) dx (wrap64 (cB + 1)) ab aa ai aj ak an ap ar av aw af ac ae ag aR aQ aM aN aZ ba bb aW aX aY aG aH aI aE) else (none))) = some (r1, r2) := H;have RE := am Gz;clear Gz;by_cases fe : GW.toList = Mv.toList
        ·
         rw [if_pos fe] at H;have c26b0 := qt fe;have c26b1 := bf fe;clear fe;have H' := am H;clear H;obtain ⟨anR, anS, a47⟩ := Kd.R_slice dR.out;subst a47
         try go_wp2
         replace bD := am (Kd.R_drew bD.out);replace dR := am (Kd.R_drew dR.out);replace bg := am (blk_drew bg.out);replace bh := am (blk_drew bh.out);replace HB := am (below_drew1 HB.out);have vm : 0 ≤ (cB : Int) := od au106;have vn : cB < (dx.length : Int) := od au106;obtain ⟨nj, Pu, nL⟩ := Kd.at_string (Kd.R_reads' dR.out).2.2 cB vm vn
         cases Pu
         replace vm := eq_true vm;replace vn := eq_true vn;refine start_ (n := 11) (S := fun w' => w'.cell? ⟨bZ, 0, none⟩ = some (.string ab) ∧ w'.cell? ⟨bZ, 1, none⟩ = some (.int .i64 aa) ∧ w'.cell? ⟨bZ, 2, none⟩ = some (.slice bj ai.length bl) ∧ w'.cell? ⟨bZ, 3, none⟩ = some (.slice bm aj.length bn) ∧ w'.cell? ⟨bZ, 4, none⟩ = some (.string ak) ∧ w'.cell? ⟨bZ, 5, none⟩ = some (.string an) ∧ w'.cell? ⟨bZ, 6, none⟩ = some (.string ap) ∧ w'.cell? ⟨bZ, 7, none⟩ = some (.int .i64 ar) ∧ w'.cell? ⟨bZ, 8, none⟩ = some (.int .i64 av) ∧ w'.cell? ⟨bZ, 9, none⟩ = some (.int .i64 aw) ∧ w'.cell? ⟨bZ, 10, none⟩ = some (.bool af) ∧ w'.cell? ⟨bZ, 11, none⟩ = some (.int .i64 ac) ∧ w'.cell? ⟨bZ, 12, none⟩ = some (.string ae) ∧ w'.cell? ⟨bZ, 13, none⟩ = some (.string ag) ∧ w'.cell? (nj.add (cB).toNat) = some (.string (rdOf ByteArray.empty dx cB))) (ds := []) #[false, false, false, false, false, false, false, false, false, false, false] (by kernel_rfl) rfl rfl ⟨(blk_cell bg.out 0).trans rfl, (blk_cell bg.out 1).trans rfl, (blk_cell bg.out 2).trans rfl, (blk_cell bg.out 3).trans rfl, (blk_cell bg.out 4).trans rfl, (blk_cell bg.out 5).trans rfl, (blk_cell bg.out 6).trans rfl, (blk_cell bg.out 7).trans rfl, (blk_cell bg.out 8).trans rfl, (blk_cell bg.out 9).trans rfl, (blk_cell bg.out 10).trans rfl, (blk_cell bg.out 11).trans rfl, (blk_cell bg.out 12).trans rfl, (blk_cell bg.out 13).trans rfl, nL⟩ (fun hHeld => ?_); refine with_tabW spec_ChangedFields.tab8 spec_ChangedFields.bits8 (fun HT_ HW_ => ?_);generalize wr.drew = w28 at bD dR bg bh HB nL hHeld ⊢;refine pu_ 1 (some 32) #[false, true, false, false, false, false, false, false, false, false, false] HT_.out ?_;refine pu_ 2 (some 33) #[false, true, true, false, false, false, false, false, false, false, false] HT_.out ?_;refine pu_ 3 (some 34) #[false, true, true, true, false, false, false, false, false, false, false] HT_.out ?_;refine ta0_ 0 (some 31) #[true, true, true, true, false, false, false, false, false, false, false] HT_.out HW_.out hHeld ?_;refine ta0_ 4 (some 35) #[true, true, true, true, true, false, false, false, false, false, false] HT_.out HW_.out hHeld ?_;refine on_ 5 (some 36) #[true, true, true, true, true, true, false, false, false, false, false] HT_.out (fun K hK => ?_);refine gs_ Tryz.func16 #[.agg #[.string ab, .int .i64 aa, .slice bj ai.length bl, .slice bm aj.length bn, .string ak, .string an, .string ap, .int .i64 ar, .int .i64 av, .int .i64 aw, .bool af, .int .i64 ac, .string ae, .string ag], .string (rdOf ByteArray.empty dx cB)] ?_
         with_reducible refine (spec_l4Field.calls k2 ab aa _ _ ai _ _ aj ak an ap ar av aw af ac ae ag (rdOf ByteArray.empty dx cB) GW XF _ ?ax ?ay ?bi ?bp Kk.out).mono ?_
         (case ax => repeat (first | exact (Kd.C_below ck.out HB.out) | (with_reducible refine Kd.C_alloc ?_ _) | (with_reducible refine Kd.C_drewN ?_ _) | (with_reducible refine Kd.C_drew ?_)))
         (case ay => exact cn.out)
         (case bi => repeat (first | exact (Kd.C_below cz.out HB.out) | (with_reducible refine Kd.C_alloc ?_ _) | (with_reducible refine Kd.C_drewN ?_ _) | (with_reducible refine Kd.C_drew ?_)))
         (case bp => exact cA.out)
         rintro e Rz ⟨rfl, hb⟩;have HS14_ := (hb.cell (World.block_lt_of_cell? _ _ (hHeld.2.2.2.2.2.2.2.2.2.2.2.2.2.2))).trans (hHeld.2.2.2.2.2.2.2.2.2.2.2.2.2.2);refine ⟨_, rfl, ?_⟩;replace bD := am (Kd.R_below au103 hb);replace dR := am (Kd.R_below au102 hb);replace bg := am (blk_below (g := bZ) au59 hb);replace bh := am (blk_below (g := ce) au60 hb);replace HB := am (below_step au19 hb)
         (try clear hb)
         refine hK.out _ _ ⟨(blk_cell bg.out 0).trans rfl, (blk_cell bg.out 1).trans rfl, (blk_cell bg.out 2).trans rfl, (blk_cell bg.out 3).trans rfl, (blk_cell bg.out 4).trans rfl, (blk_cell bg.out 5).trans rfl, (blk_cell bg.out 6).trans rfl, (blk_cell bg.out 7).trans rfl, (blk_cell bg.out 8).trans rfl, (blk_cell bg.out 9).trans rfl, (blk_cell bg.out 10).trans rfl, (blk_cell bg.out 11).trans rfl, (blk_cell bg.out 12).trans rfl, (blk_cell bg.out 13).trans rfl, HS14_⟩ (fun hHeld => ?_);clear hK K;refine no_ (some 36) ?_;refine pu_ 6 (some 30) #[true, true, true, true, true, true, true, false, false, false, false] HT_.out ?_;refine pu_ 7 (some 37) #[true, true, true, true, true, true, true, true, false, false, false] HT_.out ?_;refine pu_ 8 (some 38) #[true, true, true, true, true, true, true, true, true, false, false] HT_.out ?_;refine pu_ 9 (some 9) #[true, true, true, true, true, true, true, true, true, true, false] HT_.out ?_;refine pu_ 10 (some 10) #[true, true, true, true, true, true, true, true, true, true, true] HT_.out ?_;refine done_ (done_of HT_.out (by kernel_rfl)) ?_
         try go_wp2
         replace bD := am (Kd.R_drew bD.out);replace dR := am (Kd.R_drew dR.out);replace bg := am (blk_drew bg.out);replace bh := am (blk_drew bh.out);replace HB := am (below_drew1 HB.out);have vo : 0 ≤ (cB : Int) := od au106;have vp : cB < (dx.length : Int) := od au106;obtain ⟨Mw, Pv, nM⟩ := Kd.at_string (Kd.R_reads' dR.out).2.2 cB vo vp
         obtain rfl : nj = Mw := (by injection Pv)
         replace vo := eq_true vo;replace vp := eq_true vp;refine start_ (n := 11) (S := fun w' => w'.cell? ⟨ce, 0, none⟩ = some (.string aR) ∧ w'.cell? ⟨ce, 1, none⟩ = some (.int .i64 aQ) ∧ w'.cell? ⟨ce, 2, none⟩ = some (.slice bI aM.length bJ) ∧ w'.cell? ⟨ce, 3, none⟩ = some (.slice bL aN.length bM) ∧ w'.cell? ⟨ce, 4, none⟩ = some (.string aZ) ∧ w'.cell? ⟨ce, 5, none⟩ = some (.string ba) ∧ w'.cell? ⟨ce, 6, none⟩ = some (.string bb) ∧ w'.cell? ⟨ce, 7, none⟩ = some (.int .i64 aW) ∧ w'.cell? ⟨ce, 8, none⟩ = some (.int .i64 aX) ∧ w'.cell? ⟨ce, 9, none⟩ = some (.int .i64 aY) ∧ w'.cell? ⟨ce, 10, none⟩ = some (.bool aG) ∧ w'.cell? ⟨ce, 11, none⟩ = some (.int .i64 aH) ∧ w'.cell? ⟨ce, 12, none⟩ = some (.string aI) ∧ w'.cell? ⟨ce, 13, none⟩ = some (.string aE) ∧ w'.cell? (nj.add (cB).toNat) = some (.string (rdOf ByteArray.empty dx cB))) (ds := []) #[false, false, false, false, false, false, false, false, false, false, false] (by kernel_rfl) rfl rfl ⟨(blk_cell bh.out 0).trans rfl, (blk_cell bh.out 1).trans rfl, (blk_cell bh.out 2).trans rfl, (blk_cell bh.out 3).trans rfl, (blk_cell bh.out 4).trans rfl, (blk_cell bh.out 5).trans rfl, (blk_cell bh.out 6).trans rfl, (blk_cell bh.out 7).trans rfl, (blk_cell bh.out 8).trans rfl, (blk_cell bh.out 9).trans rfl, (blk_cell bh.out 10).trans rfl, (blk_cell bh.out 11).trans rfl, (blk_cell bh.out 12).trans rfl, (blk_cell bh.out 13).trans rfl, nM⟩ (fun hHeld => ?_); refine with_tabW spec_ChangedFields.tab9 spec_ChangedFields.bits9 (fun HT_ HW_ => ?_);generalize Rz.drew = w30 at bD dR bg bh HB nM hHeld ⊢;refine pu_ 1 (some 41) #[false, true, false, false, false, false, false, false, false, false, false] HT_.out ?_;refine pu_ 2 (some 42) #[false, true, true, false, false, false, false, false, false, false, false] HT_.out ?_;refine pu_ 3 (some 43) #[false, true, true, true, false, false, false, false, false, false, false] HT_.out ?_;refine ta0_ 0 (some 40) #[true, true, true, true, false, false, false, false, false, false, false] HT_.out HW_.out hHeld ?_;refine ta0_ 4 (some 44) #[true, true, true, true, true, false, false, false, false, false, false] HT_.out HW_.out hHeld ?_;refine on_ 5 (some 45) #[true, true, true, true, true, true, false, false, false, false, false] HT_.out (fun K hK => ?_);refine gs_ Tryz.func16 #[.agg #[.string aR, .int .i64 aQ, .slice bI aM.length bJ, .slice bL aN.length bM, .string aZ, .string ba, .string bb, .int .i64 aW, .int .i64 aX, .int .i64 aY, .bool aG, .int .i64 aH, .string aI, .string aE], .string (rdOf ByteArray.empty dx cB)] ?_
         with_reducible refine (spec_l4Field.calls k2 aR aQ _ _ aM _ _ aN aZ ba bb aW aX aY aG aH aI aE (rdOf ByteArray.empty dx cB) Mv XG _ ?ax ?ay ?bi ?bp RE.out).mono ?_
         (case ax => repeat (first | exact (Kd.C_below ee.out HB.out) | (with_reducible refine Kd.C_alloc ?_ _) | (with_reducible refine Kd.C_drewN ?_ _) | (with_reducible refine Kd.C_drew ?_)))
         (case ay => exact ef.out)
         (case bi => repeat (first | exact (Kd.C_below em.out HB.out) | (with_reducible refine Kd.C_alloc ?_ _) | (with_reducible refine Kd.C_drewN ?_ _) | (with_reducible refine Kd.C_drew ?_)))
         (case bp => exact en.out)
         rintro e w31 ⟨rfl, hb⟩;have HS14_ := (hb.cell (World.block_lt_of_cell? _ _ (hHeld.2.2.2.2.2.2.2.2.2.2.2.2.2.2))).trans (hHeld.2.2.2.2.2.2.2.2.2.2.2.2.2.2);refine ⟨_, rfl, ?_⟩;replace bD := am (Kd.R_below au103 hb);replace dR := am (Kd.R_below au102 hb);replace bg := am (blk_below (g := bZ) au59 hb);replace bh := am (blk_below (g := ce) au60 hb);replace HB := am (below_step au19 hb)
         (try clear hb)
         refine hK.out _ _ ⟨(blk_cell bh.out 0).trans rfl, (blk_cell bh.out 1).trans rfl, (blk_cell bh.out 2).trans rfl, (blk_cell bh.out 3).trans rfl, (blk_cell bh.out 4).trans rfl, (blk_cell bh.out 5).trans rfl, (blk_cell bh.out 6).trans rfl, (blk_cell bh.out 7).trans rfl, (blk_cell bh.out 8).trans rfl, (blk_cell bh.out 9).trans rfl, (blk_cell bh.out 10).trans rfl, (blk_cell bh.out 11).trans rfl, (blk_cell bh.out 12).trans rfl, (blk_cell bh.out 13).trans rfl, HS14_⟩ (fun hHeld => ?_);clear hK K;refine no_ (some 45) ?_;refine pu_ 6 (some 39) #[true, true, true, true, true, true, true, false, false, false, false] HT_.out ?_;refine pu_ 7 (some 46) #[true, true, true, true, true, true, true, true, false, false, false] HT_.out ?_;refine pu_ 8 (some 47) #[true, true, true, true, true, true, true, true, true, false, false] HT_.out ?_;refine pu_ 9 (some 11) #[true, true, true, true, true, true, true, true, true, true, false] HT_.out ?_;refine pu_ 10 (some 12) #[true, true, true, true, true, true, true, true, true, true, true] HT_.out ?_;refine done_ (done_of HT_.out (by kernel_rfl)) ?_;exact spec_ChangedFields.L1
        ·
         rw [if_neg fe] at H;have c26b0 := qf fe;have c26b1 := bu fe;by_cases eI : dI.length < 8796093022208
         ·
          rw [if_pos eI] at H;have Mu := am eI;clear eI
          obtain ⟨XC, AE⟩ : ∃ y_ : List ByteArray, y_ = (dI ++ [rdOf ByteArray.empty dx cB]) := ⟨_, rfl⟩
          replace H : (spec_ChangedFields.l0 k2 XC dx (wrap64 (cB + 1)) ab aa ai aj ak an ap ar av aw af ac ae ag aR aQ aM aN aZ ba bb aW aX aY aG aH aI aE) = some (r1, r2) := by first | (rw [AE]; with_reducible exact H) | (have H2_ := (Option.bind_some _ _).symm.trans H; rw [AE]; with_reducible exact H2_) | (have H2_ := (Option.bind_some _ _).symm.trans H; with_reducible exact H2_) | with_reducible exact H | (rw [AE]; exact H) | exact H
          have a09 := am AE;clear AE;have H' := am H;clear H;obtain ⟨anT, a3W, a48⟩ := Kd.R_slice dR.out;subst a48
          try go_wp2
          replace bD := am (Kd.R_drew bD.out);replace dR := am (Kd.R_drew dR.out);replace bg := am (blk_drew bg.out);replace bh := am (blk_drew bh.out);replace HB := am (below_drew1 HB.out);have vm : 0 ≤ (cB : Int) := od au106;have vn : cB < (dx.length : Int) := od au106;obtain ⟨nj, Pu, nL⟩ := Kd.at_string (Kd.R_reads' dR.out).2.2 cB vm vn
          cases Pu
          replace vm := eq_true vm;replace vn := eq_true vn;refine start_ (n := 11) (S := fun w' => w'.cell? ⟨bZ, 0, none⟩ = some (.string ab) ∧ w'.cell? ⟨bZ, 1, none⟩ = some (.int .i64 aa) ∧ w'.cell? ⟨bZ, 2, none⟩ = some (.slice bj ai.length bl) ∧ w'.cell? ⟨bZ, 3, none⟩ = some (.slice bm aj.length bn) ∧ w'.cell? ⟨bZ, 4, none⟩ = some (.string ak) ∧ w'.cell? ⟨bZ, 5, none⟩ = some (.string an) ∧ w'.cell? ⟨bZ, 6, none⟩ = some (.string ap) ∧ w'.cell? ⟨bZ, 7, none⟩ = some (.int .i64 ar) ∧ w'.cell? ⟨bZ, 8, none⟩ = some (.int .i64 av) ∧ w'.cell? ⟨bZ, 9, none⟩ = some (.int .i64 aw) ∧ w'.cell? ⟨bZ, 10, none⟩ = some (.bool af) ∧ w'.cell? ⟨bZ, 11, none⟩ = some (.int .i64 ac) ∧ w'.cell? ⟨bZ, 12, none⟩ = some (.string ae) ∧ w'.cell? ⟨bZ, 13, none⟩ = some (.string ag) ∧ w'.cell? (nj.add (cB).toNat) = some (.string (rdOf ByteArray.empty dx cB))) (ds := []) #[false, false, false, false, false, false, false, false, false, false, false] (by kernel_rfl) rfl rfl ⟨(blk_cell bg.out 0).trans rfl, (blk_cell bg.out 1).trans rfl, (blk_cell bg.out 2).trans rfl, (blk_cell bg.out 3).trans rfl, (blk_cell bg.out 4).trans rfl, (blk_cell bg.out 5).trans rfl, (blk_cell bg.out 6).trans rfl, (blk_cell bg.out 7).trans rfl, (blk_cell bg.out 8).trans rfl, (blk_cell bg.out 9).trans rfl, (blk_cell bg.out 10).trans rfl, (blk_cell bg.out 11).trans rfl, (blk_cell bg.out 12).trans rfl, (blk_cell bg.out 13).trans rfl, nL⟩ (fun hHeld => ?_); refine with_tabW spec_ChangedFields.tab8 spec_ChangedFields.bits8 (fun HT_ HW_ => ?_);generalize wr.drew = w34 at bD dR bg bh HB nL hHeld ⊢;refine pu_ 1 (some 32) #[false, true, false, false, false, false, false, false, false, false, false] HT_.out ?_;refine pu_ 2 (some 33) #[false, true, true, false, false, false, false, false, false, false, false] HT_.out ?_;refine pu_ 3 (some 34) #[false, true, true, true, false, false, false, false, false, false, false] HT_.out ?_;refine ta0_ 0 (some 31) #[true, true, true, true, false, false, false, false, false, false, false] HT_.out HW_.out hHeld ?_;refine ta0_ 4 (some 35) #[true, true, true, true, true, false, false, false, false, false, false] HT_.out HW_.out hHeld ?_;refine on_ 5 (some 36) #[true, true, true, true, true, true, false, false, false, false, false] HT_.out (fun K hK => ?_);refine gs_ Tryz.func16 #[.agg #[.string ab, .int .i64 aa, .slice bj ai.length bl, .slice bm aj.length bn, .string ak, .string an, .string ap, .int .i64 ar, .int .i64 av, .int .i64 aw, .bool af, .int .i64 ac, .string ae, .string ag], .string (rdOf ByteArray.empty dx cB)] ?_
          with_reducible refine (spec_l4Field.calls k2 ab aa _ _ ai _ _ aj ak an ap ar av aw af ac ae ag (rdOf ByteArray.empty dx cB) GW XF _ ?ax ?ay ?bi ?bp Kk.out).mono ?_
          (case ax => repeat (first | exact (Kd.C_below ck.out HB.out) | (with_reducible refine Kd.C_alloc ?_ _) | (with_reducible refine Kd.C_drewN ?_ _) | (with_reducible refine Kd.C_drew ?_)))
          (case ay => exact cn.out)
          (case bi => repeat (first | exact (Kd.C_below cz.out HB.out) | (with_reducible refine Kd.C_alloc ?_ _) | (with_reducible refine Kd.C_drewN ?_ _) | (with_reducible refine Kd.C_drew ?_)))
          (case bp => exact cA.out)
          rintro e RB ⟨rfl, hb⟩;have HS14_ := (hb.cell (World.block_lt_of_cell? _ _ (hHeld.2.2.2.2.2.2.2.2.2.2.2.2.2.2))).trans (hHeld.2.2.2.2.2.2.2.2.2.2.2.2.2.2);refine ⟨_, rfl, ?_⟩;replace bD := am (Kd.R_below au103 hb);replace dR := am (Kd.R_below au102 hb);replace bg := am (blk_below (g := bZ) au59 hb);replace bh := am (blk_below (g := ce) au60 hb);replace HB := am (below_step au19 hb)
          (try clear hb)
          refine hK.out _ _ ⟨(blk_cell bg.out 0).trans rfl, (blk_cell bg.out 1).trans rfl, (blk_cell bg.out 2).trans rfl, (blk_cell bg.out 3).trans rfl, (blk_cell bg.out 4).trans rfl, (blk_cell bg.out 5).trans rfl, (blk_cell bg.out 6).trans rfl, (blk_cell bg.out 7).trans rfl, (blk_cell bg.out 8).trans rfl, (blk_cell bg.out 9).trans rfl, (blk_cell bg.out 10).trans rfl, (blk_cell bg.out 11).trans rfl, (blk_cell bg.out 12).trans rfl, (blk_cell bg.out 13).trans rfl, HS14_⟩ (fun hHeld => ?_);clear hK K;refine no_ (some 36) ?_;refine pu_ 6 (some 30) #[true, true, true, true, true, true, true, false, false, false, false] HT_.out ?_;refine pu_ 7 (some 37) #[true, true, true, true, true, true, true, true, false, false, false] HT_.out ?_;refine pu_ 8 (some 38) #[true, true, true, true, true, true, true, true, true, false, false] HT_.out ?_;refine pu_ 9 (some 9) #[true, true, true, true, true, true, true, true, true, true, false] HT_.out ?_;refine pu_ 10 (some 10) #[true, true, true, true, true, true, true, true, true, true, true] HT_.out ?_;refine done_ (done_of HT_.out (by kernel_rfl)) ?_
          try go_wp2
          replace bD := am (Kd.R_drew bD.out);replace dR := am (Kd.R_drew dR.out);replace bg := am (blk_drew bg.out);replace bh := am (blk_drew bh.out);replace HB := am (below_drew1 HB.out);have vo : 0 ≤ (cB : Int) := od au106;have vp : cB < (dx.length : Int) := od au106;obtain ⟨Mw, Pv, nM⟩ := Kd.at_string (Kd.R_reads' dR.out).2.2 cB vo vp
          obtain rfl : nj = Mw := (by injection Pv)
          replace vo := eq_true vo;replace vp := eq_true vp;refine start_ (n := 11) (S := fun w' => w'.cell? ⟨ce, 0, none⟩ = some (.string aR) ∧ w'.cell? ⟨ce, 1, none⟩ = some (.int .i64 aQ) ∧ w'.cell? ⟨ce, 2, none⟩ = some (.slice bI aM.length bJ) ∧ w'.cell? ⟨ce, 3, none⟩ = some (.slice bL aN.length bM) ∧ w'.cell? ⟨ce, 4, none⟩ = some (.string aZ) ∧ w'.cell? ⟨ce, 5, none⟩ = some (.string ba) ∧ w'.cell? ⟨ce, 6, none⟩ = some (.string bb) ∧ w'.cell? ⟨ce, 7, none⟩ = some (.int .i64 aW) ∧ w'.cell? ⟨ce, 8, none⟩ = some (.int .i64 aX) ∧ w'.cell? ⟨ce, 9, none⟩ = some (.int .i64 aY) ∧ w'.cell? ⟨ce, 10, none⟩ = some (.bool aG) ∧ w'.cell? ⟨ce, 11, none⟩ = some (.int .i64 aH) ∧ w'.cell? ⟨ce, 12, none⟩ = some (.string aI) ∧ w'.cell? ⟨ce, 13, none⟩ = some (.string aE) ∧ w'.cell? (nj.add (cB).toNat) = some (.string (rdOf ByteArray.empty dx cB))) (ds := []) #[false, false, false, false, false, false, false, false, false, false, false] (by kernel_rfl) rfl rfl ⟨(blk_cell bh.out 0).trans rfl, (blk_cell bh.out 1).trans rfl, (blk_cell bh.out 2).trans rfl, (blk_cell bh.out 3).trans rfl, (blk_cell bh.out 4).trans rfl, (blk_cell bh.out 5).trans rfl, (blk_cell bh.out 6).trans rfl, (blk_cell bh.out 7).trans rfl, (blk_cell bh.out 8).trans rfl, (blk_cell bh.out 9).trans rfl, (blk_cell bh.out 10).trans rfl, (blk_cell bh.out 11).trans rfl, (blk_cell bh.out 12).trans rfl, (blk_cell bh.out 13).trans rfl, nM⟩ (fun hHeld => ?_); refine with_tabW spec_ChangedFields.tab9 spec_ChangedFields.bits9 (fun HT_ HW_ => ?_);generalize RB.drew = w36 at bD dR bg bh HB nM hHeld ⊢;refine pu_ 1 (some 41) #[false, true, false, false, false, false, false, false, false, false, false] HT_.out ?_;refine pu_ 2 (some 42) #[false, true, true, false, false, false, false, false, false, false, false] HT_.out ?_;refine pu_ 3 (some 43) #[false, true, true, true, false, false, false, false, false, false, false] HT_.out ?_;refine ta0_ 0 (some 40) #[true, true, true, true, false, false, false, false, false, false, false] HT_.out HW_.out hHeld ?_;refine ta0_ 4 (some 44) #[true, true, true, true, true, false, false, false, false, false, false] HT_.out HW_.out hHeld ?_;refine on_ 5 (some 45) #[true, true, true, true, true, true, false, false, false, false, false] HT_.out (fun K hK => ?_);refine gs_ Tryz.func16 #[.agg #[.string aR, .int .i64 aQ, .slice bI aM.length bJ, .slice bL aN.length bM, .string aZ, .string ba, .string bb, .int .i64 aW, .int .i64 aX, .int .i64 aY, .bool aG, .int .i64 aH, .string aI, .string aE], .string (rdOf ByteArray.empty dx cB)] ?_
          with_reducible refine (spec_l4Field.calls k2 aR aQ _ _ aM _ _ aN aZ ba bb aW aX aY aG aH aI aE (rdOf ByteArray.empty dx cB) Mv XG _ ?ax ?ay ?bi ?bp RE.out).mono ?_
          (case ax => repeat (first | exact (Kd.C_below ee.out HB.out) | (with_reducible refine Kd.C_alloc ?_ _) | (with_reducible refine Kd.C_drewN ?_ _) | (with_reducible refine Kd.C_drew ?_)))
          (case ay => exact ef.out)
          (case bi => repeat (first | exact (Kd.C_below em.out HB.out) | (with_reducible refine Kd.C_alloc ?_ _) | (with_reducible refine Kd.C_drewN ?_ _) | (with_reducible refine Kd.C_drew ?_)))
          (case bp => exact en.out)
          rintro e w37 ⟨rfl, hb⟩;have HS14_ := (hb.cell (World.block_lt_of_cell? _ _ (hHeld.2.2.2.2.2.2.2.2.2.2.2.2.2.2))).trans (hHeld.2.2.2.2.2.2.2.2.2.2.2.2.2.2);refine ⟨_, rfl, ?_⟩;replace bD := am (Kd.R_below au103 hb);replace dR := am (Kd.R_below au102 hb);replace bg := am (blk_below (g := bZ) au59 hb);replace bh := am (blk_below (g := ce) au60 hb);replace HB := am (below_step au19 hb)
          (try clear hb)
          refine hK.out _ _ ⟨(blk_cell bh.out 0).trans rfl, (blk_cell bh.out 1).trans rfl, (blk_cell bh.out 2).trans rfl, (blk_cell bh.out 3).trans rfl, (blk_cell bh.out 4).trans rfl, (blk_cell bh.out 5).trans rfl, (blk_cell bh.out 6).trans rfl, (blk_cell bh.out 7).trans rfl, (blk_cell bh.out 8).trans rfl, (blk_cell bh.out 9).trans rfl, (blk_cell bh.out 10).trans rfl, (blk_cell bh.out 11).trans rfl, (blk_cell bh.out 12).trans rfl, (blk_cell bh.out 13).trans rfl, HS14_⟩ (fun hHeld => ?_);clear hK K;refine no_ (some 45) ?_;refine pu_ 6 (some 39) #[true, true, true, true, true, true, true, false, false, false, false] HT_.out ?_;refine pu_ 7 (some 46) #[true, true, true, true, true, true, true, true, false, false, false] HT_.out ?_;refine pu_ 8 (some 47) #[true, true, true, true, true, true, true, true, true, false, false] HT_.out ?_;refine pu_ 9 (some 11) #[true, true, true, true, true, true, true, true, true, true, false] HT_.out ?_;refine pu_ 10 (some 12) #[true, true, true, true, true, true, true, true, true, true, true] HT_.out ?_;refine done_ (done_of HT_.out (by kernel_rfl)) ?_;have Mx : 0 ≤ (cB : Int) := od au106;have My : cB < (dx.length : Int) := od au106;obtain ⟨a0c, a49, Tu⟩ := Kd.at_string (Kd.R_reads' dR.out).2.2 cB Mx My
          obtain rfl : nj = a0c := (by injection a49)
          replace Mx := eq_true Mx;replace My := eq_true My;exact spec_ChangedFields.L1
         · rw [if_neg eI] at H;exact absurd H (by simp)
       · rw [if_neg fc] at H;exact absurd H (by simp)
      ·
       rw [if_neg dy] at H;have c22b0 := df dy;clear dy;have Pw := am H;clear H;obtain ⟨a4a, a4b, a4c⟩ := Kd.R_slice dR.out;subst a4c;have alW := ip.out;have alX := iq.out;obtain ⟨Tv, Tw, Tx, Ty, Tz, TA, TB, TC, TD, TE, Px, Py, Pz, PC, TF, TG, TH, TI, TJ, TK, TL, TM, TN, TO, PD, PE, PF, PH⟩ := blkc14 bg.out;obtain ⟨BQ, BR, BS, BU, BV, BW, BX, BZ, C0, C1, yt, yu, yv, yw, C2, C3, C4, C5, C6, C7, C8, C9, Ca, Cb, yx, yy, yz, yA⟩ := blkc14 bh.out
       go_upto_if 62 with (fail)
       go_cut [6] (fun v6 wc => ∃ (kq : Nat) (mH : List ByteArray), Aside0 (spec_ChangedFields.j2 kq mH ab aa ai aj ak an ap ar av aw af ac ae ag aR aQ aM aN aZ ba bb aW aX aY aG aH aI aE = some (r1, r2)) ∧ Aside0 (kq ≤ k2) ∧ Aside0 (Kd.R Kd.string 9 wc w.heap.size (fun _ => True) v6 mH) ∧ Aside0 (wc.heap[bZ]? = some (.cells #[.string ab, .int .i64 aa, (.slice bj ai.length bl), (.slice bm aj.length bn), .string ak, .string an, .string ap, .int .i64 ar, .int .i64 av, .int .i64 aw, .bool af, .int .i64 ac, .string ae, .string ag] 34 (0, 0))) ∧ Aside0 (wc.heap[ce]? = some (.cells #[.string aR, .int .i64 aQ, (.slice bI aM.length bJ), (.slice bL aN.length bM), .string aZ, .string ba, .string bb, .int .i64 aW, .int .i64 aX, .int .i64 aY, .bool aG, .int .i64 aH, .string aI, .string aE] 34 (0, 0))) ∧ Aside0 (Below w.heap.size w wc))
       case first =>
        have H := Pw.out;clear Pw;by_cases qc : ag.toList = aE.toList
        ·
         rw [if_pos qc] at H;have c44b0 := qt qc;have c44b1 := bf qc;clear qc
         (first | rw [c44b0] | (simp only [i64_w, i32_w]; rw [c44b0]) | skip)
         have H' := am H;clear H;exact spec_ChangedFields.L0
        ·
         rw [if_neg qc] at H;have c44b0 := qf qc;have c44b1 := bu qc
         (first | rw [c44b0] | (simp only [i64_w, i32_w]; rw [c44b0]) | skip)
         by_cases lf : dI.length < 8796093022208
         ·
          rw [if_pos lf] at H;have Mz := am lf;clear lf
          obtain ⟨XH, AF⟩ : ∃ y_ : List ByteArray, y_ = (dI ++ [(⟨#[99, 114, 111, 115, 115]⟩ : ByteArray)]) := ⟨_, rfl⟩
          replace H : (spec_ChangedFields.j2 k2 XH ab aa ai aj ak an ap ar av aw af ac ae ag aR aQ aM aN aZ ba bb aW aX aY aG aH aI aE) = some (r1, r2) := by first | (rw [AF]; with_reducible exact H) | (have H2_ := (Option.bind_some _ _).symm.trans H; rw [AF]; with_reducible exact H2_) | (have H2_ := (Option.bind_some _ _).symm.trans H; with_reducible exact H2_) | with_reducible exact H | (rw [AF]; exact H) | exact H
          have a0d := am AF;clear AF;have H' := am H;clear H;go_wp2_with (first | ((with_reducible refine gate_builtin (b := .append) (xs := #[.tmp 63, .tmp 64]) rfl ?_); at_builtin; refine Kd.R_append Kd.string (w0 := w) w.heap.size rfl (.tmp 63) (.tmp 64) 28 9 (.string ⟨#[]⟩) 16 rfl Tryz.underlying28 info9 rfl (by decide) (by omega) u6 dI (⟨#[99, 114, 111, 115, 115]⟩ : ByteArray) [.string (⟨#[99, 114, 111, 115, 115]⟩ : ByteArray)] (fun k_ => some k_ ≠ (.slice a4a dx.length a4b : Value).ownBlock) (fun _ => False) rfl rfl ?aP (fun _ hk => hk.elim) ?aF ?aO ?aB ?aS ?aL ?_; (case aP => exact rfl); (case aB => exact au19); (case aF => exact (fun k_ hk => Kd.fresh' (Kd.R_lt au102) k_ hk)); (case aO => exact au103); (case aS => exact (below_size au19)); (case aL => have := Mz.out; omega); intro anU w46 ho hb hg hat; rw [← a0d.out] at ho; have cZ := am (Kd.R_after (ok := (fun _ => True)) au49 hg hat); have d0 := am (blk_grown (g := bZ) (o := .cells #[.string ab, .int .i64 aa, .slice bj ai.length bl, .slice bm aj.length bn, .string ak, .string an, .string ap, .int .i64 ar, .int .i64 av, .int .i64 aw, .bool af, .int .i64 ac, .string ae, .string ag] 34 (0, 0)) au59 hg (Kd.R_ne bD.out bg.out (by decide))); have dQ := am (blk_grown (g := ce) (o := .cells #[.string aR, .int .i64 aQ, .slice bI aM.length bJ, .slice bL aN.length bM, .string aZ, .string ba, .string bb, .int .i64 aW, .int .i64 aX, .int .i64 aY, .bool aG, .int .i64 aH, .string aI, .string aE] 34 (0, 0)) au60 hg (Kd.R_ne bD.out bh.out (by decide))); have dU := am (hb); have vk := am (ho); clear dR; clear bg; clear bh; clear HB; clear bD; have dR := cZ; have bg := d0; have bh := dQ; have HB := dU; have a0e := vk; clear cZ d0 dQ dU vk; clear ho hb hg hat));go_meet
          case rel => exact ⟨_, (XH), H', ⟨by have := xH.out; have := HK2.out; first | omega | exact Nat.le_refl _⟩, ⟨by (with_reducible repeat (first | apply Kd.R_alloc | apply Kd.R_drewN | apply Kd.R_drew)); exact Kd.R_mono a0e.out (fun _ hk => trivial)⟩, ⟨by (with_reducible repeat (first | refine blk_drewN ?_ _ | refine blk_drew ?_ | refine blk_alloc ?_ _)); exact bg.out⟩, ⟨by (with_reducible repeat (first | refine blk_drewN ?_ _ | refine blk_drew ?_ | refine blk_alloc ?_ _)); exact bh.out⟩, ⟨by repeat (first | (with_reducible first | exact HB.out | apply below_alloc | apply pw_below_drewN | apply below_drew1 | refine below_set ?_ iE.out | refine below_set ?_ jx.out) | exact HB.out)⟩⟩
         · rw [if_neg lf] at H;exact absurd H (by simp)
       case rest =>
        clear Pw
        try clear c1
        try clear c2
        try clear p2
        try clear q2
        try clear hx2
        try clear c3
        try clear c4
        try clear p6
        try clear cb
        try clear eJ
        try clear eE
        try clear oZ
        try clear p21
        try clear q21
        try clear anV
        try clear dy
        try clear c22b0
        try clear fc
        try clear fe
        try clear c26b0
        try clear c26b1
        try clear eI
        try clear c41
        try clear qc
        try clear c44b0
        try clear c44b1
        try clear lf
        try clear Tv Tw Px Py Pz PC Tx Ty Tz TA TB TC TD TE TF TG PD PE PF PH TH TI TJ TK TL TM TN TO
        try clear BQ BR yt yu yv yw BS BU BV BW BX BZ C0 C1 C2 C3 yx yy yz yA C4 C5 C6 C7 C8 C9 Ca Cb
        try clear nL
        try clear nM
        try clear Tu
        try clear vm
        try clear vo
        try clear Mx
        try clear vn
        try clear vp
        try clear My
        obtain ⟨kq, mH, HA, anW, bD, bg, bh, HB⟩ := hcut
        cases kq with
        | zero => exact absurd HA.out (by simp [spec_ChangedFields.j2])
        | succ anX =>
         have H := HA.out;clear HA;simp only [spec_ChangedFields.j2] at H;by_cases GX : aa = aQ
         ·
          rw [if_pos GX] at H;have c47b0 := qt GX;have c47b1 := bf GX;clear GX;by_cases GY : ab.toList = aR.toList
          · rw [if_pos GY] at H;have c48b0 := qt GY;have c48b1 := bf GY;clear GY;simp only [Option.some.injEq, Prod.mk.injEq] at H;obtain ⟨rfl, rfl⟩ := H;have alY := ip.out;have alZ := iq.out;obtain ⟨TP, TQ, TR, TS, TT, TU, TV, TW, TX, TY, PI, PK, PL, PM, TZ, U0, U1, U2, U3, U4, U5, U6, U7, U8, PN, PO, PP, PQ⟩ := blkc14 bg.out;obtain ⟨U9, Ua, Ub, Uc, Ud, Ue, Uf, Ug, Uh, Ui, PR, PS, PT, PU, Uj, Uk, Ul, Um, Un, Uo, Up, Uq, Ur, Us, PV, PW, PX, PY⟩ := blkc14 bh.out;exact spec_ChangedFields.L2
          ·
           rw [if_neg GY] at H;have c48b0 := qf GY;have c48b1 := bu GY;by_cases O4 : mH.length < 8796093022208
           ·
            rw [if_pos O4] at H;have a0f := am O4;clear O4
            obtain ⟨a4d, AG⟩ : ∃ y_ : List ByteArray, y_ = (mH ++ [(⟨#[107, 101, 121]⟩ : ByteArray)]) := ⟨_, rfl⟩
            replace H : (some (a4d, true)) = some (r1, r2) := by first | (rw [AG]; with_reducible exact H) | (have H2_ := (Option.bind_some _ _).symm.trans H; rw [AG]; with_reducible exact H2_) | (have H2_ := (Option.bind_some _ _).symm.trans H; with_reducible exact H2_) | with_reducible exact H | (rw [AG]; exact H) | exact H
            have a0g := am AG;clear AG;simp only [Option.some.injEq, Prod.mk.injEq] at H;obtain ⟨rfl, rfl⟩ := H;have a0h := ip.out;have a0i := iq.out;obtain ⟨acr, acs, acu, acv, acw, acx, acy, acz, acA, acB, a4e, a4f, a4g, a4h, acC, acD, acE, acF, acG, acH, acI, acJ, acK, acL, a4i, a4j, a4k, a4l⟩ := blkc14 bg.out;obtain ⟨Kl, Km, Kn, Ko, Kp, Kq, Kr, Ks, Kt, Ku, GZ, H0, H1, H2, wX, wY, wZ, xa, xb, xc, xd, xe, xf, xg, u2, u4, u7, u9⟩ := blkc14 bh.out;go_wp2_with (first | ((with_reducible refine gate_builtin (b := .append) (xs := #[.tmp 79, .tmp 80]) rfl ?_); at_builtin; refine Kd.R_append Kd.string (w0 := w) w.heap.size rfl (.tmp 79) (.tmp 80) 28 9 (.string ⟨#[]⟩) 16 rfl Tryz.underlying28 info9 rfl (by decide) (by omega) u6 mH (⟨#[107, 101, 121]⟩ : ByteArray) [.string (⟨#[107, 101, 121]⟩ : ByteArray)] (fun _ => True) (fun _ => False) rfl rfl ?aP (fun _ hk => hk.elim) ?aF ?aO ?aB ?aS ?aL ?_; (case aP => exact rfl); (case aB => exact au19); (case aF => exact (fun _ _ => trivial)); (case aO => exact au103); (case aS => exact (below_size au19)); (case aL => have := a0f.out; omega); intro anY w56 ho hb hg hat; rw [← a0g.out] at ho; have cZ := am (blk_grown (g := bZ) (o := .cells #[.string ab, .int .i64 aa, .slice bj ai.length bl, .slice bm aj.length bn, .string ak, .string an, .string ap, .int .i64 ar, .int .i64 av, .int .i64 aw, .bool af, .int .i64 ac, .string ae, .string ag] 34 (0, 0)) au59 hg (Kd.R_ne bD.out bg.out (by decide))); have d0 := am (blk_grown (g := ce) (o := .cells #[.string aR, .int .i64 aQ, .slice bI aM.length bJ, .slice bL aN.length bM, .string aZ, .string ba, .string bb, .int .i64 aW, .int .i64 aX, .int .i64 aY, .bool aG, .int .i64 aH, .string aI, .string aE] 34 (0, 0)) au60 hg (Kd.R_ne bD.out bh.out (by decide))); have dQ := am (hb); have dU := am (ho); clear bg; clear bh; clear HB; clear bD; have bg := cZ; have bh := d0; have HB := dQ; have a0j := dU; clear cZ d0 dQ dU; clear ho hb hg hat));go_ret2;exact ⟨_, by first | rfl | (simp [errW_none, errW_some] <;> rfl) | (simp [*, errW_none, errW_some] <;> rfl), by (with_reducible repeat (first | apply Kd.R_alloc | apply Kd.R_drewN | apply Kd.R_drew)); exact a0j.out, by repeat (first | (with_reducible first | exact HB.out | apply below_alloc | apply pw_below_drewN | apply below_drew1 | refine below_set ?_ iE.out | refine below_set ?_ jx.out) | exact HB.out)⟩
           · rw [if_neg O4] at H;exact absurd H (by simp)
         ·
          rw [if_neg GX] at H;have c47b0 := qf GX;have c47b1 := bu GX;by_cases RO : mH.length < 8796093022208
          ·
           rw [if_pos RO] at H;have RH := am RO;clear RO
           obtain ⟨qj, AH⟩ : ∃ y_ : List ByteArray, y_ = (mH ++ [(⟨#[107, 105, 110, 100]⟩ : ByteArray)]) := ⟨_, rfl⟩
           replace H : (if ab.toList = aR.toList then (some (qj, true)) else (if qj.length < 8796093022208 then (some ((qj ++ [(⟨#[107, 101, 121]⟩ : ByteArray)]), true)) else (none))) = some (r1, r2) := by first | (rw [AH]; with_reducible exact H) | (have H2_ := (Option.bind_some _ _).symm.trans H; rw [AH]; with_reducible exact H2_) | (have H2_ := (Option.bind_some _ _).symm.trans H; with_reducible exact H2_) | with_reducible exact H | (rw [AH]; exact H) | exact H
           have RI := am AH;clear AH;by_cases H3 : ab.toList = aR.toList
           · rw [if_pos H3] at H;have c58b0 := qt H3;have c58b1 := bf H3;clear H3;simp only [Option.some.injEq, Prod.mk.injEq] at H;obtain ⟨rfl, rfl⟩ := H;have am0 := ip.out;have am1 := iq.out;obtain ⟨acM, acN, acO, acP, acQ, acR, acS, acT, acU, acV, a4m, a4n, a4o, a4p, acW, acX, acY, acZ, ad0, ad1, ad2, ad3, ad4, ad5, a4q, a4r, a4s, a4t⟩ := blkc14 bg.out;obtain ⟨Ut, Uu, Uv, Uw, Ux, Uy, Uz, UA, UB, UC, PZ, Q0, Q1, Q2, UD, UE, UF, UG, UH, UI, UJ, UK, UL, UM, Q3, Q4, Q5, Q6⟩ := blkc14 bh.out;exact spec_ChangedFields.L2
           ·
            rw [if_neg H3] at H;have c58b0 := qf H3;have c58b1 := bu H3;by_cases RP : qj.length < 8796093022208
            ·
             rw [if_pos RP] at H;have a0k := am RP;clear RP
             obtain ⟨a4u, AI⟩ : ∃ y_ : List ByteArray, y_ = (qj ++ [(⟨#[107, 101, 121]⟩ : ByteArray)]) := ⟨_, rfl⟩
             replace H : (some (a4u, true)) = some (r1, r2) := by first | (rw [AI]; with_reducible exact H) | (have H2_ := (Option.bind_some _ _).symm.trans H; rw [AI]; with_reducible exact H2_) | (have H2_ := (Option.bind_some _ _).symm.trans H; with_reducible exact H2_) | with_reducible exact H | (rw [AI]; exact H) | exact H
             have a0l := am AI;clear AI;simp only [Option.some.injEq, Prod.mk.injEq] at H;obtain ⟨rfl, rfl⟩ := H;have am2 := ip.out;have am3 := iq.out;obtain ⟨ad6, ad7, ad8, ad9, ada, adb, adc, ade, adf, adg, a4v, a4w, a4x, a4y, adh, adi, adj, adk, adl, adm, adn, ado, adp, adq, a4z, a4A, a4B, a4C⟩ := blkc14 bg.out;obtain ⟨adr, ads, adt, adu, adv, adw, adx, ady, adz, adA, a4D, a4E, a4F, a4G, adB, adC, adD, adE, adF, adG, adH, adI, adJ, adK, a4H, a4I, a4J, a4K⟩ := blkc14 bh.out;go_wp2_with (first | ((with_reducible refine gate_builtin (b := .append) (xs := #[.tmp 71, .tmp 72]) rfl ?_); at_builtin; refine Kd.R_append Kd.string (w0 := w) w.heap.size rfl (.tmp 71) (.tmp 72) 28 9 (.string ⟨#[]⟩) 16 rfl Tryz.underlying28 info9 rfl (by decide) (by omega) u6 mH (⟨#[107, 105, 110, 100]⟩ : ByteArray) [.string (⟨#[107, 105, 110, 100]⟩ : ByteArray)] (fun _ => True) (fun _ => False) rfl rfl ?aP (fun _ hk => hk.elim) ?aF ?aO ?aB ?aS ?aL ?_; (case aP => exact rfl); (case aB => exact au19); (case aF => exact (fun _ _ => trivial)); (case aO => exact au103); (case aS => exact (below_size au19)); (case aL => have := RH.out; omega); intro XD w69 ho hb hg hat; rw [← RI.out] at ho; have cZ := am (blk_grown (g := bZ) (o := .cells #[.string ab, .int .i64 aa, .slice bj ai.length bl, .slice bm aj.length bn, .string ak, .string an, .string ap, .int .i64 ar, .int .i64 av, .int .i64 aw, .bool af, .int .i64 ac, .string ae, .string ag] 34 (0, 0)) au59 hg (Kd.R_ne bD.out bg.out (by decide))); have d0 := am (blk_grown (g := ce) (o := .cells #[.string aR, .int .i64 aQ, .slice bI aM.length bJ, .slice bL aN.length bM, .string aZ, .string ba, .string bb, .int .i64 aW, .int .i64 aX, .int .i64 aY, .bool aG, .int .i64 aH, .string aI, .string aE] 34 (0, 0)) au60 hg (Kd.R_ne bD.out bh.out (by decide))); have dQ := am (hb); have dU := am (ho); clear bg; clear bh; clear HB; clear bD; have bg := cZ; have bh := d0; have HB := dQ; have wW := dU; clear cZ d0 dQ dU; clear ho hb hg hat; obtain ⟨adL, adM, adN, adO, adP, adQ, adR, adS, adT, adU, a4L, a4M, a4N, a4O, adV, adW, adX, adY, adZ, ae0, ae1, ae2, ae3, ae4, a4P, a4Q, a4R, a4S⟩ := blkc14 bg.out; obtain ⟨ae5, ae6, ae7, ae8, ae9, aea, aeb, aec, aed, aee, a4T, a4U, a4V, a4W, aef, aeg, aeh, aei, aej, aek, ael, aem, aen, aeo, a4X, a4Y, a4Z, a50⟩ := blkc14 bh.out) | ((with_reducible refine gate_builtin (b := .append) (xs := #[.tmp 79, .tmp 80]) rfl ?_); at_builtin; refine Kd.R_append Kd.string (w0 := w) w.heap.size rfl (.tmp 79) (.tmp 80) 28 9 (.string ⟨#[]⟩) 16 rfl Tryz.underlying28 info9 rfl (by decide) (by omega) XD qj (⟨#[107, 101, 121]⟩ : ByteArray) [.string (⟨#[107, 101, 121]⟩ : ByteArray)] (fun _ => True) (fun _ => False) rfl rfl ?aP (fun _ hk => hk.elim) ?aF ?aO ?aB ?aS ?aL ?_; (case aP => exact rfl); (case aB => exact au19); (case aF => exact (fun _ _ => trivial)); (case aO => exact (by (with_reducible repeat (first | apply Kd.R_alloc | apply Kd.R_drewN | apply Kd.R_drew)); exact wW.out)); (case aS => exact (below_size au19)); (case aL => have := a0k.out; omega); intro anZ w72 ho hb hg hat; rw [← a0l.out] at ho; have cZ := am (blk_grown (g := bZ) (o := .cells #[.string ab, .int .i64 aa, .slice bj ai.length bl, .slice bm aj.length bn, .string ak, .string an, .string ap, .int .i64 ar, .int .i64 av, .int .i64 aw, .bool af, .int .i64 ac, .string ae, .string ag] 34 (0, 0)) au59 hg (Kd.R_ne wW.out bg.out (by decide))); have d0 := am (blk_grown (g := ce) (o := .cells #[.string aR, .int .i64 aQ, .slice bI aM.length bJ, .slice bL aN.length bM, .string aZ, .string ba, .string bb, .int .i64 aW, .int .i64 aX, .int .i64 aY, .bool aG, .int .i64 aH, .string aI, .string aE] 34 (0, 0)) au60 hg (Kd.R_ne wW.out bh.out (by decide))); have dQ := am (hb); have dU := am (ho); clear bg; clear bh; clear HB; clear wW; have bg := cZ; have bh := d0; have HB := dQ; have a0m := dU; clear cZ d0 dQ dU; clear ho hb hg hat));go_ret2;exact ⟨_, by first | rfl | (simp [errW_none, errW_some] <;> rfl) | (simp [*, errW_none, errW_some] <;> rfl), by (with_reducible repeat (first | apply Kd.R_alloc | apply Kd.R_drewN | apply Kd.R_drew)); exact a0m.out, by repeat (first | (with_reducible first | exact HB.out | apply below_alloc | apply pw_below_drewN | apply below_drew1 | refine below_set ?_ iE.out | refine below_set ?_ jx.out) | exact HB.out)⟩
            · rw [if_neg RP] at H;exact absurd H (by simp)
          · rw [if_neg RO] at H;exact absurd H (by simp)
def laws_toStringS.l0 : Nat → List ByteArray → List ByteArray → Int → Option (List ByteArray)
 | 0, _, _, _ => none
 | k + 1, x0, x3, x4 => if x4 < (x0.length : Int) then (if 0 ≤ x4 then (if x4 < (x3.length : Int) then (laws_toStringS.l0 k x0 (x3.set (x4 : Int).toNat (rdOf ByteArray.empty x0 x4)) (wrap64 (x4 + 1))) else (none)) else (none)) else (some x3)
def laws_toStringS.f (k : Nat) (l0 : List ByteArray) : Option (List ByteArray) := if 0 ≤ (l0.length : Int) then (if ((l0.length : Int) : Int).toNat ≤ 17592186044416 then (laws_toStringS.l0 k l0 (List.replicate ((l0.length : Int) : Int).toNat (⟨#[]⟩ : ByteArray)) 0) else (none)) else (none)
theorem laws_toStringS.mono_l : ∀ k, (∀ y0 y1 y2, LeO (laws_toStringS.l0 k y0 y1 y2) (laws_toStringS.l0 (k + 1) y0 y1 y2))
 | 0 => fun _ _ _ r h => by simp [laws_toStringS.l0] at h
 | k + 1 => by
  have ih0 := laws_toStringS.mono_l k
  ·
   intro y0 y1 y2;unfold laws_toStringS.l0
   repeat' first
   | (with_reducible exact ih0 _ _ _)
   | (with_reducible exact LeO.refl _)
   | (with_reducible exact LeO.none _)
   | (with_reducible refine LeO.ite ?_ ?_)
   | (with_reducible refine LeO.bind ?_ (fun _ => ?_))
   | exact ih0 _ _ _
   | exact LeO.none _
   | refine LeO.ite ?_ ?_
   | refine LeO.bind ?_ (fun _ => ?_)
theorem laws_toStringS.mono : ∀ a0 k, LeO (laws_toStringS.f k a0) (laws_toStringS.f (k + 1) a0) := by
 intro a0 k;have ih0 := laws_toStringS.mono_l k;unfold laws_toStringS.f
 repeat' first
   | (with_reducible exact ih0 _ _ _)
   | (with_reducible exact LeO.refl _)
   | (with_reducible exact LeO.none _)
   | (with_reducible refine LeO.ite ?_ ?_)
   | (with_reducible refine LeO.bind ?_ (fun _ => ?_))
   | exact ih0 _ _ _
   | exact LeO.none _
   | refine LeO.ite ?_ ?_
   | refine LeO.bind ?_ (fun _ => ?_)
set_option maxHeartbeats 8000000 in
set_option maxRecDepth 100000 in
theorem laws_toStringS.calls (k : Nat) (A0 : Option Addr) (c0 : Nat) (l0 : List ByteArray) (r : List ByteArray) (w : World) (dn : Kd.C Kd.string w A0 l0.length l0) (d5 : l0.length ≤ c0) (h : laws_toStringS.f k l0 = some r) :
  Calls Tryz.prog 49 #[.slice A0 l0.length c0] w fun e w' => ∃ gA : Value, e = .returned (gA) ∧ Kd.R Kd.string 9 w' w.heap.size (fun _ => True) gA r ∧ Below w.heap.size w w' := by
 have dM := am dn;have lr := am d5;clear dn d5;have HB := am (Below.refl w.heap.size w);have H : (if 0 ≤ (l0.length : Int) then (if ((l0.length : Int) : Int).toNat ≤ 17592186044416 then (laws_toStringS.l0 k l0 (List.replicate ((l0.length : Int) : Int).toNat (⟨#[]⟩ : ByteArray)) 0) else (none)) else (none)) = some r := h;clear h;by_cases c2 : 0 ≤ (l0.length : Int)
 ·
  rw [if_pos c2] at H;have c2b0 := eq_true c2;have c2b1 := dt c2;clear c2;by_cases c3 : ((l0.length : Int) : Int).toNat ≤ 17592186044416
  ·
   rw [if_pos c3] at H;have c3b0 := eq_true c3;have c3b1 := dt c3;clear c3
   obtain ⟨XI, AJ⟩ : ∃ y_ : List ByteArray, y_ = (List.replicate ((l0.length : Int) : Int).toNat (⟨#[]⟩ : ByteArray)) := ⟨_, rfl⟩
   replace H : (laws_toStringS.l0 k l0 XI 0) = some r := by first | (rw [AJ]; with_reducible exact H) | (have H2_ := (Option.bind_some _ _).symm.trans H; rw [AJ]; with_reducible exact H2_) | (have H2_ := (Option.bind_some _ _).symm.trans H; with_reducible exact H2_) | with_reducible exact H | (rw [AJ]; exact H) | exact H
   have RQ := am AJ;clear AJ;have H' := am H;clear H;go_enter Tryz.func49, Tryz.ntmps49;go_wp2_with (first | ((with_reducible refine gate_dst (N := 7) rfl ?_); refine Kd.R_make Kd.string _ 9 rfl (N := 7) rfl 28 _ _ rfl (l0.length : Int) rfl rfl Tryz.underlying28 (.string ⟨#[]⟩) 16 info9 rfl (by decide) (by omega) (⟨#[]⟩ : ByteArray) (ok := fun _ => True) (okp := fun _ => True) rfl (fun _ hk => hk) trivial (od au106) (Nat.le_trans (Nat.mul_le_mul_right _ (od au106 : (l0.length : Int).toNat ≤ 17592186044416)) (by omega)) (Below.refl _ _) (Nat.le_refl _) ?_; intro a52 w4 ho5 hb hg_ hnew_; clear hg_ hnew_; (first | rw [← RQ.out] at ho5 | (simp only [Int.reduceToNat] at ho5; rw [← RQ.out] at ho5)); have a0n := am (Kd.R_lower ho5 (below_size au51)); replace HB := am (below_step au51 hb); clear hb ho5))
   go_loopg [4] k (fun kq v4 w' => ∃ (aJ : List ByteArray) (aU : Int), v4 = .int .i64 aU ∧ Aside0 (laws_toStringS.l0 kq l0 aJ aU = some r) ∧ Aside0 (kq ≤ k) ∧ Aside0 (Kd.R Kd.string 9 w' w.heap.size (fun _ => True) a52 aJ) ∧ Aside0 (Below w.heap.size w w'))
   case atStart => exact ⟨(XI), (0), au107, H', ⟨Nat.le_refl _⟩, ⟨by (with_reducible repeat (first | apply Kd.R_alloc | apply Kd.R_drewN | apply Kd.R_drew)); exact a0n.out⟩, ⟨by repeat (first | (with_reducible first | exact HB.out | apply below_alloc | apply pw_below_drewN | apply below_drew1) | exact HB.out)⟩⟩
   case round =>
    clear H'
    try clear c2
    try clear c2b0
    try clear c2b1
    try clear p2
    try clear c3
    try clear c3b0
    try clear c3b1
    try clear c4
    obtain ⟨aJ, aU, rfl, HA, HK1, cj, HB⟩ := hrel
    cases gk with
    | zero => exact absurd HA.out (by simp [laws_toStringS.l0])
    | succ k1 =>
     have H := HA.out;clear HA;simp only [laws_toStringS.l0] at H;by_cases c6 : aU < (l0.length : Int)
     ·
      rw [if_pos c6] at H;have c6b0 := dt c6;clear c6;by_cases c7 : 0 ≤ aU
      ·
       rw [if_pos c7] at H;have c7b0 := dt c7;clear c7;by_cases c8 : aU < (aJ.length : Int)
       ·
        rw [if_pos c8] at H;have c8b0 := dt c8;clear c8
        obtain ⟨Q7, AK⟩ : ∃ y_ : List ByteArray, y_ = (aJ.set (aU : Int).toNat (rdOf ByteArray.empty l0 aU)) := ⟨_, rfl⟩
        replace H : (laws_toStringS.l0 k1 l0 Q7 (wrap64 (aU + 1))) = some r := by first | (rw [AK]; with_reducible exact H) | (have H2_ := (Option.bind_some _ _).symm.trans H; rw [AK]; with_reducible exact H2_) | (have H2_ := (Option.bind_some _ _).symm.trans H; with_reducible exact H2_) | with_reducible exact H | (rw [AK]; exact H) | exact H
        have a0o := am AK;clear AK;have H' := am H;clear H;have Q8 : 0 ≤ (aU : Int) := od au106;have Q9 : aU < (l0.length : Int) := od au106;obtain ⟨am4, a54, Kv⟩ := Kd.at_string dM.out aU Q8 Q9
        cases a54
        replace Kv := bcl HB.out Kv;replace Q8 := eq_true Q8;replace Q9 := eq_true Q9;have p9 : 0 ≤ (aU : Int) := od au106;have q9 : (aU : Int) < ((aJ.length : Int) : Int) := od au106;obtain ⟨go9, WY, Ry, gb9, gl9, cl9, HG9⟩ := Kd.R_form cj.out (by omega)
        (first | cases Ry | (injection Ry with ea_ en_ ec_; (first | subst ea_ | (injection ea_ with ea_; subst ea_)); subst ec_; clear en_))
        have GB9 := am gb9;have GG9 := am HG9;clear gb9 gl9 HG9;obtain ⟨am5, am6⟩ := Kd.R_celln (⟨#[]⟩ : ByteArray) cj.out (aU : Int) p9 q9;replace p9 := eq_true p9;replace q9 := eq_true q9;have Qa := Kd.R_putg cj.out (aU : Int) (rdOf ByteArray.empty l0 aU);go_wp2_with (first | ((with_reducible refine gate_store (t := 9) (p := 20) rfl ?_); refine store_event (t := 9) (p := 20) (v := ?vo_w11) (w1 := (wr.setCell ⟨go9, (aU : Int).toNat, none⟩ (.string (rdOf ByteArray.empty l0 aU)))) ?hg ?ho ?hn ?hr ?_; (case ho => rfl); (case hg => rfl); (case hn => rfl); (case hr => first | (go_simp; done) | (go_simp; rfl)); intro ls hw; have hg : wr.grownBy ls (some go9) := (by rw [hw]; exact Qa.2); have hp_ : Kd.R Kd.string 9 ls w.heap.size (fun _ => True) (.slice (some ⟨go9, 0, none⟩) aJ.length WY) Q7 := (by rw [hw, a0o.out]; exact Qa.1); clear Qa; replace cj := am (hp_); replace HB := am ((by rw [hw]; exact below_set (HB.out) GB9.out : Below w.heap.size w ls)); clear hg hw hp_))
        go_roundg k1
        case measure => have := HK1.out; omega
        case rel => exact ⟨(Q7), (wrap64 (aU + 1)), au107, H', ⟨by have := HK1.out; omega⟩, ⟨by (with_reducible repeat (first | apply Kd.R_alloc | apply Kd.R_drewN | apply Kd.R_drew)); exact cj.out⟩, ⟨by repeat (first | (with_reducible first | exact HB.out | apply below_alloc | apply pw_below_drewN | apply below_drew1) | exact HB.out)⟩⟩
       · rw [if_neg c8] at H;exact absurd H (by simp)
      · rw [if_neg c7] at H;exact absurd H (by simp)
     · rw [if_neg c6] at H;have c6b0 := df c6;clear c6;obtain rfl := ojz H;go_wp2;go_ret;exact ⟨_, by first | rfl | (simp [errW_none, errW_some] <;> rfl) | (simp [*, errW_none, errW_some] <;> rfl), by (with_reducible repeat (first | apply Kd.R_alloc | apply Kd.R_drewN | apply Kd.R_drew)); exact cj.out, by repeat (first | (with_reducible first | exact HB.out | apply below_alloc | apply pw_below_drewN | apply below_drew1) | exact HB.out)⟩
  · rw [if_neg c3] at H;exact absurd H (by simp)
 · rw [if_neg c2] at H;exact absurd H (by simp)
def laws_toName.f (k : Nat) (aV : List ByteArray) (aa : ByteArray) (aC : ByteArray) (aA : ByteArray) : Option (List ByteArray × ByteArray × ByteArray × ByteArray) := (laws_toStringS.f k aV).bind fun pN => (some (pN, aa, aC, aA))
theorem laws_toName.mono : ∀ a0 a1 a2 a3 k, LeO (laws_toName.f k a0 a1 a2 a3) (laws_toName.f (k + 1) a0 a1 a2 a3) := by
 intro a0 a1 a2 a3 k;unfold laws_toName.f
 repeat' first
   | (with_reducible exact laws_toStringS.mono _ _)
   | (with_reducible exact LeO.refl _)
   | (with_reducible exact LeO.none _)
   | (with_reducible refine LeO.ite ?_ ?_)
   | (with_reducible refine LeO.bind ?_ (fun _ => ?_))
   | exact laws_toStringS.mono _ _
   | exact LeO.none _
   | refine LeO.ite ?_ ?_
   | refine LeO.bind ?_ (fun _ => ?_)
set_option maxHeartbeats 8000000 in
set_option maxRecDepth 100000 in
theorem laws_toName.calls (k : Nat) (cC : Option Addr) (cD : Nat) (aV : List ByteArray) (aa : ByteArray) (aC : ByteArray) (aA : ByteArray) (r1 : List ByteArray) (r2 : ByteArray) (r3 : ByteArray) (r4 : ByteArray) (w : World) (dN : Kd.C Kd.string w cC aV.length aV) (dA : aV.length ≤ cD) (h : laws_toName.f k aV aa aC aA = some (r1, r2, r3, r4)) :
  Calls Tryz.prog 34 #[.agg #[.slice cC aV.length cD, .string aa, .string aC, .string aA]] w fun e w' => ∃ gA : Value, e = .returned (.agg #[gA, .string r2, .string r3, .string r4]) ∧ Kd.R Kd.string 9 w' w.heap.size (fun _ => True) gA r1 ∧ Below w.heap.size w w' := by
 have hu55 := Tryz.underlying55;have hu62 := Tryz.underlying62;have el := am dN;have fP := am dA;clear dN dA;have HB := am (Below.refl w.heap.size w);have H : ((laws_toStringS.f k aV).bind fun pN => (some (pN, aa, aC, aA))) = some (r1, r2, r3, r4) := h;clear h;replace H := ob H;obtain ⟨pN, dP, H⟩ := H
 try dsimp only at H
 have A2 := am dP;clear dP;simp only [Option.some.injEq, Prod.mk.injEq] at H;obtain ⟨rfl, rfl, rfl, rfl⟩ := H;go_enter Tryz.func34, Tryz.ntmps34;go_wp2_with (first | ((with_reducible refine gate_dst (N := 1) rfl ?_); refine box_event ?hg (N := 1) ?hd (cs := #[.slice cC aV.length cD, .string aa, .string aC, .string aA]) (t := 55) ?hr ?_; (case hd => rfl); (case hg => rfl); (case hr => first | (go_simp; done) | (go_simp; rfl)); intro ua hg w3 hbox hb; have vI := am (hbox); have am7 := am (bsz hg au51); have F9 := am (bsz hg au51); replace HB := am (below_step au51 hb); clear hb hbox hg) | ((with_reducible refine gate_dst (N := 2) rfl ?_); refine box_event ?hg (N := 2) ?hd (cs := #[.slice none 0 0, .string (⟨#[]⟩ : ByteArray), .string (⟨#[]⟩ : ByteArray), .string (⟨#[]⟩ : ByteArray)]) (t := 62) ?hr ?_; (case hd => rfl); (case hg => rfl); (case hr => first | (go_simp; done) | (go_simp; rfl)); intro nk hg w4 hbox hb; have vJ := am (hbox); have am8 := am (bsz hg au34); have Mf := am (bsz hg au34); replace HB := am (below_step au34 hb); have O5 := am (bne (g := ua) hg au61); have O6 := am (ben (g := ua) hg au61); replace vI := am (blk_below (g := ua) au61 hb); clear hb hbox hg) | ((with_reducible refine gate_dst (N := 3) rfl ?_); refine box_event ?hg (N := 3) ?hd (cs := #[.slice none 0 0, .string (⟨#[]⟩ : ByteArray), .string (⟨#[]⟩ : ByteArray), .string (⟨#[]⟩ : ByteArray)]) (t := 62) ?hr ?_; (case hd => rfl); (case hg => rfl); (case hr => first | (go_simp; done) | (go_simp; rfl)); intro AL hg w5 hbox hb; have Fu := am (hbox); have am9 := am (bsz hg au20); have Re := am (bsz hg au20); replace HB := am (below_step au20 hb); have O7 := am (bne (g := ua) hg au61); have O8 := am (ben (g := ua) hg au61); replace vI := am (blk_below (g := ua) au61 hb); have mP := am (bne (g := nk) hg au62); have O9 := am (ben (g := nk) hg au62); replace vJ := am (blk_below (g := nk) au62 hb); clear hb hbox hg; have a55 := O5.out; have a56 := O6.out; have a57 := O7.out; have a58 := O8.out; obtain ⟨sP, sQ, sR, sS, mL, mM, mN, mO⟩ := blkc4 vI.out) | ((with_reducible refine gate_callee (f := 49) rfl ?_); refine goesL_ (some 6) rfl rfl Tryz.func49 (by kernel_rfl) rfl #[.slice cC aV.length cD] rfl au50 ?_; (with_reducible refine (laws_toStringS.calls k _ _ aV pN _ ?ax ?ay A2.out).mono ?_); (case ax => repeat (first | exact (Kd.C_below el.out HB.out) | (with_reducible refine Kd.C_alloc ?_ _) | (with_reducible refine Kd.C_drewN ?_ _) | (with_reducible refine Kd.C_drew ?_))); (case ay => exact fP.out); rintro e w9 ⟨ao0, rfl, ho0, hb⟩; refine ⟨_, rfl, ?_⟩; have RR := am (Kd.R_lower ho0 (below_size au15)); replace vI := am (blk_below (g := ua) au61 hb); replace vJ := am (blk_below (g := nk) au62 hb); replace Fu := am (blk_below (g := AL) (by (with_reducible repeat (first | refine blk_drewN ?_ _ | refine blk_drew ?_ | refine blk_alloc ?_ _)); exact Fu.out) hb); replace HB := am (below_step au15 hb); (try clear hb); (try clear ho0); obtain ⟨CV, ub, MA⟩ := Kd.R_slice RR.out; subst MA; have RL := O9.out; have RN := mP.out; obtain ⟨gQ, gR, gS, gT, gU, gV, gW, gX⟩ := blkc4 Fu.out; obtain ⟨lX, lY, lZ, m0, m4, m5, m6, m7⟩ := blkc4 vI.out; obtain ⟨lx, ly, lz, lB, lC, lD, lF, lG⟩ := blkc4 vJ.out));refine bodyPost_ret (results_cell_row rfl _ _ nk 62 #[.slice CV pN.length ub, .string aa, .string aC, .string aA] (0, 0) _ rfl (by (with_reducible repeat (first | refine blk_drewN ?_ _ | refine blk_drew ?_ | refine blk_alloc ?_ _)); refine blk_put (cs := #[.slice CV pN.length ub, .string aa, .string aC, .string (⟨#[]⟩ : ByteArray)]) ?_ 3 _ rfl; (with_reducible repeat (first | refine blk_drewN ?_ _ | refine blk_drew ?_ | refine blk_alloc ?_ _)); refine blk_put (cs := #[.slice CV pN.length ub, .string aa, .string (⟨#[]⟩ : ByteArray), .string (⟨#[]⟩ : ByteArray)]) ?_ 2 _ rfl; (with_reducible repeat (first | refine blk_drewN ?_ _ | refine blk_drew ?_ | refine blk_alloc ?_ _)); refine blk_put (cs := #[.slice CV pN.length ub, .string (⟨#[]⟩ : ByteArray), .string (⟨#[]⟩ : ByteArray), .string (⟨#[]⟩ : ByteArray)]) ?_ 1 _ rfl; (with_reducible repeat (first | refine blk_drewN ?_ _ | refine blk_drew ?_ | refine blk_alloc ?_ _)); refine blk_put (cs := #[.slice none 0 0, .string (⟨#[]⟩ : ByteArray), .string (⟨#[]⟩ : ByteArray), .string (⟨#[]⟩ : ByteArray)]) ?_ 0 _ rfl; (with_reducible repeat (first | refine blk_drewN ?_ _ | refine blk_drew ?_ | refine blk_alloc ?_ _)); refine blk_far ?_ mP.out _; (with_reducible repeat (first | refine blk_drewN ?_ _ | refine blk_drew ?_ | refine blk_alloc ?_ _)); refine blk_far ?_ mP.out _; (with_reducible repeat (first | refine blk_drewN ?_ _ | refine blk_drew ?_ | refine blk_alloc ?_ _)); refine blk_far ?_ mP.out _; (with_reducible repeat (first | refine blk_drewN ?_ _ | refine blk_drew ?_ | refine blk_alloc ?_ _)); refine blk_far ?_ mP.out _; (with_reducible repeat (first | refine blk_drewN ?_ _ | refine blk_drew ?_ | refine blk_alloc ?_ _)); exact vJ.out) Tryz.underlying62 rfl (by kernel_rfl)) rfl ?_;exact ⟨_, by first | rfl | (simp [errW_none, errW_some] <;> rfl) | (simp [*, errW_none, errW_some] <;> rfl), by (with_reducible repeat (first | apply Kd.R_alloc | apply Kd.R_drewN | apply Kd.R_drew)); exact Kd.R_mono (Kd.R_far (p := ⟨nk, 3, none⟩) (Kd.R_far (p := ⟨nk, 2, none⟩) (Kd.R_far (p := ⟨nk, 1, none⟩) (Kd.R_far (p := ⟨nk, 0, none⟩) (Kd.R_far (p := ⟨AL, 3, none⟩) (Kd.R_far (p := ⟨AL, 2, none⟩) (Kd.R_far (p := ⟨AL, 1, none⟩) (Kd.R_far (p := ⟨AL, 0, none⟩) (Kd.R_types (Kd.R_types RR.out Fu.out (by decide)) vJ.out (by decide)) (fun _ hk => hk.1.2) (.slice CV pN.length ub)) (fun _ hk => hk.1.2) (.string aa)) (fun _ hk => hk.1.2) (.string aC)) (fun _ hk => hk.1.2) (.string aA)) (fun _ hk => hk.2) (.slice CV pN.length ub)) (fun _ hk => hk.2) (.string aa)) (fun _ hk => hk.2) (.string aC)) (fun _ hk => hk.2) (.string aA)) (fun _ hk => trivial), by repeat (first | (with_reducible first | exact HB.out | apply below_alloc | apply pw_below_drewN | apply below_drew1 | refine below_set ?_ F9.out | refine below_set ?_ Mf.out | refine below_set ?_ Re.out) | exact HB.out)⟩
def laws_toNameS.l0 : Nat → List (S55) → List (S62) → Int → Option ((List (S62)))
 | 0, _, _, _ => none
 | k + 1, x0, x3, x4 => if x4 < (x0.length : Int) then (if 0 ≤ x4 then ((laws_toName.f k ((rd_T55 x0 x4).f0) ((rd_T55 x0 x4).f1) ((rd_T55 x0 x4).f2) ((rd_T55 x0 x4).f3)).bind fun Fv => (if x4 < (x3.length : Int) then (laws_toNameS.l0 k x0 (x3.set (x4 : Int).toNat (⟨Fv.1, Fv.2.1, Fv.2.2.1, Fv.2.2.2⟩ : S62)) (wrap64 (x4 + 1))) else (none))) else (none)) else (some x3)
def laws_toNameS.f (k : Nat) (l0 : List (S55)) : Option ((List (S62))) := if 0 ≤ (l0.length : Int) then (if ((l0.length : Int) : Int).toNat ≤ 3909374676536 then (laws_toNameS.l0 k l0 (List.replicate ((l0.length : Int) : Int).toNat z62) 0) else (none)) else (none)
theorem laws_toNameS.mono_l : ∀ k, (∀ y0 y1 y2, LeO (laws_toNameS.l0 k y0 y1 y2) (laws_toNameS.l0 (k + 1) y0 y1 y2))
 | 0 => fun _ _ _ r h => by simp [laws_toNameS.l0] at h
 | k + 1 => by
  have ih0 := laws_toNameS.mono_l k
  ·
   intro y0 y1 y2;unfold laws_toNameS.l0
   repeat' first
   | (with_reducible exact ih0 _ _ _)
   | (with_reducible exact laws_toName.mono _ _ _ _ _)
   | (with_reducible exact LeO.refl _)
   | (with_reducible exact LeO.none _)
   | (with_reducible refine LeO.ite ?_ ?_)
   | (with_reducible refine LeO.bind ?_ (fun _ => ?_))
   | exact ih0 _ _ _
   | exact laws_toName.mono _ _ _ _ _
   | exact LeO.none _
   | refine LeO.ite ?_ ?_
   | refine LeO.bind ?_ (fun _ => ?_)
theorem laws_toNameS.mono : ∀ a0 k, LeO (laws_toNameS.f k a0) (laws_toNameS.f (k + 1) a0) := by
 intro a0 k;have ih0 := laws_toNameS.mono_l k;unfold laws_toNameS.f
 repeat' first
   | (with_reducible exact ih0 _ _ _)
   | (with_reducible exact laws_toName.mono _ _ _ _ _)
   | (with_reducible exact LeO.refl _)
   | (with_reducible exact LeO.none _)
   | (with_reducible refine LeO.ite ?_ ?_)
   | (with_reducible refine LeO.bind ?_ (fun _ => ?_))
   | exact ih0 _ _ _
   | exact laws_toName.mono _ _ _ _ _
   | exact LeO.none _
   | refine LeO.ite ?_ ?_
   | refine LeO.bind ?_ (fun _ => ?_)
set_option maxHeartbeats 8000000 in
set_option maxRecDepth 100000 in
theorem laws_toNameS.calls (k : Nat) (A0 : Option Addr) (c0 : Nat) (l0 : List (S55)) (r : List (S62)) (w : World) (dn : Kd.C k55 w A0 l0.length l0) (d5 : l0.length ≤ c0) (h : laws_toNameS.f k l0 = some r) :
  Calls Tryz.prog 17 #[.slice A0 l0.length c0] w fun e w' => ∃ gA : Value, e = .returned (gA) ∧ Kd.S k62 62 w' w.heap.size (fun _ => True) gA r ∧ Below w.heap.size w w' := by
 have hu55 := Tryz.underlying55;have hu62 := Tryz.underlying62;have dM := am dn;have lr := am d5;clear dn d5;have HB := am (Below.refl w.heap.size w);have H : (if 0 ≤ (l0.length : Int) then (if ((l0.length : Int) : Int).toNat ≤ 3909374676536 then (laws_toNameS.l0 k l0 (List.replicate ((l0.length : Int) : Int).toNat z62) 0) else (none)) else (none)) = some r := h;clear h;by_cases c2 : 0 ≤ (l0.length : Int)
 ·
  rw [if_pos c2] at H;have c2b0 := eq_true c2;have c2b1 := dt c2;clear c2;by_cases c3 : ((l0.length : Int) : Int).toNat ≤ 3909374676536
  ·
   rw [if_pos c3] at H;have c3b0 := eq_true c3;have c3b1 := dt c3;clear c3
   obtain ⟨XJ, AM⟩ : ∃ y_ : List (S62), y_ = (List.replicate ((l0.length : Int) : Int).toNat z62) := ⟨_, rfl⟩
   replace H : (laws_toNameS.l0 k l0 XJ 0) = some r := by first | (rw [AM]; with_reducible exact H) | (have H2_ := (Option.bind_some _ _).symm.trans H; rw [AM]; with_reducible exact H2_) | (have H2_ := (Option.bind_some _ _).symm.trans H; with_reducible exact H2_) | with_reducible exact H | (rw [AM]; exact H) | exact H
   have RS := am AM;clear AM;have H' := am H;clear H;go_enter Tryz.func17, Tryz.ntmps17;go_wp2_with (first | ((with_reducible refine gate_dst (N := 7) rfl ?_); refine Kd.S_make k62 _ 62 rfl (N := 7) rfl 31 _ _ rfl (l0.length : Int) rfl rfl Tryz.underlying31 (.agg #[(.slice none 0 0), (.string ⟨#[]⟩), (.string ⟨#[]⟩), (.string ⟨#[]⟩)]) 72 info62 rfl (by decide) (by omega) z62 (ok := fun _ => True) (okp := fun _ => True) (k62_mkM _ _ _ z62 (Kd.R_nil _ _ _ _ _)) (fun _ hk => hk) trivial (od au106) (Nat.le_trans (Nat.mul_le_mul_right _ (od au106 : (l0.length : Int).toNat ≤ 3909374676536)) (by omega)) (Below.refl _ _) (Nat.le_refl _) ?_; intro a59 w4 ho5 hb hg_ hnew_; clear hg_ hnew_; (first | rw [← RS.out] at ho5 | (simp only [Int.reduceToNat] at ho5; rw [← RS.out] at ho5)); have a0p := am (Kd.S_lower ho5 (below_size au51)); replace HB := am (below_step au51 hb); clear hb ho5))
   go_loopg [4] k (fun kq v4 w' => ∃ (aJ : List (S62)) (aU : Int), v4 = .int .i64 aU ∧ Aside0 (laws_toNameS.l0 kq l0 aJ aU = some r) ∧ Aside0 (kq ≤ k) ∧ Aside0 (Kd.S k62 62 w' w.heap.size (fun _ => True) a59 aJ) ∧ Aside0 (Below w.heap.size w w'))
   case atStart => exact ⟨(XJ), (0), au107, H', ⟨Nat.le_refl _⟩, ⟨by (with_reducible repeat (first | apply Kd.S_alloc | apply Kd.S_drewN | apply Kd.S_drew)); exact a0p.out⟩, ⟨by repeat (first | (with_reducible first | exact HB.out | apply below_alloc | apply pw_below_drewN | apply below_drew1) | exact HB.out)⟩⟩
   case round =>
    clear H'
    try clear c1
    try clear c2
    try clear c2b0
    try clear c2b1
    try clear p2
    try clear c3
    try clear c3b0
    try clear c3b1
    obtain ⟨aJ, aU, rfl, HA, HK1, cj, HB⟩ := hrel
    cases gk with
    | zero => exact absurd HA.out (by simp [laws_toNameS.l0])
    | succ k1 =>
     have H := HA.out;clear HA;simp only [laws_toNameS.l0] at H;by_cases c6 : aU < (l0.length : Int)
     ·
      rw [if_pos c6] at H;have c6b0 := dt c6;clear c6;by_cases c7 : 0 ≤ aU
      ·
       rw [if_pos c7] at H;have c7b0 := dt c7;clear c7;replace H := ob H;obtain ⟨⟨uc, yV, yW, yX⟩, jT, H⟩ := H;replace H : (if aU < (aJ.length : Int) then (laws_toNameS.l0 k1 l0 (aJ.set (aU : Int).toNat (⟨uc, yV, yW, yX⟩ : S62)) (wrap64 (aU + 1))) else (none)) = some r := H;have A8 := am jT;clear jT;by_cases c9 : aU < (aJ.length : Int)
       ·
        rw [if_pos c9] at H;have c9b0 := dt c9;clear c9
        obtain ⟨Qb, AN⟩ : ∃ y_ : List (S62), y_ = (aJ.set (aU : Int).toNat (⟨uc, yV, yW, yX⟩ : S62)) := ⟨_, rfl⟩
        replace H : (laws_toNameS.l0 k1 l0 Qb (wrap64 (aU + 1))) = some r := by first | (rw [AN]; with_reducible exact H) | (have H2_ := (Option.bind_some _ _).symm.trans H; rw [AN]; with_reducible exact H2_) | (have H2_ := (Option.bind_some _ _).symm.trans H; with_reducible exact H2_) | with_reducible exact H | (rw [AN]; exact H) | exact H
        have a0q := am AN;clear AN;have H' := am H;clear H;have Qc : 0 ≤ (aU : Int) := od au106;have Qd : aU < (l0.length : Int) := od au106;obtain ⟨ama, XK, XL, a5a, Kw, Kx, Ky, Kz, KA, KB⟩ := at_T55 dM.out aU Qc Qd
        cases a5a
        replace Kw := bcl HB.out Kw;replace Kx := bcl HB.out Kx;replace Ky := bcl HB.out Ky;replace Kz := bcl HB.out Kz;have UN := am KB;have UO := am KA;clear KB KA;replace Qc := eq_true Qc;replace Qd := eq_true Qd;go_wp2_with (first | ((with_reducible refine gate_callee (f := 34) rfl ?_); refine goesL_ (some 20) rfl rfl Tryz.func34 (by kernel_rfl) rfl #[.agg #[.slice XK ((rd_T55 l0 aU).f0).length XL, .string ((rd_T55 l0 aU).f1), .string ((rd_T55 l0 aU).f2), .string ((rd_T55 l0 aU).f3)]] rfl au50 ?_; (with_reducible refine (laws_toName.calls k1 _ _ ((rd_T55 l0 aU).f0) ((rd_T55 l0 aU).f1) ((rd_T55 l0 aU).f2) ((rd_T55 l0 aU).f3) uc yV yW yX _ ?ax ?ay A8.out).mono ?_); (case ax => repeat (first | exact (Kd.C_below UN.out HB.out) | (with_reducible refine Kd.C_alloc ?_ _) | (with_reducible refine Kd.C_drewN ?_ _) | (with_reducible refine Kd.C_drew ?_))); (case ay => exact UO.out); rintro e ls ⟨ao1, rfl, ho0, hb⟩; obtain ⟨AO, AP, XM⟩ := Kd.R_slice ho0; subst XM; refine ⟨_, rfl, ?_⟩; replace cj := am (Kd.S_elder' (by (with_reducible repeat (first | apply Kd.S_alloc | apply Kd.S_drewN | apply Kd.S_drew)); exact cj.out) (Kd.R_base ho0) hb); have MB := am (Kd.R_lower ho0 (below_size au51)); replace HB := am (below_step au51 hb); (try clear hb); (try clear ho0); have XN : 0 ≤ (aU : Int) := od au106; have XO : (aU : Int) < ((aJ.length : Int) : Int) := od au106; obtain ⟨go10, ub, MA, XP, a5b, cl10, XQ⟩ := Kd.S_form cj.out (by omega); (first | cases MA | (injection MA with ea_ en_ ec_; (first | subst ea_ | (injection ea_ with ea_; subst ea_)); subst ec_; clear en_)); have MC := am XP; have GG10 := am XQ; clear XP a5b XQ; obtain ⟨_, ao2, a0r, XR, AQ, AR, _, _⟩ := Kd.S_elem cj.out z62 (aU : Int) XN XO; obtain ⟨XS, rfl, ge10_0⟩ := k62_openM XR; have akQ : ls.cell? ⟨go10, (aU : Int).toNat * 4, none⟩ = some (XS) := AQ 0 _ rfl; have akR : ls.cell? ⟨go10, (aU : Int).toNat * 4 + 1, none⟩ = some (.string ((rd_T62 aJ aU).f1)) := AQ 1 _ rfl; have akS : ls.cell? ⟨go10, (aU : Int).toNat * 4 + 2, none⟩ = some (.string ((rd_T62 aJ aU).f2)) := AQ 2 _ rfl; have akT : ls.cell? ⟨go10, (aU : Int).toNat * 4 + 3, none⟩ = some (.string ((rd_T62 aJ aU).f3)) := AQ 3 _ rfl; have akU : ls.frozen? ⟨go10, (aU : Int).toNat * 4, none⟩ = false := AR 0; have akV : ls.frozen? ⟨go10, (aU : Int).toNat * 4 + 1, none⟩ = false := AR 1; have akW : ls.frozen? ⟨go10, (aU : Int).toNat * 4 + 2, none⟩ = false := AR 2; have akX : ls.frozen? ⟨go10, (aU : Int).toNat * 4 + 3, none⟩ = false := AR 3; clear a0r AQ AR XR; replace XN := eq_true XN; replace XO := eq_true XO; have n_ := am (Kd.S_mono (ok' := (fun k_ => some k_ ≠ ((.slice AO uc.length AP : Value) : Value).ownBlock)) cj.out (fun k_ hk => hk.2)); clear cj; have cj := n_; clear n_; have a5c := am (show Kd.S k62 62 ls w.heap.size (fun k_ => ((fun _ => True)) k_ ∧ ¬ ((fun k_ => some k_ = ((.slice AO uc.length AP : Value) : Value).ownBlock)) k_) (.slice (some ⟨go10, 0, none⟩) aJ.length ub) aJ from (by (with_reducible repeat (first | apply Kd.S_alloc | apply Kd.S_drewN | apply Kd.S_drew)); exact Kd.S_mono cj.out (fun k_ hk => ⟨trivial, fun e_ => hk e_⟩))); obtain ⟨amb, ao3, a0s, XT, AU, AV, XU, XV⟩ := Kd.S_elem a5c.out z62 (aU : Int) (od au106) (by have h_ : (aU : Int) < ((aJ.length : Int) : Int) := od au106; first | exact h_ | (have e_ := (Kd.S_reads' cj.out).1; omega) | simpa using h_); obtain ⟨akY, rfl, ge12_0⟩ := k62_openM XT; have Qe := Kd.S_seg XV (od au106) (by have h_ : (aU : Int) < ((aJ.length : Int) : Int) := od au106; first | exact h_ | (have e_ := (Kd.S_reads' cj.out).1; omega) | simpa using h_) (seg := [(.slice AO uc.length AP : Value), .string yV, .string yW, .string yX]) (j := 0) (show 4 ≤ 4 from by decide) (x' := (⟨uc, yV, yW, yX⟩ : S62)) (k62_mkM _ _ _ (⟨uc, yV, yW, yX⟩ : S62) (Kd.R_mono (Kd.R_tight rfl (Kd.R_mono (ok' := fun k_ => ((fun _ => True)) k_ ∧ k_ ≠ go10) (Kd.R_apart' (MB.out) (Kd.S_typed cj.out) (by decide)) (fun k_ hk => ⟨trivial, fun e_ => (hk.2) (by rw [e_]; rfl)⟩))) (fun _ h_ => Or.inr (h_)))) (fun _ hk => hk) (fun k_ hk_ => ((Kd.R_mono (ok' := fun k_ => ((fun _ => True)) k_ ∧ k_ ≠ go10) (Kd.R_apart' (MB.out) (Kd.S_typed cj.out) (by decide)) (fun k_ hk => ⟨trivial, fun e_ => (hk.2) (by rw [e_]; rfl)⟩))).1 k_ hk_.symm); have XW := AU 0 _ rfl; (try simp only [show (k62).sz = 4 from rfl, Nat.mul_one, Nat.add_zero] at XW); have XX := AV 0; (try simp only [show (k62).sz = 4 from rfl, Nat.mul_one, Nat.add_zero] at XX); have XY := AU 1 _ rfl; (try simp only [show (k62).sz = 4 from rfl, Nat.mul_one, Nat.add_zero] at XY); have XZ := AV 1; (try simp only [show (k62).sz = 4 from rfl, Nat.mul_one, Nat.add_zero] at XZ); have Y0 := AU 2 _ rfl; (try simp only [show (k62).sz = 4 from rfl, Nat.mul_one, Nat.add_zero] at Y0); have Y1 := AV 2; (try simp only [show (k62).sz = 4 from rfl, Nat.mul_one, Nat.add_zero] at Y1); have Y2 := AU 3 _ rfl; (try simp only [show (k62).sz = 4 from rfl, Nat.mul_one, Nat.add_zero] at Y2); have Y3 := AV 3; (try simp only [show (k62).sz = 4 from rfl, Nat.mul_one, Nat.add_zero] at Y3); clear a0s AU AV XT XU XV) | ((with_reducible refine gate_store (t := 62) (p := 21) rfl ?_); refine store_event (t := 62) (p := 21) (v := ?vo_w13) (w1 := ((((ls.setCell ⟨go10, (aU : Int).toNat * 4, none⟩ ((.slice AO uc.length AP : Value))).setCell ⟨go10, (aU : Int).toNat * 4 + 1, none⟩ (.string yV)).setCell ⟨go10, (aU : Int).toNat * 4 + 2, none⟩ (.string yW)).setCell ⟨go10, (aU : Int).toNat * 4 + 3, none⟩ (.string yX))) ?hg ?ho ?hn ?hr ?_; (case ho => rfl); (case hg => rfl); (case hn => rfl); (case hr => first | (go_simp; done) | (go_simp; rfl)); intro uC hw; have hg : ls.grownBy uC (some go10) := (by rw [hw]; exact Qe.2); have hp_ : Kd.S k62 62 uC w.heap.size (fun _ => True) (.slice (some ⟨go10, 0, none⟩) aJ.length ub) Qb := (by rw [hw, a0q.out]; exact Qe.1); clear Qe; have cZ := am (hp_); have d0 := am ((by rw [hw]; exact below_set (below_set (below_set (below_set (HB.out) MC.out) MC.out) MC.out) MC.out : Below w.heap.size w uC)); clear cj; clear HB; clear MB; have cj := cZ; have HB := d0; clear cZ d0; clear hg hw hp_))
        go_roundg k1
        case measure => have := HK1.out; omega
        case rel => exact ⟨(Qb), (wrap64 (aU + 1)), au107, H', ⟨by have := HK1.out; omega⟩, ⟨by (with_reducible repeat (first | apply Kd.S_alloc | apply Kd.S_drewN | apply Kd.S_drew)); exact cj.out⟩, ⟨by repeat (first | (with_reducible first | exact HB.out | apply below_alloc | apply pw_below_drewN | apply below_drew1) | exact HB.out)⟩⟩
       · rw [if_neg c9] at H;exact absurd H (by simp)
      · rw [if_neg c7] at H;exact absurd H (by simp)
     · rw [if_neg c6] at H;have c6b0 := df c6;clear c6;obtain rfl := ojz H;go_wp2;go_ret;exact ⟨_, by first | rfl | (simp [errW_none, errW_some] <;> rfl) | (simp [*, errW_none, errW_some] <;> rfl), by (with_reducible repeat (first | apply Kd.S_alloc | apply Kd.S_drewN | apply Kd.S_drew)); exact cj.out, by repeat (first | (with_reducible first | exact HB.out | apply below_alloc | apply pw_below_drewN | apply below_drew1) | exact HB.out)⟩
  · rw [if_neg c3] at H;exact absurd H (by simp)
 · rw [if_neg c2] at H;exact absurd H (by simp)
def laws_toDate.f (ab : Int) (aa : Int) (aC : Int) (aA : Bool) : Option (Int × Int × Int × Bool) := some (ab, aa, aC, aA)
set_option maxHeartbeats 8000000 in
set_option maxRecDepth 100000 in
theorem laws_toDate.calls (ab : Int) (aa : Int) (aC : Int) (aA : Bool) (r1 : Int) (r2 : Int) (r3 : Int) (r4 : Bool) (w : World) (h : laws_toDate.f ab aa aC aA = some (r1, r2, r3, r4)) :
  Calls Tryz.prog 18 #[.agg #[.int .i64 ab, .int .i64 aa, .int .i64 aC, .bool aA]] w fun e w' => e = .returned (.agg #[.int .i64 r1, .int .i64 r2, .int .i64 r3, .bool r4]) ∧ Below w.heap.size w w' := by
 have hu24 := Tryz.underlying24;have hu32 := Tryz.underlying32;have HB := am (Below.refl w.heap.size w);have H : (some (ab, aa, aC, aA)) = some (r1, r2, r3, r4) := h;clear h;simp only [Option.some.injEq, Prod.mk.injEq] at H;obtain ⟨rfl, rfl, rfl, rfl⟩ := H;go_enter Tryz.func18, Tryz.ntmps18;go_wp2_with (first | ((with_reducible refine gate_dst (N := 1) rfl ?_); refine box_event ?hg (N := 1) ?hd (cs := #[.int .i64 ab, .int .i64 aa, .int .i64 aC, .bool aA]) (t := 24) ?hr ?_; (case hd => rfl); (case hg => rfl); (case hr => first | (go_simp; done) | (go_simp; rfl)); intro xh hg w2 hbox hb; have Ff := am (hbox); have amc := am (bsz hg au51); have Mh := am (bsz hg au51); replace HB := am (below_step au51 hb); clear hb hbox hg) | ((with_reducible refine gate_dst (N := 2) rfl ?_); refine box_event ?hg (N := 2) ?hd (cs := #[.int .i64 0, .int .i64 0, .int .i64 0, .bool false]) (t := 32) ?hr ?_; (case hd => rfl); (case hg => rfl); (case hr => first | (go_simp; done) | (go_simp; rfl)); intro Fw hg w3 hbox hb; have Fg := am (hbox); have amd := am (bsz hg au35); have Rh := am (bsz hg au35); replace HB := am (below_step au35 hb); have Oa := am (bne (g := xh) hg au63); have Ob := am (ben (g := xh) hg au63); replace Ff := am (blk_below (g := xh) au63 hb); clear hb hbox hg) | ((with_reducible refine gate_dst (N := 3) rfl ?_); refine box_event ?hg (N := 3) ?hd (cs := #[.int .i64 0, .int .i64 0, .int .i64 0, .bool false]) (t := 32) ?hr ?_; (case hd => rfl); (case hg => rfl); (case hr => first | (go_simp; done) | (go_simp; rfl)); intro ame hg w4 hbox hb; have a0t := am (hbox); have amf := am (bsz hg au21); have a0u := am (bsz hg au21); replace HB := am (below_step au21 hb); have Oc := am (bne (g := xh) hg au63); have Od := am (ben (g := xh) hg au63); replace Ff := am (blk_below (g := xh) au63 hb); have mQ := am (bne (g := Fw) hg au64); have Oe := am (ben (g := Fw) hg au64); replace Fg := am (blk_below (g := Fw) au64 hb); clear hb hbox hg; have ao4 := Oa.out; have ao5 := Ob.out; have a55 := Oc.out; have a56 := Od.out; obtain ⟨jl, jm, jn, jo, jp, jq, jr, js⟩ := blkc4 Ff.out; have a5d := Oe.out; have a5e := mQ.out; obtain ⟨WM, WN, WO, WP, WQ, WR, WS, WT⟩ := blkc4 a0t.out; obtain ⟨k9, ka, kb, kc, ke, kf, kg, kh⟩ := blkc4 Fg.out));refine bodyPost_ret (results_cell_row rfl _ _ Fw 32 #[.int .i64 ab, .int .i64 aa, .int .i64 aC, .bool aA] (0, 0) _ rfl (by (with_reducible repeat (first | refine blk_drewN ?_ _ | refine blk_drew ?_ | refine blk_alloc ?_ _)); refine blk_put (cs := #[.int .i64 ab, .int .i64 aa, .int .i64 aC, .bool false]) ?_ 3 _ rfl; (with_reducible repeat (first | refine blk_drewN ?_ _ | refine blk_drew ?_ | refine blk_alloc ?_ _)); refine blk_put (cs := #[.int .i64 ab, .int .i64 aa, .int .i64 0, .bool false]) ?_ 2 _ rfl; (with_reducible repeat (first | refine blk_drewN ?_ _ | refine blk_drew ?_ | refine blk_alloc ?_ _)); refine blk_put (cs := #[.int .i64 ab, .int .i64 0, .int .i64 0, .bool false]) ?_ 1 _ rfl; (with_reducible repeat (first | refine blk_drewN ?_ _ | refine blk_drew ?_ | refine blk_alloc ?_ _)); refine blk_put (cs := #[.int .i64 0, .int .i64 0, .int .i64 0, .bool false]) ?_ 0 _ rfl; (with_reducible repeat (first | refine blk_drewN ?_ _ | refine blk_drew ?_ | refine blk_alloc ?_ _)); refine blk_far ?_ mQ.out _; (with_reducible repeat (first | refine blk_drewN ?_ _ | refine blk_drew ?_ | refine blk_alloc ?_ _)); refine blk_far ?_ mQ.out _; (with_reducible repeat (first | refine blk_drewN ?_ _ | refine blk_drew ?_ | refine blk_alloc ?_ _)); refine blk_far ?_ mQ.out _; (with_reducible repeat (first | refine blk_drewN ?_ _ | refine blk_drew ?_ | refine blk_alloc ?_ _)); refine blk_far ?_ mQ.out _; (with_reducible repeat (first | refine blk_drewN ?_ _ | refine blk_drew ?_ | refine blk_alloc ?_ _)); exact Fg.out) Tryz.underlying32 rfl (by kernel_rfl)) rfl ?_;exact ⟨by first | rfl | (simp [errW_none, errW_some] <;> rfl) | (simp [*, errW_none, errW_some] <;> rfl), by repeat (first | (with_reducible first | exact HB.out | apply below_alloc | apply pw_below_drewN | apply below_drew1 | refine below_set ?_ Mh.out | refine below_set ?_ Rh.out | refine below_set ?_ a0u.out) | exact HB.out)⟩
def laws_toEntry.f (k : Nat) (ab : ByteArray) (aa : Int) (ai : List (S55)) (aj : List (S55)) (ak : ByteArray) (an : ByteArray) (ap : ByteArray) (ar : Int) (av : Int) (aw : Int) (af : Bool) (ac : Int) (ae : ByteArray) (ag : ByteArray) : Option (ByteArray × Int × (List (S62)) × (List (S62)) × ByteArray × ByteArray × ByteArray × Int × Int × Int × Bool × Int × ByteArray × ByteArray) := (laws_toNameS.f k ai).bind fun ej => ((laws_toNameS.f k aj).bind fun eB => ((laws_toDate.f ar av aw af).bind fun nl => (some (ab, aa, ej, eB, ak, an, ap, nl.1, nl.2.1, nl.2.2.1, nl.2.2.2, ac, ae, ag))))
theorem laws_toEntry.mono : ∀ a0 a1 a2 a3 a4 a5 a6 a7 a8 a9 cP cQ cR cS k, LeO (laws_toEntry.f k a0 a1 a2 a3 a4 a5 a6 a7 a8 a9 cP cQ cR cS) (laws_toEntry.f (k + 1) a0 a1 a2 a3 a4 a5 a6 a7 a8 a9 cP cQ cR cS) := by
 intro a0 a1 a2 a3 a4 a5 a6 a7 a8 a9 cP cQ cR cS k;unfold laws_toEntry.f
 repeat' first
   | (with_reducible exact laws_toNameS.mono _ _)
   | (with_reducible exact LeO.refl _)
   | (with_reducible exact LeO.none _)
   | (with_reducible refine LeO.ite ?_ ?_)
   | (with_reducible refine LeO.bind ?_ (fun _ => ?_))
   | exact laws_toNameS.mono _ _
   | exact LeO.none _
   | refine LeO.ite ?_ ?_
   | refine LeO.bind ?_ (fun _ => ?_)
set_option maxHeartbeats 8000000 in
set_option maxRecDepth 100000 in
theorem laws_toEntry.calls (k : Nat) (ab : ByteArray) (aa : Int) (bj : Option Addr) (bl : Nat) (ai : List (S55)) (bm : Option Addr) (bn : Nat) (aj : List (S55)) (ak : ByteArray) (an : ByteArray) (ap : ByteArray) (ar : Int) (av : Int) (aw : Int) (af : Bool) (ac : Int) (ae : ByteArray) (ag : ByteArray) (r1 : ByteArray) (r2 : Int) (r3 : List (S62)) (r4 : List (S62)) (r5 : ByteArray) (r6 : ByteArray) (r7 : ByteArray) (r8 : Int) (r9 : Int) (r10 : Int) (r11 : Bool) (r12 : Int) (r13 : ByteArray) (r14 : ByteArray) (w : World) (cV : Kd.C k55 w bj ai.length ai) (cL : ai.length ≤ bl) (cW : Kd.C k55 w bm aj.length aj) (cM : aj.length ≤ bn) (h : laws_toEntry.f k ab aa ai aj ak an ap ar av aw af ac ae ag = some (r1, r2, r3, r4, r5, r6, r7, r8, r9, r10, r11, r12, r13, r14)) :
  Calls Tryz.prog 6 #[.agg #[.string ab, .int .i64 aa, .slice bj ai.length bl, .slice bm aj.length bn, .string ak, .string an, .string ap, .int .i64 ar, .int .i64 av, .int .i64 aw, .bool af, .int .i64 ac, .string ae, .string ag]] w fun e w' => ∃ Y4 Y5 : Value, e = .returned (.agg #[.string r1, .int .i64 r2, Y4, Y5, .string r5, .string r6, .string r7, .int .i64 r8, .int .i64 r9, .int .i64 r10, .bool r11, .int .i64 r12, .string r13, .string r14]) ∧ Kd.S k62 62 w' w.heap.size (fun k_ => some k_ ≠ (Y5 : Value).ownBlock) Y4 r3 ∧ Kd.S k62 62 w' w.heap.size (fun k_ => some k_ ≠ (Y4 : Value).ownBlock) Y5 r4 ∧ Below w.heap.size w w' := by
 have hu26 := Tryz.underlying26;have hu34 := Tryz.underlying34;have hu24 := Tryz.underlying24;have hu32 := Tryz.underlying32;have ck := am cV;have cn := am cL;clear cV cL;have cz := am cW;have cA := am cM;clear cW cM;have HB := am (Below.refl w.heap.size w);have H : ((laws_toNameS.f k ai).bind fun ej => ((laws_toNameS.f k aj).bind fun eB => ((laws_toDate.f ar av aw af).bind fun nl => (some (ab, aa, ej, eB, ak, an, ap, nl.1, nl.2.1, nl.2.2.1, nl.2.2.2, ac, ae, ag))))) = some (r1, r2, r3, r4, r5, r6, r7, r8, r9, r10, r11, r12, r13, r14) := h;clear h;replace H := ob H;obtain ⟨ej, dP, H⟩ := H
 try dsimp only at H
 have A2 := am dP;clear dP;replace H := ob H;obtain ⟨eB, d6, H⟩ := H
 try dsimp only at H
 have A3 := am d6;clear d6;replace H := ob H;obtain ⟨⟨ms, mZ, pO, qk⟩, i8, H⟩ := H;replace H : (some (ab, aa, ej, eB, ak, an, ap, ms, mZ, pO, qk, ac, ae, ag)) = some (r1, r2, r3, r4, r5, r6, r7, r8, r9, r10, r11, r12, r13, r14) := H;have A4 := am i8;clear i8;simp only [Option.some.injEq, Prod.mk.injEq] at H;obtain ⟨rfl, rfl, rfl, rfl, rfl, rfl, rfl, rfl, rfl, rfl, rfl, rfl, rfl, rfl⟩ := H;go_enter Tryz.func6, Tryz.ntmps6;go_wp2_with (first | ((with_reducible refine gate_dst (N := 1) rfl ?_); refine box_event ?hg (N := 1) ?hd (cs := #[.string ab, .int .i64 aa, .slice bj ai.length bl, .slice bm aj.length bn, .string ak, .string an, .string ap, .int .i64 ar, .int .i64 av, .int .i64 aw, .bool af, .int .i64 ac, .string ae, .string ag]) (t := 26) ?hr ?_; (case hd => rfl); (case hg => rfl); (case hr => first | (go_simp; done) | (go_simp; rfl)); intro nm hg w5 hbox hb; have iH := am (hbox); have amg := am (bsz hg au51); have Fa := am (bsz hg au51); replace HB := am (below_step au51 hb); clear hb hbox hg) | ((with_reducible refine gate_dst (N := 2) rfl ?_); refine box_event ?hg (N := 2) ?hd (cs := #[.string (⟨#[]⟩ : ByteArray), .int .i64 0, .slice none 0 0, .slice none 0 0, .string (⟨#[]⟩ : ByteArray), .string (⟨#[]⟩ : ByteArray), .string (⟨#[]⟩ : ByteArray), .int .i64 0, .int .i64 0, .int .i64 0, .bool false, .int .i64 0, .string (⟨#[]⟩ : ByteArray), .string (⟨#[]⟩ : ByteArray)]) (t := 34) ?hr ?_; (case hd => rfl); (case hg => rfl); (case hr => first | (go_simp; done) | (go_simp; rfl)); intro cT hg w6 hbox hb; have jy := am (hbox); have amh := am (bsz hg au36); have Mg := am (bsz hg au36); replace HB := am (below_step au36 hb); have Of := am (bne (g := nm) hg au65); have Og := am (ben (g := nm) hg au65); replace iH := am (blk_below (g := nm) au65 hb); clear hb hbox hg) | ((with_reducible refine gate_dst (N := 3) rfl ?_); refine box_event ?hg (N := 3) ?hd (cs := #[.string (⟨#[]⟩ : ByteArray), .int .i64 0, .slice none 0 0, .slice none 0 0, .string (⟨#[]⟩ : ByteArray), .string (⟨#[]⟩ : ByteArray), .string (⟨#[]⟩ : ByteArray), .int .i64 0, .int .i64 0, .int .i64 0, .bool false, .int .i64 0, .string (⟨#[]⟩ : ByteArray), .string (⟨#[]⟩ : ByteArray)]) (t := 34) ?hr ?_; (case hd => rfl); (case hg => rfl); (case hr => first | (go_simp; done) | (go_simp; rfl)); intro dL hg w7 hbox hb; have gD := am (hbox); have ami := am (bsz hg au22); have Rf := am (bsz hg au22); replace HB := am (below_step au22 hb); have gC := am (bne (g := nm) hg au65); have Oh := am (ben (g := nm) hg au65); replace iH := am (blk_below (g := nm) au65 hb); have dD := am (bne (g := cT) hg au66); have Oi := am (ben (g := cT) hg au66); replace jy := am (blk_below (g := cT) au66 hb); clear hb hbox hg; have a5d := Of.out; have a5e := Og.out; have ao6 := gC.out; have ao7 := Oh.out; obtain ⟨k9, ka, kb, kc, aep, aeq, aer, aes, aet, aeu, a5f, a5g, a5h, a5i, ke, kf, kg, kh, aev, aew, aex, aey, aez, aeA, a5j, a5k, a5l, a5m⟩ := blkc14 iH.out; have RL := Oi.out; have RN := dD.out; obtain ⟨gQ, gR, gS, gT, CH, CJ, CK, CL, CM, CN, yN, yO, yP, yQ, gU, gV, gW, gX, CO, CP, CQ, CR, CS, CU, yR, yS, yT, yU⟩ := blkc14 gD.out) | ((with_reducible refine gate_callee (f := 17) rfl ?_); refine goesL_ (some 12) rfl rfl Tryz.func17 (by kernel_rfl) rfl #[.slice bj ai.length bl] rfl au50 ?_; (with_reducible refine (laws_toNameS.calls k _ _ ai ej _ ?ax ?ay A2.out).mono ?_); (case ax => exact Kd.C_below ck.out au16); (case ay => exact cn.out); rintro e uC ⟨ao8, rfl, ho0, hb⟩; refine ⟨_, rfl, ?_⟩; have vC := am (Kd.S_lower ho0 (below_size au16)); replace iH := am (blk_below (g := nm) (o := .cells #[.string ab, .int .i64 aa, .slice bj ai.length bl, .slice bm aj.length bn, .string ak, .string an, .string ap, .int .i64 ar, .int .i64 av, .int .i64 aw, .bool af, .int .i64 ac, .string ae, .string ag] 26 (0, 0)) (by (with_reducible repeat (first | refine blk_drewN ?_ _ | refine blk_drew ?_ | refine blk_alloc ?_ _)); refine blk_far ?_ gC.out _; (with_reducible repeat (first | refine blk_drewN ?_ _ | refine blk_drew ?_ | refine blk_alloc ?_ _)); refine blk_far ?_ gC.out _; (with_reducible repeat (first | refine blk_drewN ?_ _ | refine blk_drew ?_ | refine blk_alloc ?_ _)); exact iH.out) hb); replace jy := am (blk_below (g := cT) (o := .cells #[.string (⟨#[]⟩ : ByteArray), .int .i64 0, .slice none 0 0, .slice none 0 0, .string (⟨#[]⟩ : ByteArray), .string (⟨#[]⟩ : ByteArray), .string (⟨#[]⟩ : ByteArray), .int .i64 0, .int .i64 0, .int .i64 0, .bool false, .int .i64 0, .string (⟨#[]⟩ : ByteArray), .string (⟨#[]⟩ : ByteArray)] 34 (0, 0)) (by (with_reducible repeat (first | refine blk_drewN ?_ _ | refine blk_drew ?_ | refine blk_alloc ?_ _)); refine blk_far ?_ dD.out _; (with_reducible repeat (first | refine blk_drewN ?_ _ | refine blk_drew ?_ | refine blk_alloc ?_ _)); refine blk_far ?_ dD.out _; (with_reducible repeat (first | refine blk_drewN ?_ _ | refine blk_drew ?_ | refine blk_alloc ?_ _)); exact jy.out) hb); replace gD := am (blk_below (g := dL) (o := .cells #[.string ab, .int .i64 aa, .slice none 0 0, .slice none 0 0, .string (⟨#[]⟩ : ByteArray), .string (⟨#[]⟩ : ByteArray), .string (⟨#[]⟩ : ByteArray), .int .i64 0, .int .i64 0, .int .i64 0, .bool false, .int .i64 0, .string (⟨#[]⟩ : ByteArray), .string (⟨#[]⟩ : ByteArray)] 34 (0, 0)) (by (with_reducible repeat (first | refine blk_drewN ?_ _ | refine blk_drew ?_ | refine blk_alloc ?_ _)); refine blk_put (cs := #[.string ab, .int .i64 0, .slice none 0 0, .slice none 0 0, .string (⟨#[]⟩ : ByteArray), .string (⟨#[]⟩ : ByteArray), .string (⟨#[]⟩ : ByteArray), .int .i64 0, .int .i64 0, .int .i64 0, .bool false, .int .i64 0, .string (⟨#[]⟩ : ByteArray), .string (⟨#[]⟩ : ByteArray)]) ?_ 1 _ rfl; (with_reducible repeat (first | refine blk_drewN ?_ _ | refine blk_drew ?_ | refine blk_alloc ?_ _)); refine blk_put (cs := #[.string (⟨#[]⟩ : ByteArray), .int .i64 0, .slice none 0 0, .slice none 0 0, .string (⟨#[]⟩ : ByteArray), .string (⟨#[]⟩ : ByteArray), .string (⟨#[]⟩ : ByteArray), .int .i64 0, .int .i64 0, .int .i64 0, .bool false, .int .i64 0, .string (⟨#[]⟩ : ByteArray), .string (⟨#[]⟩ : ByteArray)]) ?_ 0 _ rfl; (with_reducible repeat (first | refine blk_drewN ?_ _ | refine blk_drew ?_ | refine blk_alloc ?_ _)); exact gD.out) hb); replace HB := am (below_step au16 hb); (try clear hb); (try clear ho0); obtain ⟨eS, eT, Qf⟩ := Kd.S_slice vC.out; subst Qf; obtain ⟨eK, eL, eM, eN, jV, jW, jX, jY, jZ, k0, ie, ig, ii, ij, eO, eP, eQ, eR, k3, k4, k5, k6, k7, k8, ik, il, im, io⟩ := blkc14 gD.out; obtain ⟨lH, lI, lJ, lK, Jg, Jh, Ji, Jj, Jk, Jl, FT, FU, FV, FW, lL, lM, lN, lO, Jm, Jn, Jo, Jp, Jq, Jr, FX, FY, FZ, G0⟩ := blkc14 iH.out) | ((with_reducible refine gate_callee (f := 17) rfl ?_); refine goesL_ (some 16) rfl rfl Tryz.func17 (by kernel_rfl) rfl #[.slice bm aj.length bn] rfl au50 ?_; (with_reducible refine (laws_toNameS.calls k _ _ aj eB _ ?ax ?ay A3.out).mono ?_); (case ax => exact Kd.C_below cz.out au16); (case ay => exact cA.out); rintro e Js ⟨ao9, rfl, ho0, hb⟩; refine ⟨_, rfl, ?_⟩; have Fx := am (Kd.S_lower (Kd.S_new' ho0 (Kd.S_lt au14)) (below_size au16)); replace vC := am (Kd.S_elder' au14 (Kd.S_base ho0) hb); replace iH := am (blk_below (g := nm) (o := .cells #[.string ab, .int .i64 aa, .slice bj ai.length bl, .slice bm aj.length bn, .string ak, .string an, .string ap, .int .i64 ar, .int .i64 av, .int .i64 aw, .bool af, .int .i64 ac, .string ae, .string ag] 26 (0, 0)) (by (with_reducible repeat (first | refine blk_drewN ?_ _ | refine blk_drew ?_ | refine blk_alloc ?_ _)); refine blk_far ?_ gC.out _; (with_reducible repeat (first | refine blk_drewN ?_ _ | refine blk_drew ?_ | refine blk_alloc ?_ _)); exact iH.out) hb); replace jy := am (blk_below (g := cT) (o := .cells #[.string (⟨#[]⟩ : ByteArray), .int .i64 0, .slice none 0 0, .slice none 0 0, .string (⟨#[]⟩ : ByteArray), .string (⟨#[]⟩ : ByteArray), .string (⟨#[]⟩ : ByteArray), .int .i64 0, .int .i64 0, .int .i64 0, .bool false, .int .i64 0, .string (⟨#[]⟩ : ByteArray), .string (⟨#[]⟩ : ByteArray)] 34 (0, 0)) (by (with_reducible repeat (first | refine blk_drewN ?_ _ | refine blk_drew ?_ | refine blk_alloc ?_ _)); refine blk_far ?_ dD.out _; (with_reducible repeat (first | refine blk_drewN ?_ _ | refine blk_drew ?_ | refine blk_alloc ?_ _)); exact jy.out) hb); replace gD := am (blk_below (g := dL) (o := .cells #[.string ab, .int .i64 aa, .slice eS ej.length eT, .slice none 0 0, .string (⟨#[]⟩ : ByteArray), .string (⟨#[]⟩ : ByteArray), .string (⟨#[]⟩ : ByteArray), .int .i64 0, .int .i64 0, .int .i64 0, .bool false, .int .i64 0, .string (⟨#[]⟩ : ByteArray), .string (⟨#[]⟩ : ByteArray)] 34 (0, 0)) (by (with_reducible repeat (first | refine blk_drewN ?_ _ | refine blk_drew ?_ | refine blk_alloc ?_ _)); refine blk_put (cs := #[.string ab, .int .i64 aa, .slice none 0 0, .slice none 0 0, .string (⟨#[]⟩ : ByteArray), .string (⟨#[]⟩ : ByteArray), .string (⟨#[]⟩ : ByteArray), .int .i64 0, .int .i64 0, .int .i64 0, .bool false, .int .i64 0, .string (⟨#[]⟩ : ByteArray), .string (⟨#[]⟩ : ByteArray)]) ?_ 2 _ rfl; (with_reducible repeat (first | refine blk_drewN ?_ _ | refine blk_drew ?_ | refine blk_alloc ?_ _)); exact gD.out) hb); replace HB := am (below_step au16 hb); (try clear hb); (try clear ho0); obtain ⟨fS, fT, OQ⟩ := Kd.S_slice Fx.out; subst OQ; obtain ⟨rq, rr, rt, ru, KC, KD, KE, KF, KG, KH, H4, H5, H6, H7, rv, rx, ry, rz, KI, KJ, KL, KM, KN, KO, H8, H9, Ha, Hb⟩ := blkc14 gD.out; obtain ⟨vN, vO, vP, vQ, J4, J5, J6, J7, J8, J9, FL, FM, FN, FO, vR, vS, vT, vU, Ja, Jb, Jc, Jd, Je, Jf, FP, FQ, FR, FS⟩ := blkc14 iH.out) | ((with_reducible refine gate_callee (f := 18) rfl ?_); refine goesL_ (some 29) rfl rfl Tryz.func18 (by kernel_rfl) rfl #[.agg #[.int .i64 ar, .int .i64 av, .int .i64 aw, .bool af]] rfl au50 ?_; (with_reducible refine (laws_toDate.calls ar av aw af ms mZ pO qk _ A4.out).mono ?_); rintro e w21 ⟨rfl, hb⟩; refine ⟨_, rfl, ?_⟩; replace vC := am (Kd.S_below (by (with_reducible repeat (first | apply Kd.S_alloc | apply Kd.S_drewN | apply Kd.S_drew)); exact (Kd.S_mono (Kd.S_far (p := ⟨dL, 6, none⟩) (Kd.S_far (p := ⟨dL, 5, none⟩) (Kd.S_far (p := ⟨dL, 4, none⟩) (Kd.S_far (p := ⟨dL, 3, none⟩) (Kd.S_types vC.out gD.out (by decide)) (fun _ hk => hk.2) (.slice fS eB.length fT)) (fun _ hk => hk.2) (.string ak)) (fun _ hk => hk.2) (.string an)) (fun _ hk => hk.2) (.string ap)) (fun _ h_ => h_.1))) hb); replace Fx := am (Kd.S_below (by (with_reducible repeat (first | apply Kd.S_alloc | apply Kd.S_drewN | apply Kd.S_drew)); exact (Kd.S_mono (Kd.S_far (p := ⟨dL, 6, none⟩) (Kd.S_far (p := ⟨dL, 5, none⟩) (Kd.S_far (p := ⟨dL, 4, none⟩) (Kd.S_far (p := ⟨dL, 3, none⟩) (Kd.S_types Fx.out gD.out (by decide)) (fun _ hk => hk.2) (.slice fS eB.length fT)) (fun _ hk => hk.2) (.string ak)) (fun _ hk => hk.2) (.string an)) (fun _ hk => hk.2) (.string ap)) (fun _ h_ => h_.1))) hb); replace iH := am (blk_below (g := nm) (o := .cells #[.string ab, .int .i64 aa, .slice bj ai.length bl, .slice bm aj.length bn, .string ak, .string an, .string ap, .int .i64 ar, .int .i64 av, .int .i64 aw, .bool af, .int .i64 ac, .string ae, .string ag] 26 (0, 0)) (by (with_reducible repeat (first | refine blk_drewN ?_ _ | refine blk_drew ?_ | refine blk_alloc ?_ _)); refine blk_far ?_ gC.out _; (with_reducible repeat (first | refine blk_drewN ?_ _ | refine blk_drew ?_ | refine blk_alloc ?_ _)); refine blk_far ?_ gC.out _; (with_reducible repeat (first | refine blk_drewN ?_ _ | refine blk_drew ?_ | refine blk_alloc ?_ _)); refine blk_far ?_ gC.out _; (with_reducible repeat (first | refine blk_drewN ?_ _ | refine blk_drew ?_ | refine blk_alloc ?_ _)); refine blk_far ?_ gC.out _; (with_reducible repeat (first | refine blk_drewN ?_ _ | refine blk_drew ?_ | refine blk_alloc ?_ _)); exact iH.out) hb); replace jy := am (blk_below (g := cT) (o := .cells #[.string (⟨#[]⟩ : ByteArray), .int .i64 0, .slice none 0 0, .slice none 0 0, .string (⟨#[]⟩ : ByteArray), .string (⟨#[]⟩ : ByteArray), .string (⟨#[]⟩ : ByteArray), .int .i64 0, .int .i64 0, .int .i64 0, .bool false, .int .i64 0, .string (⟨#[]⟩ : ByteArray), .string (⟨#[]⟩ : ByteArray)] 34 (0, 0)) (by (with_reducible repeat (first | refine blk_drewN ?_ _ | refine blk_drew ?_ | refine blk_alloc ?_ _)); refine blk_far ?_ dD.out _; (with_reducible repeat (first | refine blk_drewN ?_ _ | refine blk_drew ?_ | refine blk_alloc ?_ _)); refine blk_far ?_ dD.out _; (with_reducible repeat (first | refine blk_drewN ?_ _ | refine blk_drew ?_ | refine blk_alloc ?_ _)); refine blk_far ?_ dD.out _; (with_reducible repeat (first | refine blk_drewN ?_ _ | refine blk_drew ?_ | refine blk_alloc ?_ _)); refine blk_far ?_ dD.out _; (with_reducible repeat (first | refine blk_drewN ?_ _ | refine blk_drew ?_ | refine blk_alloc ?_ _)); exact jy.out) hb); replace gD := am (blk_below (g := dL) (o := .cells #[.string ab, .int .i64 aa, .slice eS ej.length eT, .slice fS eB.length fT, .string ak, .string an, .string ap, .int .i64 0, .int .i64 0, .int .i64 0, .bool false, .int .i64 0, .string (⟨#[]⟩ : ByteArray), .string (⟨#[]⟩ : ByteArray)] 34 (0, 0)) (by (with_reducible repeat (first | refine blk_drewN ?_ _ | refine blk_drew ?_ | refine blk_alloc ?_ _)); refine blk_put (cs := #[.string ab, .int .i64 aa, .slice eS ej.length eT, .slice fS eB.length fT, .string ak, .string an, .string (⟨#[]⟩ : ByteArray), .int .i64 0, .int .i64 0, .int .i64 0, .bool false, .int .i64 0, .string (⟨#[]⟩ : ByteArray), .string (⟨#[]⟩ : ByteArray)]) ?_ 6 _ rfl; (with_reducible repeat (first | refine blk_drewN ?_ _ | refine blk_drew ?_ | refine blk_alloc ?_ _)); refine blk_put (cs := #[.string ab, .int .i64 aa, .slice eS ej.length eT, .slice fS eB.length fT, .string ak, .string (⟨#[]⟩ : ByteArray), .string (⟨#[]⟩ : ByteArray), .int .i64 0, .int .i64 0, .int .i64 0, .bool false, .int .i64 0, .string (⟨#[]⟩ : ByteArray), .string (⟨#[]⟩ : ByteArray)]) ?_ 5 _ rfl; (with_reducible repeat (first | refine blk_drewN ?_ _ | refine blk_drew ?_ | refine blk_alloc ?_ _)); refine blk_put (cs := #[.string ab, .int .i64 aa, .slice eS ej.length eT, .slice fS eB.length fT, .string (⟨#[]⟩ : ByteArray), .string (⟨#[]⟩ : ByteArray), .string (⟨#[]⟩ : ByteArray), .int .i64 0, .int .i64 0, .int .i64 0, .bool false, .int .i64 0, .string (⟨#[]⟩ : ByteArray), .string (⟨#[]⟩ : ByteArray)]) ?_ 4 _ rfl; (with_reducible repeat (first | refine blk_drewN ?_ _ | refine blk_drew ?_ | refine blk_alloc ?_ _)); refine blk_put (cs := #[.string ab, .int .i64 aa, .slice eS ej.length eT, .slice none 0 0, .string (⟨#[]⟩ : ByteArray), .string (⟨#[]⟩ : ByteArray), .string (⟨#[]⟩ : ByteArray), .int .i64 0, .int .i64 0, .int .i64 0, .bool false, .int .i64 0, .string (⟨#[]⟩ : ByteArray), .string (⟨#[]⟩ : ByteArray)]) ?_ 3 _ rfl; (with_reducible repeat (first | refine blk_drewN ?_ _ | refine blk_drew ?_ | refine blk_alloc ?_ _)); exact gD.out) hb); replace HB := am (below_step au16 hb); (try clear hb); obtain ⟨jJ, jK, jL, jM, qB, qC, qD, qF, qG, qH, oO, oP, oQ, oS, jN, jO, jP, jQ, qI, qJ, qK, qL, qM, qN, oT, oU, oV, oW⟩ := blkc14 gD.out; obtain ⟨mi, mj, ml, mm, xi, xj, xk, xl, xn, xo, ud, ue, uf, ug, mn, mo, mq, mr, xp, xq, xr, xt, xu, xv, uh, ui, uj, uk⟩ := blkc14 iH.out; obtain ⟨nq, nr, nt, nu, vV, vW, vX, vY, vZ, wa, tx, tz, tA, tB, nv, nw, nx, nz, wb, wd, we, wg, wh, wi, tC, tD, tE, tF⟩ := blkc14 jy.out));refine bodyPost_ret (results_cell_row rfl _ _ cT 34 #[.string ab, .int .i64 aa, .slice eS ej.length eT, .slice fS eB.length fT, .string ak, .string an, .string ap, .int .i64 ms, .int .i64 mZ, .int .i64 pO, .bool qk, .int .i64 ac, .string ae, .string ag] (0, 0) _ rfl (by (with_reducible repeat (first | refine blk_drewN ?_ _ | refine blk_drew ?_ | refine blk_alloc ?_ _)); refine blk_put (cs := #[.string ab, .int .i64 aa, .slice eS ej.length eT, .slice fS eB.length fT, .string ak, .string an, .string ap, .int .i64 ms, .int .i64 mZ, .int .i64 pO, .bool qk, .int .i64 ac, .string ae, .string (⟨#[]⟩ : ByteArray)]) ?_ 13 _ rfl; (with_reducible repeat (first | refine blk_drewN ?_ _ | refine blk_drew ?_ | refine blk_alloc ?_ _)); refine blk_put (cs := #[.string ab, .int .i64 aa, .slice eS ej.length eT, .slice fS eB.length fT, .string ak, .string an, .string ap, .int .i64 ms, .int .i64 mZ, .int .i64 pO, .bool qk, .int .i64 ac, .string (⟨#[]⟩ : ByteArray), .string (⟨#[]⟩ : ByteArray)]) ?_ 12 _ rfl; (with_reducible repeat (first | refine blk_drewN ?_ _ | refine blk_drew ?_ | refine blk_alloc ?_ _)); refine blk_put (cs := #[.string ab, .int .i64 aa, .slice eS ej.length eT, .slice fS eB.length fT, .string ak, .string an, .string ap, .int .i64 ms, .int .i64 mZ, .int .i64 pO, .bool qk, .int .i64 0, .string (⟨#[]⟩ : ByteArray), .string (⟨#[]⟩ : ByteArray)]) ?_ 11 _ rfl; (with_reducible repeat (first | refine blk_drewN ?_ _ | refine blk_drew ?_ | refine blk_alloc ?_ _)); refine blk_put (cs := #[.string ab, .int .i64 aa, .slice eS ej.length eT, .slice fS eB.length fT, .string ak, .string an, .string ap, .int .i64 ms, .int .i64 mZ, .int .i64 pO, .bool false, .int .i64 0, .string (⟨#[]⟩ : ByteArray), .string (⟨#[]⟩ : ByteArray)]) ?_ 10 _ rfl; (with_reducible repeat (first | refine blk_drewN ?_ _ | refine blk_drew ?_ | refine blk_alloc ?_ _)); refine blk_put (cs := #[.string ab, .int .i64 aa, .slice eS ej.length eT, .slice fS eB.length fT, .string ak, .string an, .string ap, .int .i64 ms, .int .i64 mZ, .int .i64 0, .bool false, .int .i64 0, .string (⟨#[]⟩ : ByteArray), .string (⟨#[]⟩ : ByteArray)]) ?_ 9 _ rfl; (with_reducible repeat (first | refine blk_drewN ?_ _ | refine blk_drew ?_ | refine blk_alloc ?_ _)); refine blk_put (cs := #[.string ab, .int .i64 aa, .slice eS ej.length eT, .slice fS eB.length fT, .string ak, .string an, .string ap, .int .i64 ms, .int .i64 0, .int .i64 0, .bool false, .int .i64 0, .string (⟨#[]⟩ : ByteArray), .string (⟨#[]⟩ : ByteArray)]) ?_ 8 _ rfl; (with_reducible repeat (first | refine blk_drewN ?_ _ | refine blk_drew ?_ | refine blk_alloc ?_ _)); refine blk_put (cs := #[.string ab, .int .i64 aa, .slice eS ej.length eT, .slice fS eB.length fT, .string ak, .string an, .string ap, .int .i64 0, .int .i64 0, .int .i64 0, .bool false, .int .i64 0, .string (⟨#[]⟩ : ByteArray), .string (⟨#[]⟩ : ByteArray)]) ?_ 7 _ rfl; (with_reducible repeat (first | refine blk_drewN ?_ _ | refine blk_drew ?_ | refine blk_alloc ?_ _)); refine blk_put (cs := #[.string ab, .int .i64 aa, .slice eS ej.length eT, .slice fS eB.length fT, .string ak, .string an, .string (⟨#[]⟩ : ByteArray), .int .i64 0, .int .i64 0, .int .i64 0, .bool false, .int .i64 0, .string (⟨#[]⟩ : ByteArray), .string (⟨#[]⟩ : ByteArray)]) ?_ 6 _ rfl; (with_reducible repeat (first | refine blk_drewN ?_ _ | refine blk_drew ?_ | refine blk_alloc ?_ _)); refine blk_put (cs := #[.string ab, .int .i64 aa, .slice eS ej.length eT, .slice fS eB.length fT, .string ak, .string (⟨#[]⟩ : ByteArray), .string (⟨#[]⟩ : ByteArray), .int .i64 0, .int .i64 0, .int .i64 0, .bool false, .int .i64 0, .string (⟨#[]⟩ : ByteArray), .string (⟨#[]⟩ : ByteArray)]) ?_ 5 _ rfl; (with_reducible repeat (first | refine blk_drewN ?_ _ | refine blk_drew ?_ | refine blk_alloc ?_ _)); refine blk_put (cs := #[.string ab, .int .i64 aa, .slice eS ej.length eT, .slice fS eB.length fT, .string (⟨#[]⟩ : ByteArray), .string (⟨#[]⟩ : ByteArray), .string (⟨#[]⟩ : ByteArray), .int .i64 0, .int .i64 0, .int .i64 0, .bool false, .int .i64 0, .string (⟨#[]⟩ : ByteArray), .string (⟨#[]⟩ : ByteArray)]) ?_ 4 _ rfl; (with_reducible repeat (first | refine blk_drewN ?_ _ | refine blk_drew ?_ | refine blk_alloc ?_ _)); refine blk_put (cs := #[.string ab, .int .i64 aa, .slice eS ej.length eT, .slice none 0 0, .string (⟨#[]⟩ : ByteArray), .string (⟨#[]⟩ : ByteArray), .string (⟨#[]⟩ : ByteArray), .int .i64 0, .int .i64 0, .int .i64 0, .bool false, .int .i64 0, .string (⟨#[]⟩ : ByteArray), .string (⟨#[]⟩ : ByteArray)]) ?_ 3 _ rfl; (with_reducible repeat (first | refine blk_drewN ?_ _ | refine blk_drew ?_ | refine blk_alloc ?_ _)); refine blk_put (cs := #[.string ab, .int .i64 aa, .slice none 0 0, .slice none 0 0, .string (⟨#[]⟩ : ByteArray), .string (⟨#[]⟩ : ByteArray), .string (⟨#[]⟩ : ByteArray), .int .i64 0, .int .i64 0, .int .i64 0, .bool false, .int .i64 0, .string (⟨#[]⟩ : ByteArray), .string (⟨#[]⟩ : ByteArray)]) ?_ 2 _ rfl; (with_reducible repeat (first | refine blk_drewN ?_ _ | refine blk_drew ?_ | refine blk_alloc ?_ _)); refine blk_put (cs := #[.string ab, .int .i64 0, .slice none 0 0, .slice none 0 0, .string (⟨#[]⟩ : ByteArray), .string (⟨#[]⟩ : ByteArray), .string (⟨#[]⟩ : ByteArray), .int .i64 0, .int .i64 0, .int .i64 0, .bool false, .int .i64 0, .string (⟨#[]⟩ : ByteArray), .string (⟨#[]⟩ : ByteArray)]) ?_ 1 _ rfl; (with_reducible repeat (first | refine blk_drewN ?_ _ | refine blk_drew ?_ | refine blk_alloc ?_ _)); refine blk_put (cs := #[.string (⟨#[]⟩ : ByteArray), .int .i64 0, .slice none 0 0, .slice none 0 0, .string (⟨#[]⟩ : ByteArray), .string (⟨#[]⟩ : ByteArray), .string (⟨#[]⟩ : ByteArray), .int .i64 0, .int .i64 0, .int .i64 0, .bool false, .int .i64 0, .string (⟨#[]⟩ : ByteArray), .string (⟨#[]⟩ : ByteArray)]) ?_ 0 _ rfl; (with_reducible repeat (first | refine blk_drewN ?_ _ | refine blk_drew ?_ | refine blk_alloc ?_ _)); refine blk_far ?_ dD.out _; (with_reducible repeat (first | refine blk_drewN ?_ _ | refine blk_drew ?_ | refine blk_alloc ?_ _)); refine blk_far ?_ dD.out _; (with_reducible repeat (first | refine blk_drewN ?_ _ | refine blk_drew ?_ | refine blk_alloc ?_ _)); refine blk_far ?_ dD.out _; (with_reducible repeat (first | refine blk_drewN ?_ _ | refine blk_drew ?_ | refine blk_alloc ?_ _)); refine blk_far ?_ dD.out _; (with_reducible repeat (first | refine blk_drewN ?_ _ | refine blk_drew ?_ | refine blk_alloc ?_ _)); refine blk_far ?_ dD.out _; (with_reducible repeat (first | refine blk_drewN ?_ _ | refine blk_drew ?_ | refine blk_alloc ?_ _)); refine blk_far ?_ dD.out _; (with_reducible repeat (first | refine blk_drewN ?_ _ | refine blk_drew ?_ | refine blk_alloc ?_ _)); refine blk_far ?_ dD.out _; (with_reducible repeat (first | refine blk_drewN ?_ _ | refine blk_drew ?_ | refine blk_alloc ?_ _)); exact jy.out) Tryz.underlying34 rfl (by kernel_rfl)) rfl ?_;exact ⟨_, _, by first | rfl | (simp [errW_none, errW_some] <;> rfl) | (simp [*, errW_none, errW_some] <;> rfl), by (with_reducible repeat (first | apply Kd.S_alloc | apply Kd.S_drewN | apply Kd.S_drew)); exact Kd.S_mono (Kd.S_far (p := ⟨cT, 13, none⟩) (Kd.S_far (p := ⟨cT, 12, none⟩) (Kd.S_far (p := ⟨cT, 11, none⟩) (Kd.S_far (p := ⟨cT, 10, none⟩) (Kd.S_far (p := ⟨cT, 9, none⟩) (Kd.S_far (p := ⟨cT, 8, none⟩) (Kd.S_far (p := ⟨cT, 7, none⟩) (Kd.S_far (p := ⟨cT, 6, none⟩) (Kd.S_far (p := ⟨cT, 5, none⟩) (Kd.S_far (p := ⟨cT, 4, none⟩) (Kd.S_far (p := ⟨cT, 3, none⟩) (Kd.S_far (p := ⟨cT, 2, none⟩) (Kd.S_far (p := ⟨cT, 1, none⟩) (Kd.S_far (p := ⟨cT, 0, none⟩) (Kd.S_far (p := ⟨dL, 13, none⟩) (Kd.S_far (p := ⟨dL, 12, none⟩) (Kd.S_far (p := ⟨dL, 11, none⟩) (Kd.S_far (p := ⟨dL, 10, none⟩) (Kd.S_far (p := ⟨dL, 9, none⟩) (Kd.S_far (p := ⟨dL, 8, none⟩) (Kd.S_far (p := ⟨dL, 7, none⟩) (Kd.S_types (Kd.S_types vC.out gD.out (by decide)) jy.out (by decide)) (fun _ hk => hk.1.2) (.int .i64 ms)) (fun _ hk => hk.1.2) (.int .i64 mZ)) (fun _ hk => hk.1.2) (.int .i64 pO)) (fun _ hk => hk.1.2) (.bool qk)) (fun _ hk => hk.1.2) (.int .i64 ac)) (fun _ hk => hk.1.2) (.string ae)) (fun _ hk => hk.1.2) (.string ag)) (fun _ hk => hk.2) (.string ab)) (fun _ hk => hk.2) (.int .i64 aa)) (fun _ hk => hk.2) (.slice eS ej.length eT)) (fun _ hk => hk.2) (.slice fS eB.length fT)) (fun _ hk => hk.2) (.string ak)) (fun _ hk => hk.2) (.string an)) (fun _ hk => hk.2) (.string ap)) (fun _ hk => hk.2) (.int .i64 ms)) (fun _ hk => hk.2) (.int .i64 mZ)) (fun _ hk => hk.2) (.int .i64 pO)) (fun _ hk => hk.2) (.bool qk)) (fun _ hk => hk.2) (.int .i64 ac)) (fun _ hk => hk.2) (.string ae)) (fun _ hk => hk.2) (.string ag)) (fun _ hk => hk.1.1.2), by (with_reducible repeat (first | apply Kd.S_alloc | apply Kd.S_drewN | apply Kd.S_drew)); exact Kd.S_mono (Kd.S_far (p := ⟨cT, 13, none⟩) (Kd.S_far (p := ⟨cT, 12, none⟩) (Kd.S_far (p := ⟨cT, 11, none⟩) (Kd.S_far (p := ⟨cT, 10, none⟩) (Kd.S_far (p := ⟨cT, 9, none⟩) (Kd.S_far (p := ⟨cT, 8, none⟩) (Kd.S_far (p := ⟨cT, 7, none⟩) (Kd.S_far (p := ⟨cT, 6, none⟩) (Kd.S_far (p := ⟨cT, 5, none⟩) (Kd.S_far (p := ⟨cT, 4, none⟩) (Kd.S_far (p := ⟨cT, 3, none⟩) (Kd.S_far (p := ⟨cT, 2, none⟩) (Kd.S_far (p := ⟨cT, 1, none⟩) (Kd.S_far (p := ⟨cT, 0, none⟩) (Kd.S_far (p := ⟨dL, 13, none⟩) (Kd.S_far (p := ⟨dL, 12, none⟩) (Kd.S_far (p := ⟨dL, 11, none⟩) (Kd.S_far (p := ⟨dL, 10, none⟩) (Kd.S_far (p := ⟨dL, 9, none⟩) (Kd.S_far (p := ⟨dL, 8, none⟩) (Kd.S_far (p := ⟨dL, 7, none⟩) (Kd.S_types (Kd.S_types Fx.out gD.out (by decide)) jy.out (by decide)) (fun _ hk => hk.1.2) (.int .i64 ms)) (fun _ hk => hk.1.2) (.int .i64 mZ)) (fun _ hk => hk.1.2) (.int .i64 pO)) (fun _ hk => hk.1.2) (.bool qk)) (fun _ hk => hk.1.2) (.int .i64 ac)) (fun _ hk => hk.1.2) (.string ae)) (fun _ hk => hk.1.2) (.string ag)) (fun _ hk => hk.2) (.string ab)) (fun _ hk => hk.2) (.int .i64 aa)) (fun _ hk => hk.2) (.slice eS ej.length eT)) (fun _ hk => hk.2) (.slice fS eB.length fT)) (fun _ hk => hk.2) (.string ak)) (fun _ hk => hk.2) (.string an)) (fun _ hk => hk.2) (.string ap)) (fun _ hk => hk.2) (.int .i64 ms)) (fun _ hk => hk.2) (.int .i64 mZ)) (fun _ hk => hk.2) (.int .i64 pO)) (fun _ hk => hk.2) (.bool qk)) (fun _ hk => hk.2) (.int .i64 ac)) (fun _ hk => hk.2) (.string ae)) (fun _ hk => hk.2) (.string ag)) (fun _ hk => hk.1.1.2), by repeat (first | (with_reducible first | exact HB.out | apply below_alloc | apply pw_below_drewN | apply below_drew1 | refine below_set ?_ Fa.out | refine below_set ?_ Mg.out | refine below_set ?_ Rf.out) | exact HB.out)⟩
def impl_inside.f (a0 : Int) (a1 : Int) (a2 : Int) : Option (Bool) := if a0 ≥ a1 then (some (decide (a0 ≤ a2))) else (some false)
set_option maxHeartbeats 8000000 in
set_option maxRecDepth 100000 in
theorem impl_inside.calls (a0 : Int) (a1 : Int) (a2 : Int) (r : Bool) (w : World) (h : impl_inside.f a0 a1 a2 = some r) :
  Calls Tryz.prog 39 #[.int .i64 a0, .int .i64 a1, .int .i64 a2] w fun e w' => e = .returned (.bool r) ∧ Drawn0 w w' := by
 have H : (if a0 ≥ a1 then (some (decide (a0 ≤ a2))) else (some false)) = some r := h;clear h;by_cases c4 : a0 ≥ a1
 · rw [if_pos c4] at H;have c4b0 := dt c4;clear c4;obtain rfl := ojz H;go_enter Tryz.func39, Tryz.ntmps39;go_wp2;go_ret;exact ax0
 · rw [if_neg c4] at H;have c4b0 := df c4;clear c4;obtain rfl := ojz H;go_enter Tryz.func39, Tryz.ntmps39;go_wp2;go_ret;exact ax0
def impl_isLower.f (a0 : Int) : Option (Bool) := if a0 ≥ 97 then (some (decide (a0 ≤ 122))) else (some false)
set_option maxHeartbeats 8000000 in
set_option maxRecDepth 100000 in
theorem impl_isLower.calls (a0 : Int) (r : Bool) (w : World) (h : impl_isLower.f a0 = some r) :
  Calls Tryz.prog 50 #[.int .u8 a0] w fun e w' => e = .returned (.bool r) ∧ Drawn0 w w' := by
 have H : (if a0 ≥ 97 then (some (decide (a0 ≤ 122))) else (some false)) = some r := h;clear h;by_cases c2 : a0 ≥ 97
 · rw [if_pos c2] at H;have c2b0 := dt c2;clear c2;obtain rfl := ojz H;go_enter Tryz.func50, Tryz.ntmps50;go_wp2;go_ret;exact ax0
 · rw [if_neg c2] at H;have c2b0 := df c2;clear c2;obtain rfl := ojz H;go_enter Tryz.func50, Tryz.ntmps50;go_wp2;go_ret;exact ax0
def impl_isDigit.f (a0 : Int) : Option (Bool) := if a0 ≥ 48 then (some (decide (a0 ≤ 57))) else (some false)
set_option maxHeartbeats 8000000 in
set_option maxRecDepth 100000 in
theorem impl_isDigit.calls (a0 : Int) (r : Bool) (w : World) (h : impl_isDigit.f a0 = some r) :
  Calls Tryz.prog 51 #[.int .u8 a0] w fun e w' => e = .returned (.bool r) ∧ Drawn0 w w' := by
 have H : (if a0 ≥ 48 then (some (decide (a0 ≤ 57))) else (some false)) = some r := h;clear h;by_cases c2 : a0 ≥ 48
 · rw [if_pos c2] at H;have c2b0 := dt c2;clear c2;obtain rfl := ojz H;go_enter Tryz.func51, Tryz.ntmps51;go_wp2;go_ret;exact ax0
 · rw [if_neg c2] at H;have c2b0 := df c2;clear c2;obtain rfl := ojz H;go_enter Tryz.func51, Tryz.ntmps51;go_wp2;go_ret;exact ax0
mutual
def impl_isKey.j0 : Nat → ByteArray → Bool → Option (Bool)
 | 0, _, _ => none
 | k + 1, x0, oX => if oX = true then (some false) else (impl_isKey.l0 k x0 0)
def impl_isKey.l0 : Nat → ByteArray → Int → Option (Bool)
 | 0, _, _ => none
 | k + 1, x0, x3 => if x3 < (x0.size : Int) then (if 0 ≤ x3 then ((impl_isLower.f (bt x0 x3)).bind fun Qg => (if Qg = true then (impl_isKey.l0 k x0 (wrap64 (x3 + 1))) else ((impl_isDigit.f (bt x0 x3)).bind fun Qh => (if Qh = true then (impl_isKey.l0 k x0 (wrap64 (x3 + 1))) else (some false))))) else (none)) else (some true)
end
def impl_isKey.f (k : Nat) (a0 : ByteArray) : Option (Bool) := (impl_inside.f (a0.size : Int) 1 10).bind fun Hc => (if Hc = true then (if 0 < (a0.size : Int) then ((impl_isLower.f (bt a0 0)).bind fun CW => (impl_isKey.j0 k a0 (!CW))) else (none)) else (impl_isKey.j0 k a0 true))
theorem impl_isKey.mono_l : ∀ k, (∀ y0 y1, LeO (impl_isKey.j0 k y0 y1) (impl_isKey.j0 (k + 1) y0 y1)) ∧ (∀ y0 y1, LeO (impl_isKey.l0 k y0 y1) (impl_isKey.l0 (k + 1) y0 y1))
 | 0 => ⟨fun _ _ r h => by simp [impl_isKey.j0] at h, fun _ _ r h => by simp [impl_isKey.l0] at h⟩
 | k + 1 => by
  obtain ⟨ih0, ih1⟩ := impl_isKey.mono_l k;refine ⟨?_, ?_⟩
  ·
   intro y0 y1;unfold impl_isKey.j0
   repeat' first
   | (with_reducible exact ih0 _ _)
   | (with_reducible exact ih1 _ _)
   | (with_reducible exact LeO.refl _)
   | (with_reducible exact LeO.none _)
   | (with_reducible refine LeO.ite ?_ ?_)
   | (with_reducible refine LeO.bind ?_ (fun _ => ?_))
   | exact ih0 _ _
   | exact ih1 _ _
   | exact LeO.none _
   | refine LeO.ite ?_ ?_
   | refine LeO.bind ?_ (fun _ => ?_)
  ·
   intro y0 y1;unfold impl_isKey.l0
   repeat' first
   | (with_reducible exact ih0 _ _)
   | (with_reducible exact ih1 _ _)
   | (with_reducible exact LeO.refl _)
   | (with_reducible exact LeO.none _)
   | (with_reducible refine LeO.ite ?_ ?_)
   | (with_reducible refine LeO.bind ?_ (fun _ => ?_))
   | exact ih0 _ _
   | exact ih1 _ _
   | exact LeO.none _
   | refine LeO.ite ?_ ?_
   | refine LeO.bind ?_ (fun _ => ?_)
theorem impl_isKey.mono : ∀ a0 k, LeO (impl_isKey.f k a0) (impl_isKey.f (k + 1) a0) := by
 intro a0 k;obtain ⟨ih0, ih1⟩ := impl_isKey.mono_l k;unfold impl_isKey.f
 repeat' first
   | (with_reducible exact ih0 _ _)
   | (with_reducible exact ih1 _ _)
   | (with_reducible exact LeO.refl _)
   | (with_reducible exact LeO.none _)
   | (with_reducible refine LeO.ite ?_ ?_)
   | (with_reducible refine LeO.bind ?_ (fun _ => ?_))
   | exact ih0 _ _
   | exact ih1 _ _
   | exact LeO.none _
   | refine LeO.ite ?_ ?_
   | refine LeO.bind ?_ (fun _ => ?_)
set_option maxRecDepth 100000 in
theorem impl_isKey.L0 {P : Prop} (h : P := by
  go_wp2_with (first | ((with_reducible refine gate_callee (f := 50) rfl ?_); refine goesL_ (some 23) rfl rfl Tryz.func50 (by kernel_rfl) rfl #[.int .u8 (bt a0 aD)] rfl au50 ?_; (with_reducible refine (impl_isLower.calls (bt a0 aD) _ _ pZ.out).mono ?_); rintro e w' ⟨rfl, ⟨nd, rfl⟩⟩; refine ⟨_, rfl, ?_⟩; have gy : 0 ≤ (aD : Int) := od au106; have fG : aD < (a0.size : Int) := od au106; have tG := bt_at a0 aD; replace gy := eq_true gy; replace fG := eq_true fG) | (go_at_call 51; (with_reducible refine (impl_isDigit.calls (bt a0 aD) _ _ qO.out).mono ?_); rintro e w' ⟨rfl, ⟨nd, rfl⟩⟩));go_ret
  exact ax0) : P := h
set_option maxHeartbeats 8000000 in
set_option maxRecDepth 100000 in
theorem impl_isKey.calls (k : Nat) (a0 : ByteArray) (r : Bool) (w : World) (h : impl_isKey.f k a0 = some r) :
  Calls Tryz.prog 35 #[.string a0] w fun e w' => e = .returned (.bool r) ∧ Drawn0 w w' := by
 have H : ((impl_inside.f (a0.size : Int) 1 10).bind fun Hc => (if Hc = true then (if 0 < (a0.size : Int) then ((impl_isLower.f (bt a0 0)).bind fun CW => (impl_isKey.j0 k a0 (!CW))) else (none)) else (impl_isKey.j0 k a0 true))) = some r := h;clear h;have eV := am H;clear H;go_enter Tryz.func35, Tryz.ntmps35
 go_upto_region 1 with (fail)
 go_cut [13] (fun NU wc => ∃ (kq : Nat) (cE : Bool), NU = .bool cE ∧ Aside0 (impl_isKey.j0 kq a0 cE = some r) ∧ Aside0 (kq ≤ k) ∧ Drawn0 w wc)
 case first =>
  have H := eV.out;clear eV;replace H := ob H;obtain ⟨Hc, d6, H⟩ := H
  try dsimp only at H
  have A3 := am d6;clear d6;by_cases c4 : Hc = true
  ·
   subst c4;replace H := (if_pos rfl).symm.trans H;by_cases c5 : 0 < (a0.size : Int)
   ·
    rw [if_pos c5] at H;have c5b0 := dt c5;have c5b1 : decide (0 < a0.size) = true := dt (by omega);clear c5
    (first | rw [c5b0] | (simp only [i64_w, i32_w]; rw [c5b0]) | skip)
    replace H := ob H;obtain ⟨CW, fK, H⟩ := H
    try dsimp only at H
    have A7 := am fK;clear fK;have H' := am H;clear H;go_wp2_with (first | ((with_reducible refine gate_callee (f := 39) rfl ?_); refine goesL_ (some 6) rfl rfl Tryz.func39 (by kernel_rfl) rfl #[.int .i64 (a0.size : Int), .int .i64 1, .int .i64 10] rfl au50 ?_; (with_reducible refine (impl_inside.calls (a0.size : Int) 1 10 _ _ A3.out).mono ?_); rintro e w' ⟨rfl, ⟨nd, rfl⟩⟩; refine ⟨_, rfl, ?_⟩; have p6 : 0 ≤ (0 : Int) := (by omega); have q6 : 0 < a0.size := (by have : (0 : Int) < (a0.size : Int) := od au106; omega); have uD : ∀ h : 0 < a0.size, ((a0[0]'h).toNat : Int) = bt a0 0 := bt_at a0 0; clear p6; have Ao : (0 < (a0.size : Int)) = True := eq_true (od au106); replace q6 := eq_true q6) | (go_at_call 50; (with_reducible refine (impl_isLower.calls (bt a0 0) CW _ A7.out).mono ?_); rintro e w' ⟨rfl, ⟨nd, rfl⟩⟩));go_meet
    case rel => exact ⟨_, (!CW), au107, H', ⟨by first | omega | exact Nat.le_refl _⟩, by repeat (first | exact Drawn0.refl _ | apply Drawn0.step)⟩
   · rw [if_neg c5] at H;exact absurd H (by simp)
  ·
   replace c4 := Bool.eq_false_iff.mpr c4;subst c4;replace H := (if_neg (show ¬ (false = true) by decide)).symm.trans H;have H' := am H;clear H;go_wp2_with (first | ((with_reducible refine gate_callee (f := 39) rfl ?_); refine goesL_ (some 6) rfl rfl Tryz.func39 (by kernel_rfl) rfl #[.int .i64 (a0.size : Int), .int .i64 1, .int .i64 10] rfl au50 ?_; (with_reducible refine (impl_inside.calls (a0.size : Int) 1 10 _ _ A3.out).mono ?_); rintro e w' ⟨rfl, ⟨nd, rfl⟩⟩; refine ⟨_, rfl, ?_⟩));go_meet
   case rel => exact ⟨_, (true), au107, H', ⟨by first | omega | exact Nat.le_refl _⟩, by repeat (first | exact Drawn0.refl _ | apply Drawn0.step)⟩
 case rest =>
  clear eV
  try clear p2
  try clear c3
  try clear c4
  try clear c5
  try clear c5b0
  try clear c5b1
  try clear p6
  try clear q6
  try clear uD
  try clear Ao
  try clear p6
  try clear q6
  obtain ⟨kq, cE, rfl, HA, eW, ⟨mc1, rfl⟩⟩ := hcut
  cases kq with
  | zero => exact absurd HA.out (by simp [impl_isKey.j0])
  | succ dT =>
   have H := HA.out;clear HA;simp only [impl_isKey.j0] at H;by_cases c8 : cE = true
   · subst c8;replace H := (if_pos rfl).symm.trans H;obtain rfl := ojz H;exact impl_isKey.L0
   ·
    replace c8 := Bool.eq_false_iff.mpr c8;subst c8;replace H := (if_neg (show ¬ (false = true) by decide)).symm.trans H;have H' := am H;clear H;go_wp2
    go_loopg [3] dT (fun kq v3 w' => ∃ (aD : Int), v3 = .int .i64 aD ∧ Aside0 (impl_isKey.l0 kq a0 aD = some r) ∧ Aside0 (kq ≤ dT) ∧ Drawn0 w w')
    case atStart => exact ⟨(0), au107, H', ⟨Nat.le_refl _⟩, by repeat (first | exact Drawn0.refl _ | apply Drawn0.step)⟩
    case round =>
     clear H'
     try clear c1
     try clear p2
     try clear c3
     try clear c4
     try clear c5
     try clear c5b0
     try clear c5b1
     try clear p6
     try clear q6
     try clear uD
     try clear Ao
     try clear c8
     try clear p2
     try clear p6
     try clear q6
     obtain ⟨aD, rfl, HA, HK2, ⟨m2, rfl⟩⟩ := hrel
     cases gk with
     | zero => exact absurd HA.out (by simp [impl_isKey.l0])
     | succ k2 =>
      have H := HA.out;clear HA;simp only [impl_isKey.l0] at H;by_cases c9 : aD < (a0.size : Int)
      ·
       rw [if_pos c9] at H;have c9b0 := dt c9;clear c9;by_cases c10 : 0 ≤ aD
       ·
        rw [if_pos c10] at H;have c10b0 := dt c10;clear c10;replace H := ob H;obtain ⟨Qg, oY, H⟩ := H
        try dsimp only at H
        have pZ := am oY;clear oY;by_cases bW : Qg = true
        ·
         subst bW;replace H := (if_pos rfl).symm.trans H;have H' := am H;clear H;have hZ : 0 ≤ (aD : Int) := od au106;have gz : aD < (a0.size : Int) := od au106;have uE := bt_at a0 aD;replace hZ := eq_true hZ;replace gz := eq_true gz;go_wp2_with (first | ((with_reducible refine gate_callee (f := 50) rfl ?_); refine goesL_ (some 23) rfl rfl Tryz.func50 (by kernel_rfl) rfl #[.int .u8 (bt a0 aD)] rfl au50 ?_; (with_reducible refine (impl_isLower.calls (bt a0 aD) _ _ pZ.out).mono ?_); rintro e w' ⟨rfl, ⟨nd, rfl⟩⟩; refine ⟨_, rfl, ?_⟩))
         go_roundg k2
         case measure => have := eW.out; have := HK2.out; omega
         case rel => exact ⟨(wrap64 (aD + 1)), au107, H', ⟨by have := eW.out; have := HK2.out; omega⟩, by repeat (first | exact Drawn0.refl _ | apply Drawn0.step)⟩
        ·
         replace bW := Bool.eq_false_iff.mpr bW;subst bW;replace H := (if_neg (show ¬ (false = true) by decide)).symm.trans H;replace H := ob H;obtain ⟨Qh, pc, H⟩ := H
         try dsimp only at H
         have qO := am pc;clear pc;by_cases cb : Qh = true
         ·
          subst cb;replace H := (if_pos rfl).symm.trans H;have H' := am H;clear H;have hZ : 0 ≤ (aD : Int) := od au106;have gz : aD < (a0.size : Int) := od au106;have uE := bt_at a0 aD;replace hZ := eq_true hZ;replace gz := eq_true gz;go_wp2_with (first | ((with_reducible refine gate_callee (f := 50) rfl ?_); refine goesL_ (some 23) rfl rfl Tryz.func50 (by kernel_rfl) rfl #[.int .u8 (bt a0 aD)] rfl au50 ?_; (with_reducible refine (impl_isLower.calls (bt a0 aD) _ _ pZ.out).mono ?_); rintro e w' ⟨rfl, ⟨nd, rfl⟩⟩; refine ⟨_, rfl, ?_⟩; have gy : 0 ≤ (aD : Int) := od au106; have fG : aD < (a0.size : Int) := od au106; have tG := bt_at a0 aD; replace gy := eq_true gy; replace fG := eq_true fG) | (go_at_call 51; (with_reducible refine (impl_isDigit.calls (bt a0 aD) _ _ qO.out).mono ?_); rintro e w' ⟨rfl, ⟨nd, rfl⟩⟩))
          go_roundg k2
          case measure => have := eW.out; have := HK2.out; omega
          case rel => exact ⟨(wrap64 (aD + 1)), au107, H', ⟨by have := eW.out; have := HK2.out; omega⟩, by repeat (first | exact Drawn0.refl _ | apply Drawn0.step)⟩
         · replace cb := Bool.eq_false_iff.mpr cb;subst cb;replace H := (if_neg (show ¬ (false = true) by decide)).symm.trans H;obtain rfl := ojz H;have hZ : 0 ≤ (aD : Int) := od au106;have gz : aD < (a0.size : Int) := od au106;have uE := bt_at a0 aD;replace hZ := eq_true hZ;replace gz := eq_true gz;exact impl_isKey.L0
       · rw [if_neg c10] at H;exact absurd H (by simp)
      · rw [if_neg c9] at H;have c9b0 := df c9;clear c9;obtain rfl := ojz H;exact impl_isKey.L0
def impl_isKind.f (a0 : Int) : Option (Bool) := (impl_inside.f a0 1 4).bind fun Hd => (some Hd)
set_option maxHeartbeats 8000000 in
set_option maxRecDepth 100000 in
theorem impl_isKind.calls (a0 : Int) (r : Bool) (w : World) (h : impl_isKind.f a0 = some r) :
  Calls Tryz.prog 36 #[.int .i64 a0] w fun e w' => e = .returned (.bool r) ∧ Drawn0 w w' := by
 have H : ((impl_inside.f a0 1 4).bind fun Hd => (some Hd)) = some r := h;clear h;replace H := ob H;obtain ⟨Hd, dP, H⟩ := H
 try dsimp only at H
 have A2 := am dP;clear dP;obtain rfl := ojz H;go_enter Tryz.func36, Tryz.ntmps36;go_wp2_with (first | ((with_reducible refine gate_callee (f := 39) rfl ?_); refine goesL_ (some 4) rfl rfl Tryz.func39 (by kernel_rfl) rfl #[.int .i64 a0, .int .i64 1, .int .i64 4] rfl au50 ?_; (with_reducible refine (impl_inside.calls a0 1 4 Hd _ A2.out).mono ?_); rintro e w' ⟨rfl, ⟨nd, rfl⟩⟩; refine ⟨_, rfl, ?_⟩));go_ret;exact ax0
def impl_isUpper.f (a0 : Int) : Option (Bool) := if a0 ≥ 65 then (some (decide (a0 ≤ 90))) else (some false)
set_option maxHeartbeats 8000000 in
set_option maxRecDepth 100000 in
theorem impl_isUpper.calls (a0 : Int) (r : Bool) (w : World) (h : impl_isUpper.f a0 = some r) :
  Calls Tryz.prog 79 #[.int .u8 a0] w fun e w' => e = .returned (.bool r) ∧ Drawn0 w w' := by
 have H : (if a0 ≥ 65 then (some (decide (a0 ≤ 90))) else (some false)) = some r := h;clear h;by_cases c2 : a0 ≥ 65
 · rw [if_pos c2] at H;have c2b0 := dt c2;clear c2;obtain rfl := ojz H;go_enter Tryz.func79, Tryz.ntmps79;go_wp2;go_ret;exact ax0
 · rw [if_neg c2] at H;have c2b0 := df c2;clear c2;obtain rfl := ojz H;go_enter Tryz.func79, Tryz.ntmps79;go_wp2;go_ret;exact ax0
def impl_isLetter.f (a0 : Int) : Option (Bool) := (impl_isUpper.f a0).bind fun cH => (if cH = true then (some true) else ((impl_isLower.f a0).bind fun mu => (some mu)))
set_option maxHeartbeats 8000000 in
set_option maxRecDepth 100000 in
theorem impl_isLetter.calls (a0 : Int) (r : Bool) (w : World) (h : impl_isLetter.f a0 = some r) :
  Calls Tryz.prog 81 #[.int .u8 a0] w fun e w' => e = .returned (.bool r) ∧ Drawn0 w w' := by
 have H : ((impl_isUpper.f a0).bind fun cH => (if cH = true then (some true) else ((impl_isLower.f a0).bind fun mu => (some mu)))) = some r := h;clear h;replace H := ob H;obtain ⟨cH, dP, H⟩ := H
 try dsimp only at H
 have A2 := am dP;clear dP;by_cases c3 : cH = true
 · subst c3;replace H := (if_pos rfl).symm.trans H;obtain rfl := ojz H;go_enter Tryz.func81, Tryz.ntmps81;go_wp2_with (first | ((with_reducible refine gate_callee (f := 79) rfl ?_); refine goesL_ (some 4) rfl rfl Tryz.func79 (by kernel_rfl) rfl #[.int .u8 a0] rfl au50 ?_; (with_reducible refine (impl_isUpper.calls a0 true _ A2.out).mono ?_); rintro e w' ⟨rfl, ⟨nd, rfl⟩⟩; refine ⟨_, rfl, ?_⟩));go_ret;exact ax0
 ·
  replace c3 := Bool.eq_false_iff.mpr c3;subst c3;replace H := (if_neg (show ¬ (false = true) by decide)).symm.trans H;replace H := ob H;obtain ⟨mu, i8, H⟩ := H
  try dsimp only at H
  have A4 := am i8;clear i8;obtain rfl := ojz H;go_enter Tryz.func81, Tryz.ntmps81;go_wp2_with (first | ((with_reducible refine gate_callee (f := 79) rfl ?_); refine goesL_ (some 4) rfl rfl Tryz.func79 (by kernel_rfl) rfl #[.int .u8 a0] rfl au50 ?_; (with_reducible refine (impl_isUpper.calls a0 false _ A2.out).mono ?_); rintro e w' ⟨rfl, ⟨nd, rfl⟩⟩; refine ⟨_, rfl, ?_⟩) | (go_at_call 50; (with_reducible refine (impl_isLower.calls a0 mu _ A4.out).mono ?_); rintro e w' ⟨rfl, ⟨nd, rfl⟩⟩));go_ret;exact ax0
mutual
def impl_isNameWord.j0 : Nat → ByteArray → Bool → Option (Bool)
 | 0, _, _ => none
 | k + 1, x0, WV => if WV = true then (some false) else (impl_isNameWord.l0 k x0 0)
def impl_isNameWord.l0 : Nat → ByteArray → Int → Option (Bool)
 | 0, _, _ => none
 | k + 1, x0, x3 => if x3 < (x0.size : Int) then (if 0 ≤ x3 then ((impl_isLetter.f (bt x0 x3)).bind fun jk => (if jk = true then (impl_isNameWord.l0 k x0 (wrap64 (x3 + 1))) else (if (bt x0 x3) = 45 then (if 0 ≤ (wrap64 (x3 - 1)) then (if (wrap64 (x3 - 1)) < (x0.size : Int) then ((impl_isLetter.f (bt x0 (wrap64 (x3 - 1)))).bind fun pP => (if pP = true then (impl_isNameWord.l0 k x0 (wrap64 (x3 + 1))) else (some false))) else (none)) else (none)) else (if (bt x0 x3) = 39 then (if 0 ≤ (wrap64 (x3 - 1)) then (if (wrap64 (x3 - 1)) < (x0.size : Int) then ((impl_isLetter.f (bt x0 (wrap64 (x3 - 1)))).bind fun eX => (if eX = true then (impl_isNameWord.l0 k x0 (wrap64 (x3 + 1))) else (some false))) else (none)) else (none)) else (some false))))) else (none)) else (some true)
end
def impl_isNameWord.f (k : Nat) (a0 : ByteArray) : Option (Bool) := (impl_inside.f (a0.size : Int) 1 12).bind fun ir => (if ir = true then (if 0 ≤ (wrap64 ((a0.size : Int) - 1)) then (if (wrap64 ((a0.size : Int) - 1)) < (a0.size : Int) then ((impl_isLetter.f (bt a0 (wrap64 ((a0.size : Int) - 1)))).bind fun mw => (if mw = true then (if 0 < (a0.size : Int) then ((impl_isLetter.f (bt a0 0)).bind fun na => (impl_isNameWord.j0 k a0 (!na))) else (none)) else (impl_isNameWord.j0 k a0 true))) else (none)) else (none)) else (impl_isNameWord.j0 k a0 true))
theorem impl_isNameWord.mono_l : ∀ k, (∀ y0 y1, LeO (impl_isNameWord.j0 k y0 y1) (impl_isNameWord.j0 (k + 1) y0 y1)) ∧ (∀ y0 y1, LeO (impl_isNameWord.l0 k y0 y1) (impl_isNameWord.l0 (k + 1) y0 y1))
 | 0 => ⟨fun _ _ r h => by simp [impl_isNameWord.j0] at h, fun _ _ r h => by simp [impl_isNameWord.l0] at h⟩
 | k + 1 => by
  obtain ⟨ih0, ih1⟩ := impl_isNameWord.mono_l k;refine ⟨?_, ?_⟩
  ·
   intro y0 y1;unfold impl_isNameWord.j0
   repeat' first
   | (with_reducible exact ih0 _ _)
   | (with_reducible exact ih1 _ _)
   | (with_reducible exact LeO.refl _)
   | (with_reducible exact LeO.none _)
   | (with_reducible refine LeO.ite ?_ ?_)
   | (with_reducible refine LeO.bind ?_ (fun _ => ?_))
   | exact ih0 _ _
   | exact ih1 _ _
   | exact LeO.none _
   | refine LeO.ite ?_ ?_
   | refine LeO.bind ?_ (fun _ => ?_)
  ·
   intro y0 y1;unfold impl_isNameWord.l0
   repeat' first
   | (with_reducible exact ih0 _ _)
   | (with_reducible exact ih1 _ _)
   | (with_reducible exact LeO.refl _)
   | (with_reducible exact LeO.none _)
   | (with_reducible refine LeO.ite ?_ ?_)
   | (with_reducible refine LeO.bind ?_ (fun _ => ?_))
   | exact ih0 _ _
   | exact ih1 _ _
   | exact LeO.none _
   | refine LeO.ite ?_ ?_
   | refine LeO.bind ?_ (fun _ => ?_)
theorem impl_isNameWord.mono : ∀ a0 k, LeO (impl_isNameWord.f k a0) (impl_isNameWord.f (k + 1) a0) := by
 intro a0 k;obtain ⟨ih0, ih1⟩ := impl_isNameWord.mono_l k;unfold impl_isNameWord.f
 repeat' first
   | (with_reducible exact ih0 _ _)
   | (with_reducible exact ih1 _ _)
   | (with_reducible exact LeO.refl _)
   | (with_reducible exact LeO.none _)
   | (with_reducible refine LeO.ite ?_ ?_)
   | (with_reducible refine LeO.bind ?_ (fun _ => ?_))
   | exact ih0 _ _
   | exact ih1 _ _
   | exact LeO.none _
   | refine LeO.ite ?_ ?_
   | refine LeO.bind ?_ (fun _ => ?_)
set_option maxRecDepth 100000 in
theorem impl_isNameWord.L0 {P : Prop} (h : P := by
  go_wp2_with (first | ((with_reducible refine gate_callee (f := 81) rfl ?_); refine goesL_ (some 32) rfl rfl Tryz.func81 (by kernel_rfl) rfl #[.int .u8 (bt a0 aD)] rfl au50 ?_; (with_reducible refine (impl_isLetter.calls (bt a0 aD) _ _ kQ.out).mono ?_); rintro e w' ⟨rfl, ⟨nd, rfl⟩⟩; refine ⟨_, rfl, ?_⟩; have eJ : 0 ≤ (aD : Int) := od au106; have eE : aD < (a0.size : Int) := od au106; have oZ := bt_at a0 aD; replace eJ := eq_true eJ; replace eE := eq_true eE; have p28 : 0 ≤ (aD : Int) := od au106; have mK : aD < (a0.size : Int) := od au106; have G7 := bt_at a0 aD; replace p28 := eq_true p28; replace mK := eq_true mK; have p33 : 0 ≤ ((e5) : Int) := od au106; have uG : (e5) < (a0.size : Int) := od au106; have OM := bt_at a0 (e5); replace p33 := eq_true p33; replace uG := eq_true uG) | (go_at_call 81; (with_reducible refine (impl_isLetter.calls (bt a0 (e5)) _ _ NV.out).mono ?_); rintro e w' ⟨rfl, ⟨nd, rfl⟩⟩));go_ret
  first | (exact ⟨by first | rfl | (simp; done) | (simp only [← kR] <;> (first | rfl | simp)) | (simp [*]; done), by repeat (first | exact Drawn0.refl _ | apply Drawn0.step)⟩) | (exact ax0)) : P := h
set_option maxHeartbeats 8000000 in
set_option maxRecDepth 100000 in
theorem impl_isNameWord.calls (k : Nat) (a0 : ByteArray) (r : Bool) (w : World) (h : impl_isNameWord.f k a0 = some r) :
  Calls Tryz.prog 70 #[.string a0] w fun e w' => e = .returned (.bool r) ∧ Drawn0 w w' := by
 have H : ((impl_inside.f (a0.size : Int) 1 12).bind fun ir => (if ir = true then (if 0 ≤ (wrap64 ((a0.size : Int) - 1)) then (if (wrap64 ((a0.size : Int) - 1)) < (a0.size : Int) then ((impl_isLetter.f (bt a0 (wrap64 ((a0.size : Int) - 1)))).bind fun mw => (if mw = true then (if 0 < (a0.size : Int) then ((impl_isLetter.f (bt a0 0)).bind fun na => (impl_isNameWord.j0 k a0 (!na))) else (none)) else (impl_isNameWord.j0 k a0 true))) else (none)) else (none)) else (impl_isNameWord.j0 k a0 true))) = some r := h;clear h;have eV := am H;clear H;go_enter Tryz.func70, Tryz.ntmps70
 go_upto_region 1 with (fail)
 go_cut [22] (fun v22 wc => ∃ (kq : Nat) (ng : Bool), v22 = .bool ng ∧ Aside0 (impl_isNameWord.j0 kq a0 ng = some r) ∧ Aside0 (kq ≤ k) ∧ Drawn0 w wc)
 case first =>
  have H := eV.out;clear eV;replace H := ob H;obtain ⟨ir, d6, H⟩ := H
  try dsimp only at H
  have A3 := am d6;clear d6;by_cases c4 : ir = true
  ·
   subst c4;replace H := (if_pos rfl).symm.trans H
   obtain ⟨qd, MD⟩ : ∃ j_ : Int, (wrap64 ((a0.size : Int) - 1)) = j_ := ⟨_, rfl⟩
   replace H : (if 0 ≤ (qd) then (if (qd) < (a0.size : Int) then ((impl_isLetter.f (bt a0 (qd))).bind fun mw => (if mw = true then (if 0 < (a0.size : Int) then ((impl_isLetter.f (bt a0 0)).bind fun na => (impl_isNameWord.j0 k a0 (!na))) else (none)) else (impl_isNameWord.j0 k a0 true))) else (none)) else (none)) = some r := by first | (rw [MD] at H; exact H) | (simp only [MD] at H ⊢; exact H)
   (try rw [MD] at A3)
   have hji5w : (IntKind.i64.wrap ((a0.size : Int) - 1)) = qd := (i64_w _).trans MD;by_cases c6 : 0 ≤ (qd)
   ·
    rw [if_pos c6] at H;have c6b0 := dt c6;clear c6
    (first | rw [c6b0] | (simp only [i64_w, i32_w]; rw [c6b0]) | skip)
    by_cases c7 : (qd) < (a0.size : Int)
    ·
     rw [if_pos c7] at H;have c7b0 := dt c7;clear c7;replace H := ob H;obtain ⟨mw, jR, H⟩ := H
     try dsimp only at H
     have A9 := am jR;clear jR;by_cases c10 : mw = true
     ·
      subst c10;replace H := (if_pos rfl).symm.trans H;by_cases bH : 0 < (a0.size : Int)
      ·
       rw [if_pos bH] at H;have c11b0 := dt bH;have c11b1 : decide (0 < a0.size) = true := dt (by omega);clear bH;replace H := ob H;obtain ⟨na, kS, H⟩ := H
       try dsimp only at H
       have uH := am kS;clear kS;have H' := am H;clear H;go_wp2_with (first | ((with_reducible refine gate_callee (f := 39) rfl ?_); refine goesL_ (some 6) rfl rfl Tryz.func39 (by kernel_rfl) rfl #[.int .i64 (a0.size : Int), .int .i64 1, .int .i64 12] rfl au50 ?_; (with_reducible refine (impl_inside.calls (a0.size : Int) 1 12 _ _ A3.out).mono ?_); rintro e w' ⟨rfl, ⟨nd, rfl⟩⟩; refine ⟨_, rfl, ?_⟩; have p8 : 0 ≤ ((qd) : Int) := od au106; have q8 : (qd) < (a0.size : Int) := od au106; have NY := bt_at a0 (qd); replace p8 := eq_true p8; replace q8 := eq_true q8) | (go_at_call 81; (with_reducible refine (impl_isLetter.calls (bt a0 (qd)) _ _ A9.out).mono ?_); rintro e w' ⟨rfl, ⟨nd, rfl⟩⟩; have qa : 0 ≤ (0 : Int) := (by omega); have nf : 0 < a0.size := (by have : (0 : Int) < (a0.size : Int) := od au106; omega); have Bv : ∀ h : 0 < a0.size, ((a0[0]'h).toNat : Int) = bt a0 0 := bt_at a0 0; clear qa; have Qi : (0 < (a0.size : Int)) = True := eq_true (od au106); replace nf := eq_true nf) | (go_at_call 81; (with_reducible refine (impl_isLetter.calls (bt a0 0) na _ uH.out).mono ?_); rintro e w' ⟨rfl, ⟨nd, rfl⟩⟩));go_meet
       case rel => exact ⟨_, (!na), au107, H', ⟨by first | omega | exact Nat.le_refl _⟩, by repeat (first | exact Drawn0.refl _ | apply Drawn0.step)⟩
      · rw [if_neg bH] at H;exact absurd H (by simp)
     ·
      replace c10 := Bool.eq_false_iff.mpr c10;subst c10;replace H := (if_neg (show ¬ (false = true) by decide)).symm.trans H;have H' := am H;clear H;go_wp2_with (first | ((with_reducible refine gate_callee (f := 39) rfl ?_); refine goesL_ (some 6) rfl rfl Tryz.func39 (by kernel_rfl) rfl #[.int .i64 (a0.size : Int), .int .i64 1, .int .i64 12] rfl au50 ?_; (with_reducible refine (impl_inside.calls (a0.size : Int) 1 12 _ _ A3.out).mono ?_); rintro e w' ⟨rfl, ⟨nd, rfl⟩⟩; refine ⟨_, rfl, ?_⟩; have p8 : 0 ≤ ((qd) : Int) := od au106; have q8 : (qd) < (a0.size : Int) := od au106; have NY := bt_at a0 (qd); replace p8 := eq_true p8; replace q8 := eq_true q8) | (go_at_call 81; (with_reducible refine (impl_isLetter.calls (bt a0 (qd)) _ _ A9.out).mono ?_); rintro e w' ⟨rfl, ⟨nd, rfl⟩⟩));go_meet
      case rel => exact ⟨_, (true), au107, H', ⟨by first | omega | exact Nat.le_refl _⟩, by repeat (first | exact Drawn0.refl _ | apply Drawn0.step)⟩
    · rw [if_neg c7] at H;exact absurd H (by simp)
   · rw [if_neg c6] at H;exact absurd H (by simp)
  ·
   replace c4 := Bool.eq_false_iff.mpr c4;subst c4;replace H := (if_neg (show ¬ (false = true) by decide)).symm.trans H;have H' := am H;clear H;go_wp2_with (first | ((with_reducible refine gate_callee (f := 39) rfl ?_); refine goesL_ (some 6) rfl rfl Tryz.func39 (by kernel_rfl) rfl #[.int .i64 (a0.size : Int), .int .i64 1, .int .i64 12] rfl au50 ?_; (with_reducible refine (impl_inside.calls (a0.size : Int) 1 12 _ _ A3.out).mono ?_); rintro e w' ⟨rfl, ⟨nd, rfl⟩⟩; refine ⟨_, rfl, ?_⟩));go_meet
   case rel => exact ⟨_, (true), au107, H', ⟨by first | omega | exact Nat.le_refl _⟩, by repeat (first | exact Drawn0.refl _ | apply Drawn0.step)⟩
 case rest =>
  clear eV
  try clear c1
  try clear p1
  try clear q1
  try clear Rw
  try clear qi1
  try clear p2
  try clear c3
  try clear c4
  try clear c6
  try clear c6b0
  try clear p6
  try clear c7
  try clear c7b0
  try clear p8
  try clear q8
  try clear NY
  try clear c10
  try clear bH
  try clear c11b0
  try clear c11b1
  try clear qa
  try clear nf
  try clear Bv
  try clear Qi
  try clear qa
  try clear p8
  try clear nf
  try clear q8
  obtain ⟨kq, ng, rfl, HA, eW, ⟨mc1, rfl⟩⟩ := hcut
  cases kq with
  | zero => exact absurd HA.out (by simp [impl_isNameWord.j0])
  | succ dT =>
   have H := HA.out;clear HA;simp only [impl_isNameWord.j0] at H;by_cases cO : ng = true
   · subst cO;replace H := (if_pos rfl).symm.trans H;obtain rfl := ojz H;exact impl_isNameWord.L0
   ·
    replace cO := Bool.eq_false_iff.mpr cO;subst cO;replace H := (if_neg (show ¬ (false = true) by decide)).symm.trans H;have H' := am H;clear H;go_wp2
    go_loopg [3] dT (fun kq v3 w' => ∃ (aD : Int), v3 = .int .i64 aD ∧ Aside0 (impl_isNameWord.l0 kq a0 aD = some r) ∧ Aside0 (kq ≤ dT) ∧ Drawn0 w w')
    case atStart => exact ⟨(0), au107, H', ⟨Nat.le_refl _⟩, by repeat (first | exact Drawn0.refl _ | apply Drawn0.step)⟩
    case round =>
     clear H'
     try clear c1
     try clear p1
     try clear q1
     try clear Rw
     try clear qi1
     try clear p2
     try clear c3
     try clear c4
     try clear c6
     try clear c6b0
     try clear p6
     try clear c7
     try clear c7b0
     try clear p8
     try clear q8
     try clear NY
     try clear c10
     try clear bH
     try clear c11b0
     try clear c11b1
     try clear qa
     try clear nf
     try clear Bv
     try clear Qi
     try clear cO
     try clear p1
     try clear qa
     try clear p2
     try clear p6
     try clear p8
     try clear q1
     try clear nf
     try clear q8
     obtain ⟨aD, rfl, HA, HK2, ⟨m2, rfl⟩⟩ := hrel
     cases gk with
     | zero => exact absurd HA.out (by simp [impl_isNameWord.l0])
     | succ k2 =>
      have H := HA.out;clear HA;simp only [impl_isNameWord.l0] at H;by_cases bV : aD < (a0.size : Int)
      ·
       rw [if_pos bV] at H;have c15b0 := dt bV;clear bV;by_cases cb : 0 ≤ aD
       ·
        rw [if_pos cb] at H;have c16b0 := dt cb;clear cb;replace H := ob H;obtain ⟨jk, uI, H⟩ := H
        try dsimp only at H
        have kQ := am uI;clear uI;by_cases dp : jk = true
        ·
         subst dp;replace H := (if_pos rfl).symm.trans H;have H' := am H;clear H;have ep : 0 ≤ (aD : Int) := od au106;have eq : aD < (a0.size : Int) := od au106;have pa := bt_at a0 aD;replace ep := eq_true ep;replace eq := eq_true eq;go_wp2_with (first | ((with_reducible refine gate_callee (f := 81) rfl ?_); refine goesL_ (some 32) rfl rfl Tryz.func81 (by kernel_rfl) rfl #[.int .u8 (bt a0 aD)] rfl au50 ?_; (with_reducible refine (impl_isLetter.calls (bt a0 aD) _ _ kQ.out).mono ?_); rintro e w' ⟨rfl, ⟨nd, rfl⟩⟩; refine ⟨_, rfl, ?_⟩))
         go_roundg k2
         case measure => have := eW.out; have := HK2.out; omega
         case rel => exact ⟨(wrap64 (aD + 1)), au107, H', ⟨by have := eW.out; have := HK2.out; omega⟩, by repeat (first | exact Drawn0.refl _ | apply Drawn0.step)⟩
        ·
         replace dp := Bool.eq_false_iff.mpr dp;subst dp;replace H := (if_neg (show ¬ (false = true) by decide)).symm.trans H;by_cases ew : (bt a0 aD) = 45
         ·
          rw [if_pos ew] at H;have c21b0 := qt ew;have c21b1 := bf ew;clear ew
          obtain ⟨e6, mF⟩ : ∃ j_ : Int, (wrap64 (aD - 1)) = j_ := ⟨_, rfl⟩
          replace H : (if 0 ≤ (e6) then (if (e6) < (a0.size : Int) then ((impl_isLetter.f (bt a0 (e6))).bind fun pP => (if pP = true then (impl_isNameWord.l0 k2 a0 (wrap64 (aD + 1))) else (some false))) else (none)) else (none)) = some r := by first | (rw [mF] at H; exact H) | (simp only [mF] at H ⊢; exact H)
          (try rw [mF] at kQ)
          have hji22w : (IntKind.i64.wrap (aD - 1)) = e6 := (i64_w _).trans mF;by_cases fc : 0 ≤ (e6)
          ·
           rw [if_pos fc] at H;have c23b0 := dt fc;clear fc;by_cases i6 : (e6) < (a0.size : Int)
           ·
            rw [if_pos i6] at H;have c24b0 := dt i6;clear i6;replace H := ob H;obtain ⟨pP, G9, H⟩ := H
            try dsimp only at H
            have NW := am G9;clear G9;by_cases ib : pP = true
            ·
             subst ib;replace H := (if_pos rfl).symm.trans H;have H' := am H;clear H;have ep : 0 ≤ (aD : Int) := od au106;have eq : aD < (a0.size : Int) := od au106;have pa := bt_at a0 aD;replace ep := eq_true ep;replace eq := eq_true eq;go_wp2_with (first | ((with_reducible refine gate_callee (f := 81) rfl ?_); refine goesL_ (some 32) rfl rfl Tryz.func81 (by kernel_rfl) rfl #[.int .u8 (bt a0 aD)] rfl au50 ?_; (with_reducible refine (impl_isLetter.calls (bt a0 aD) _ _ kQ.out).mono ?_); rintro e w' ⟨rfl, ⟨nd, rfl⟩⟩; refine ⟨_, rfl, ?_⟩; have eJ : 0 ≤ (aD : Int) := od au106; have eE : aD < (a0.size : Int) := od au106; have oZ := bt_at a0 aD; replace eJ := eq_true eJ; replace eE := eq_true eE; have p25 : 0 ≤ ((e6) : Int) := od au106; have uJ : (e6) < (a0.size : Int) := od au106; have ON := bt_at a0 (e6); replace p25 := eq_true p25; replace uJ := eq_true uJ) | (go_at_call 81; (with_reducible refine (impl_isLetter.calls (bt a0 (e6)) _ _ NW.out).mono ?_); rintro e w' ⟨rfl, ⟨nd, rfl⟩⟩))
             go_roundg k2
             case measure => have := eW.out; have := HK2.out; omega
             case rel => exact ⟨(wrap64 (aD + 1)), au107, H', ⟨by have := eW.out; have := HK2.out; omega⟩, by repeat (first | exact Drawn0.refl _ | apply Drawn0.step)⟩
            · replace ib := Bool.eq_false_iff.mpr ib;subst ib;replace H := (if_neg (show ¬ (false = true) by decide)).symm.trans H;obtain rfl := ojz H;have ep : 0 ≤ (aD : Int) := od au106;have eq : aD < (a0.size : Int) := od au106;have pa := bt_at a0 aD;replace ep := eq_true ep;replace eq := eq_true eq;go_wp2_with (first | ((with_reducible refine gate_callee (f := 81) rfl ?_); refine goesL_ (some 32) rfl rfl Tryz.func81 (by kernel_rfl) rfl #[.int .u8 (bt a0 aD)] rfl au50 ?_; (with_reducible refine (impl_isLetter.calls (bt a0 aD) _ _ kQ.out).mono ?_); rintro e w' ⟨rfl, ⟨nd, rfl⟩⟩; refine ⟨_, rfl, ?_⟩; have eJ : 0 ≤ (aD : Int) := od au106; have eE : aD < (a0.size : Int) := od au106; have oZ := bt_at a0 aD; replace eJ := eq_true eJ; replace eE := eq_true eE; have p25 : 0 ≤ ((e6) : Int) := od au106; have uJ : (e6) < (a0.size : Int) := od au106; have ON := bt_at a0 (e6); replace p25 := eq_true p25; replace uJ := eq_true uJ) | (go_at_call 81; (with_reducible refine (impl_isLetter.calls (bt a0 (e6)) _ _ NW.out).mono ?_); rintro e w' ⟨rfl, ⟨nd, rfl⟩⟩));go_ret;exact ax3
           · rw [if_neg i6] at H;exact absurd H (by simp)
          · rw [if_neg fc] at H;exact absurd H (by simp)
         ·
          rw [if_neg ew] at H;have c21b0 := qf ew;have c21b1 := bu ew;by_cases fL : (bt a0 aD) = 39
          ·
           rw [if_pos fL] at H;have c29b0 := qt fL;have c29b1 := bf fL;clear fL
           obtain ⟨e5, kR⟩ : ∃ j_ : Int, (wrap64 (aD - 1)) = j_ := ⟨_, rfl⟩
           replace H : (if 0 ≤ (e5) then (if (e5) < (a0.size : Int) then ((impl_isLetter.f (bt a0 (e5))).bind fun eX => (if eX = true then (impl_isNameWord.l0 k2 a0 (wrap64 (aD + 1))) else (some false))) else (none)) else (none)) = some r := by first | (rw [kR] at H; exact H) | (simp only [kR] at H ⊢; exact H)
           (try rw [kR] at kQ)
           have hji30w : (IntKind.i64.wrap (aD - 1)) = e5 := (i64_w _).trans kR;by_cases ic : 0 ≤ (e5)
           ·
            rw [if_pos ic] at H;have c31b0 := dt ic;clear ic;by_cases eI : (e5) < (a0.size : Int)
            ·
             rw [if_pos eI] at H;have c32b0 := dt eI;clear eI;replace H := ob H;obtain ⟨eX, Ga, H⟩ := H
             try dsimp only at H
             have NV := am Ga;clear Ga;by_cases xF : eX = true
             ·
              subst xF;replace H := (if_pos rfl).symm.trans H;have H' := am H;clear H;have ep : 0 ≤ (aD : Int) := od au106;have eq : aD < (a0.size : Int) := od au106;have pa := bt_at a0 aD;replace ep := eq_true ep;replace eq := eq_true eq;go_wp2_with (first | ((with_reducible refine gate_callee (f := 81) rfl ?_); refine goesL_ (some 32) rfl rfl Tryz.func81 (by kernel_rfl) rfl #[.int .u8 (bt a0 aD)] rfl au50 ?_; (with_reducible refine (impl_isLetter.calls (bt a0 aD) _ _ kQ.out).mono ?_); rintro e w' ⟨rfl, ⟨nd, rfl⟩⟩; refine ⟨_, rfl, ?_⟩; have eJ : 0 ≤ (aD : Int) := od au106; have eE : aD < (a0.size : Int) := od au106; have oZ := bt_at a0 aD; replace eJ := eq_true eJ; replace eE := eq_true eE; have p28 : 0 ≤ (aD : Int) := od au106; have mK : aD < (a0.size : Int) := od au106; have G7 := bt_at a0 aD; replace p28 := eq_true p28; replace mK := eq_true mK; have p33 : 0 ≤ ((e5) : Int) := od au106; have uG : (e5) < (a0.size : Int) := od au106; have OM := bt_at a0 (e5); replace p33 := eq_true p33; replace uG := eq_true uG) | (go_at_call 81; (with_reducible refine (impl_isLetter.calls (bt a0 (e5)) _ _ NV.out).mono ?_); rintro e w' ⟨rfl, ⟨nd, rfl⟩⟩))
              go_roundg k2
              case measure => have := eW.out; have := HK2.out; omega
              case rel => exact ⟨(wrap64 (aD + 1)), au107, H', ⟨by have := eW.out; have := HK2.out; omega⟩, by repeat (first | exact Drawn0.refl _ | apply Drawn0.step)⟩
             · replace xF := Bool.eq_false_iff.mpr xF;subst xF;replace H := (if_neg (show ¬ (false = true) by decide)).symm.trans H;obtain rfl := ojz H;have ep : 0 ≤ (aD : Int) := od au106;have eq : aD < (a0.size : Int) := od au106;have pa := bt_at a0 aD;replace ep := eq_true ep;replace eq := eq_true eq;exact impl_isNameWord.L0
            · rw [if_neg eI] at H;exact absurd H (by simp)
           · rw [if_neg ic] at H;exact absurd H (by simp)
          · rw [if_neg fL] at H;have c29b0 := qf fL;have c29b1 := bu fL;obtain rfl := ojz H;have ep : 0 ≤ (aD : Int) := od au106;have eq : aD < (a0.size : Int) := od au106;have pa := bt_at a0 aD;replace ep := eq_true ep;replace eq := eq_true eq;go_wp2_with (first | ((with_reducible refine gate_callee (f := 81) rfl ?_); refine goesL_ (some 32) rfl rfl Tryz.func81 (by kernel_rfl) rfl #[.int .u8 (bt a0 aD)] rfl au50 ?_; (with_reducible refine (impl_isLetter.calls (bt a0 aD) _ _ kQ.out).mono ?_); rintro e w' ⟨rfl, ⟨nd, rfl⟩⟩; refine ⟨_, rfl, ?_⟩; have eJ : 0 ≤ (aD : Int) := od au106; have eE : aD < (a0.size : Int) := od au106; have oZ := bt_at a0 aD; replace eJ := eq_true eJ; replace eE := eq_true eE; have p28 : 0 ≤ (aD : Int) := od au106; have mK : aD < (a0.size : Int) := od au106; have G7 := bt_at a0 aD; replace p28 := eq_true p28; replace mK := eq_true mK));go_ret;exact ax0
       · rw [if_neg cb] at H;exact absurd H (by simp)
      · rw [if_neg bV] at H;have c15b0 := df bV;clear bV;obtain rfl := ojz H;exact impl_isNameWord.L0
def impl_isGreatWord.f (k : Nat) (a0 : ByteArray) : Option (Bool) := (impl_isNameWord.f k a0).bind fun jD => (if jD = true then (if 0 < (a0.size : Int) then ((impl_isUpper.f (bt a0 0)).bind fun ul => (some ul)) else (none)) else (some false))
theorem impl_isGreatWord.mono : ∀ a0 k, LeO (impl_isGreatWord.f k a0) (impl_isGreatWord.f (k + 1) a0) := by
 intro a0 k;unfold impl_isGreatWord.f
 repeat' first
   | (with_reducible exact impl_isNameWord.mono _ _)
   | (with_reducible exact LeO.refl _)
   | (with_reducible exact LeO.none _)
   | (with_reducible refine LeO.ite ?_ ?_)
   | (with_reducible refine LeO.bind ?_ (fun _ => ?_))
   | exact impl_isNameWord.mono _ _
   | exact LeO.none _
   | refine LeO.ite ?_ ?_
   | refine LeO.bind ?_ (fun _ => ?_)
set_option maxHeartbeats 8000000 in
set_option maxRecDepth 100000 in
theorem impl_isGreatWord.calls (k : Nat) (a0 : ByteArray) (r : Bool) (w : World) (h : impl_isGreatWord.f k a0 = some r) :
  Calls Tryz.prog 68 #[.string a0] w fun e w' => e = .returned (.bool r) ∧ Drawn0 w w' := by
 have H : ((impl_isNameWord.f k a0).bind fun jD => (if jD = true then (if 0 < (a0.size : Int) then ((impl_isUpper.f (bt a0 0)).bind fun ul => (some ul)) else (none)) else (some false))) = some r := h;clear h;replace H := ob H;obtain ⟨jD, dP, H⟩ := H
 try dsimp only at H
 have A2 := am dP;clear dP;by_cases c3 : jD = true
 ·
  subst c3;replace H := (if_pos rfl).symm.trans H;by_cases c4 : 0 < (a0.size : Int)
  ·
   rw [if_pos c4] at H;have c4b0 := dt c4;have c4b1 : decide (0 < a0.size) = true := dt (by omega);clear c4;replace H := ob H;obtain ⟨ul, fF, H⟩ := H
   try dsimp only at H
   have A6 := am fF;clear fF;obtain rfl := ojz H;go_enter Tryz.func68, Tryz.ntmps68;go_wp2_with (first | ((with_reducible refine gate_callee (f := 70) rfl ?_); refine goesL_ (some 4) rfl rfl Tryz.func70 (by kernel_rfl) rfl #[.string a0] rfl au50 ?_; (with_reducible refine (impl_isNameWord.calls k a0 true _ A2.out).mono ?_); rintro e w' ⟨rfl, ⟨nd, rfl⟩⟩; refine ⟨_, rfl, ?_⟩; have p5 : 0 ≤ (0 : Int) := (by omega); have q5 : 0 < a0.size := (by have : (0 : Int) < (a0.size : Int) := od au106; omega); have NZ : ∀ h : 0 < a0.size, ((a0[0]'h).toNat : Int) = bt a0 0 := bt_at a0 0; clear p5; have qi5 : (0 < (a0.size : Int)) = True := eq_true (od au106); replace q5 := eq_true q5) | (go_at_call 79; (with_reducible refine (impl_isUpper.calls (bt a0 0) ul _ A6.out).mono ?_); rintro e w' ⟨rfl, ⟨nd, rfl⟩⟩));go_ret;exact ax0
  · rw [if_neg c4] at H;exact absurd H (by simp)
 · replace c3 := Bool.eq_false_iff.mpr c3;subst c3;replace H := (if_neg (show ¬ (false = true) by decide)).symm.trans H;obtain rfl := ojz H;go_enter Tryz.func68, Tryz.ntmps68;go_wp2_with (first | ((with_reducible refine gate_callee (f := 70) rfl ?_); refine goesL_ (some 4) rfl rfl Tryz.func70 (by kernel_rfl) rfl #[.string a0] rfl au50 ?_; (with_reducible refine (impl_isNameWord.calls k a0 false _ A2.out).mono ?_); rintro e w' ⟨rfl, ⟨nd, rfl⟩⟩; refine ⟨_, rfl, ?_⟩));go_ret;exact ax0
end Go.Proofs.YthfbogcpjfledaaGreatDoor.G

namespace Go.Proofs
open Go.Shelf
def Tryz.lays156_ren : Go.Shelf.Ren := ⟨fun | 156 => 73 | 165 => 90 | 166 => 91 | 169 => 92 | 240 => 101 | 241 => 102 | 276 => 113 | 277 => 114 | n => n, fun | 31 => 28 | 9 => 9 | 3 => 3 | 4 => 4 | 0 => 0 | 20 => 20 | 72 => 94 | 76 => 98 | 70 => 92 | 37 => 68 | 75 => 97 | 127 => 107 | 164 => 117 | 5 => 5 | 80 => 100 | n => n, fun | n => n⟩
theorem Tryz.lays156 : Go.Proofs.Lays.n156 Tryz.prog Tryz.lays156_ren := {
  mixed := by kernel_rfl
  f156 := Tryz.func73.trans (congrArg some (by kernel_rfl))
  f165 := Tryz.func90.trans (congrArg some (by kernel_rfl))
  f166 := Tryz.func91.trans (congrArg some (by kernel_rfl))
  f169 := Tryz.func92.trans (congrArg some (by kernel_rfl))
  f240 := Tryz.func101.trans (congrArg some (by kernel_rfl))
  f241 := Tryz.func102.trans (congrArg some (by kernel_rfl))
  f276 := Tryz.func113.trans (congrArg some (by kernel_rfl))
  f277 := Tryz.func114.trans (congrArg some (by kernel_rfl))
  t0 := Tryz.underlying0
  a0 := Tryz.isAgg0
  z0 := Tryz.sizeOf0
  v0 := Tryz.zeroValue0
  t3 := Tryz.underlying3
  a3 := Tryz.isAgg3
  z3 := Tryz.sizeOf3
  v3 := Tryz.zeroValue3
  t4 := Tryz.underlying4
  a4 := Tryz.isAgg4
  z4 := Tryz.sizeOf4
  v4 := Tryz.zeroValue4
  t9 := Tryz.underlying9
  a9 := Tryz.isAgg9
  z9 := Tryz.sizeOf9
  v9 := Tryz.zeroValue9
  t20 := Tryz.underlying20
  a20 := Tryz.isAgg20
  z20 := Tryz.sizeOf20
  v20 := Tryz.zeroValue20
  t31 := Tryz.underlying28
  a31 := Tryz.isAgg28
  z31 := Tryz.sizeOf28
  v31 := Tryz.zeroValue28
  t37 := Tryz.underlying68
  a37 := Tryz.isAgg68
  z37 := Tryz.sizeOf68
  v37 := Tryz.zeroValue68
  t70 := Tryz.underlying92
  a70 := Tryz.isAgg92
  z70 := Tryz.sizeOf92
  v70 := Tryz.zeroValue92
  t72 := Tryz.underlying94
  a72 := Tryz.isAgg94
  z72 := Tryz.sizeOf94
  v72 := Tryz.zeroValue94
  t75 := Tryz.underlying97
  a75 := Tryz.isAgg97
  z75 := Tryz.sizeOf97
  v75 := Tryz.zeroValue97
  t76 := Tryz.underlying98
  a76 := Tryz.isAgg98
  z76 := Tryz.sizeOf98
  v76 := Tryz.zeroValue98
  t127 := Tryz.underlying107
  a127 := Tryz.isAgg107
  z127 := Tryz.sizeOf107
  v127 := Tryz.zeroValue107
  t164 := Tryz.underlying117
  a164 := Tryz.isAgg117
  z164 := Tryz.sizeOf117
  v164 := Tryz.zeroValue117 }
theorem Tryz.Builder_Extra_156 : Builder.Extra Tryz.prog Tryz.lays156_ren := {
  sizeBuilder := by kernel_rfl
  liesBuilder := by kernel_rfl
  t5 := Tryz.underlying5
  a5 := Tryz.isAgg5
  z5 := Tryz.sizeOf5
  v5 := Tryz.zeroValue5
  infoByte := by kernel_rfl
  cellsByte := by kernel_rfl
  sizeByte := by kernel_rfl
  neB5 := by decide }
open Go.RowKit in
theorem Tryz.strings_Join_none (a : Option Addr) (c : Nat) (sep : ByteArray) (w : World) :
    Calls Tryz.prog 73 #[.slice a 0 c, .string sep] w fun e w' => e = .returned (.string ⟨#[]⟩) ∧ w' = w := Any.strings_Join_none Tryz.lays156 Tryz.Builder_Extra_156 a c sep w
open Go.RowKit in
theorem Tryz.strings_Join (bk o c : Nat) (xs : List ByteArray) (sep : ByteArray) (w : World) (hcells : ∀ (j : Nat) x, xs[j]? = some x → w.cell? ⟨bk, o + j, none⟩ = some (.string x)) (hbk : bk < w.heap.size) (hN : xs.length ≤ 140737488355328) (hcap : xs.length ≤ c) (hlen : (Lib.join (xs.map (·.data.toList)) sep.data.toList).length ≤ 140737488355328) :
    Calls Tryz.prog 73 #[.slice (some ⟨bk, o, none⟩) xs.length c, .string sep] w fun e w' => e = .returned (.string ⟨(Lib.join (xs.map (·.data.toList)) sep.data.toList).toArray⟩) ∧ Below w.heap.size w w' := Any.strings_Join Tryz.lays156 Tryz.Builder_Extra_156 bk o c xs sep w hcells hbk hN hcap hlen
def Tryz.laysM171_ren : Go.Shelf.Ren := ⟨fun | 171 => 59 | 243 => 75 | 246 => 93 | 283 => 103 | 284 => 104 | 285 => 105 | 286 => 106 | 129 => 116 | 317 => 115 | 318 => 117 | 319 => 118 | 320 => 119 | 337 => 127 | 338 => 128 | n => n, fun | 3 => 3 | 9 => 9 | 2 => 2 | 4 => 4 | 171 => 108 | 0 => 0 | 53 => 109 | 37 => 68 | 5 => 5 | 173 => 112 | 212 => 122 | 51 => 123 | 20 => 20 | 213 => 124 | 46 => 125 | 232 => 135 | 233 => 136 | n => n, fun | 17 => 1 | 18 => 5 | 19 => 6 | n => n⟩
theorem Tryz.laysM171 : Go.Proofs.LaysM.n171 Tryz.prog Tryz.laysM171_ren := {
  mixed := by kernel_rfl
  f129 := Tryz.func116.trans (congrArg some (by kernel_rfl))
  f171 := Tryz.func59.trans (congrArg some (by kernel_rfl))
  f243 := Tryz.func75.trans (congrArg some (by kernel_rfl))
  f246 := Tryz.func93.trans (congrArg some (by kernel_rfl))
  f283 := Tryz.func103.trans (congrArg some (by kernel_rfl))
  f284 := Tryz.func104.trans (congrArg some (by kernel_rfl))
  f285 := Tryz.func105.trans (congrArg some (by kernel_rfl))
  f286 := Tryz.func106.trans (congrArg some (by kernel_rfl))
  f317 := Tryz.func115.trans (congrArg some (by kernel_rfl))
  f318 := Tryz.func117.trans (congrArg some (by kernel_rfl))
  f319 := Tryz.func118.trans (congrArg some (by kernel_rfl))
  f320 := Tryz.func119.trans (congrArg some (by kernel_rfl))
  f337 := Tryz.func127.trans (congrArg some (by kernel_rfl))
  f338 := Tryz.func128.trans (congrArg some (by kernel_rfl))
  t0 := Tryz.underlying0
  a0 := Tryz.isAgg0
  z0 := Tryz.sizeOf0
  v0 := Tryz.zeroValue0
  t2 := Tryz.underlying2
  a2 := Tryz.isAgg2
  z2 := Tryz.sizeOf2
  v2 := Tryz.zeroValue2
  t3 := Tryz.underlying3
  a3 := Tryz.isAgg3
  z3 := Tryz.sizeOf3
  v3 := Tryz.zeroValue3
  t4 := Tryz.underlying4
  a4 := Tryz.isAgg4
  z4 := Tryz.sizeOf4
  v4 := Tryz.zeroValue4
  t5 := Tryz.underlying5
  a5 := Tryz.isAgg5
  z5 := Tryz.sizeOf5
  v5 := Tryz.zeroValue5
  t9 := Tryz.underlying9
  a9 := Tryz.isAgg9
  z9 := Tryz.sizeOf9
  v9 := Tryz.zeroValue9
  t20 := Tryz.underlying20
  a20 := Tryz.isAgg20
  z20 := Tryz.sizeOf20
  v20 := Tryz.zeroValue20
  t37 := Tryz.underlying68
  a37 := Tryz.isAgg68
  z37 := Tryz.sizeOf68
  v37 := Tryz.zeroValue68
  t46 := Tryz.underlying125
  a46 := Tryz.isAgg125
  z46 := Tryz.sizeOf125
  v46 := Tryz.zeroValue125
  t51 := Tryz.underlying123
  a51 := Tryz.isAgg123
  z51 := Tryz.sizeOf123
  v51 := Tryz.zeroValue123
  t53 := Tryz.underlying109
  a53 := Tryz.isAgg109
  z53 := Tryz.sizeOf109
  v53 := Tryz.zeroValue109
  t171 := Tryz.underlying108
  a171 := Tryz.isAgg108
  z171 := Tryz.sizeOf108
  v171 := Tryz.zeroValue108
  t173 := Tryz.underlying112
  a173 := Tryz.isAgg112
  z173 := Tryz.sizeOf112
  v173 := Tryz.zeroValue112
  t212 := Tryz.underlying122
  a212 := Tryz.isAgg122
  z212 := Tryz.sizeOf122
  v212 := Tryz.zeroValue122
  t213 := Tryz.underlying124
  a213 := Tryz.isAgg124
  z213 := Tryz.sizeOf124
  t232 := Tryz.underlying135
  a232 := Tryz.isAgg135
  z232 := Tryz.sizeOf135
  v232 := Tryz.zeroValue135
  t233 := Tryz.underlying136
  a233 := Tryz.isAgg136
  z233 := Tryz.sizeOf136
  v233 := Tryz.zeroValue136
  g17 := by kernel_rfl
  g18 := by kernel_rfl
  g19 := by kernel_rfl
  i0 := by kernel_rfl
  i2 := by kernel_rfl
  i3 := by kernel_rfl
  i4 := by kernel_rfl
  i5 := by kernel_rfl
  i9 := by kernel_rfl
  i20 := by kernel_rfl
  i37 := by kernel_rfl
  i46 := by kernel_rfl
  i51 := by kernel_rfl
  i53 := by kernel_rfl
  i171 := by kernel_rfl
  i173 := by kernel_rfl
  i212 := by kernel_rfl
  i232 := by kernel_rfl
  i233 := by kernel_rfl
  m17 := by kernel_rfl
  m18 := by kernel_rfl
  m19 := by kernel_rfl }
open Go.RowKit Go.Sort Go.Lib in
theorem Tryz.strconv_Itoa (n : Int) (h0 : -9223372036854775808 ≤ n) (h1 : n ≤ 9223372036854775807) (w : World) (htab : Lib.TabIs Tryz.prog w "internal/strconv.uint64pow10" .u64 Lib.pow10Tab) :
    Calls Tryz.prog 59 #[.int .i64 n] w fun e w' => e = .returned (.string ⟨(Lib.itoa n).toArray⟩) ∧ ∃ k os, w' = grow (w.drewN k) os := Any.strconv_Itoa Tryz.laysM171 n h0 h1 w htab
def Tryz.lays146_ren : Go.Shelf.Ren := ⟨fun | 146 => 80 | 221 => 94 | 268 => 107 | 138 => 108 | 143 => 109 | 195 => 120 | 197 => 96 | 218 => 121 | 219 => 122 | 260 => 110 | 217 => 129 | 225 => 126 | 224 => 125 | 267 => 130 | 266 => 131 | 314 => 132 | n => n, fun | 9 => 9 | 31 => 28 | 3 => 3 | 4 => 4 | 0 => 0 | 105 => 103 | 21 => 21 | 5 => 5 | 46 => 125 | 119 => 129 | 139 => 132 | 138 => 131 | 146 => 137 | 51 => 123 | n => n, fun | 1 => 4 | 3 => 2 | 4 => 3 | n => n⟩
theorem Tryz.lays146 : Go.Proofs.Lays.n146 Tryz.prog Tryz.lays146_ren := {
  mixed := by kernel_rfl
  f138 := Tryz.func108.trans (congrArg some (by kernel_rfl))
  f143 := Tryz.func109.trans (congrArg some (by kernel_rfl))
  f146 := Tryz.func80.trans (congrArg some (by kernel_rfl))
  f195 := Tryz.func120.trans (congrArg some (by kernel_rfl))
  f197 := Tryz.func96.trans (congrArg some (by kernel_rfl))
  f217 := Tryz.func129.trans (congrArg some (by kernel_rfl))
  f218 := Tryz.func121.trans (congrArg some (by kernel_rfl))
  f219 := Tryz.func122.trans (congrArg some (by kernel_rfl))
  f221 := Tryz.func94.trans (congrArg some (by kernel_rfl))
  f224 := Tryz.func125.trans (congrArg some (by kernel_rfl))
  f225 := Tryz.func126.trans (congrArg some (by kernel_rfl))
  f260 := Tryz.func110.trans (congrArg some (by kernel_rfl))
  f266 := Tryz.func131.trans (congrArg some (by kernel_rfl))
  f267 := Tryz.func130.trans (congrArg some (by kernel_rfl))
  f268 := Tryz.func107.trans (congrArg some (by kernel_rfl))
  f314 := Tryz.func132.trans (congrArg some (by kernel_rfl))
  t0 := Tryz.underlying0
  a0 := Tryz.isAgg0
  z0 := Tryz.sizeOf0
  v0 := Tryz.zeroValue0
  t3 := Tryz.underlying3
  a3 := Tryz.isAgg3
  z3 := Tryz.sizeOf3
  v3 := Tryz.zeroValue3
  t4 := Tryz.underlying4
  a4 := Tryz.isAgg4
  z4 := Tryz.sizeOf4
  v4 := Tryz.zeroValue4
  t5 := Tryz.underlying5
  a5 := Tryz.isAgg5
  z5 := Tryz.sizeOf5
  v5 := Tryz.zeroValue5
  t9 := Tryz.underlying9
  a9 := Tryz.isAgg9
  z9 := Tryz.sizeOf9
  v9 := Tryz.zeroValue9
  t21 := Tryz.underlying21
  a21 := Tryz.isAgg21
  z21 := Tryz.sizeOf21
  v21 := Tryz.zeroValue21
  t31 := Tryz.underlying28
  a31 := Tryz.isAgg28
  z31 := Tryz.sizeOf28
  v31 := Tryz.zeroValue28
  t46 := Tryz.underlying125
  a46 := Tryz.isAgg125
  z46 := Tryz.sizeOf125
  v46 := Tryz.zeroValue125
  t51 := Tryz.underlying123
  a51 := Tryz.isAgg123
  z51 := Tryz.sizeOf123
  v51 := Tryz.zeroValue123
  t105 := Tryz.underlying103
  a105 := Tryz.isAgg103
  z105 := Tryz.sizeOf103
  v105 := Tryz.zeroValue103
  t119 := Tryz.underlying129
  a119 := Tryz.isAgg129
  z119 := Tryz.sizeOf129
  t138 := Tryz.underlying131
  a138 := Tryz.isAgg131
  z138 := Tryz.sizeOf131
  v138 := Tryz.zeroValue131
  t139 := Tryz.underlying132
  a139 := Tryz.isAgg132
  z139 := Tryz.sizeOf132
  v139 := Tryz.zeroValue132
  t146 := Tryz.underlying137
  a146 := Tryz.isAgg137
  z146 := Tryz.sizeOf137
  v146 := Tryz.zeroValue137
  g1 := by kernel_rfl
  g3 := by kernel_rfl
  g4 := by kernel_rfl }
open Go.RowKit Go.Lib in
theorem Tryz.strings_Split (s sep : ByteArray) (m : Int) (w : World) (hs : s.size < 4294967281) (hm : w.cell? ⟨4, 0, none⟩ = some (.int .i64 m)) (h1 : 1 ≤ sep.size) :
    Calls Tryz.prog 80 #[.string s, .string sep] w fun e w' =>
      e = .returned (.slice (some ⟨w.heap.size, 0, none⟩) (Lib.countB s sep + 1) (Lib.countB s sep + 1)) ∧ w' = w.alloc (.cells ((Lib.splitB sep 0 (Lib.countB s sep) s).map Value.string).toArray 9) := Any.strings_Split Tryz.lays146 (by kernel_rfl) s sep m w hs hm h1
def Tryz.laysSlH10_f99_ren : Go.Shelf.Ren := ⟨fun | 10 => 99 | 6 => 78 | n => n, fun | 22 => 28 | 23 => 9 | 25 => 56 | 3 => 3 | 4 => 4 | 0 => 0 | n => n, fun | n => n⟩
theorem Tryz.laysSlH10_f99 : Go.Proofs.SlLaysH.n10 Tryz.prog Tryz.laysSlH10_f99_ren := {
  mixed := by kernel_rfl
  f6 := ⟨Tryz.f78.name, by decide, Tryz.func78.trans (congrArg some (by kernel_rfl))⟩
  f10 := ⟨Tryz.f99.name, by decide, Tryz.func99.trans (congrArg some (by kernel_rfl))⟩
  t0 := Tryz.underlying0
  a0 := Tryz.isAgg0
  z0 := Tryz.sizeOf0
  v0 := Tryz.zeroValue0
  t3 := Tryz.underlying3
  a3 := Tryz.isAgg3
  z3 := Tryz.sizeOf3
  v3 := Tryz.zeroValue3
  t4 := Tryz.underlying4
  a4 := Tryz.isAgg4
  z4 := Tryz.sizeOf4
  v4 := Tryz.zeroValue4
  t22 := Tryz.underlying28
  a22 := Tryz.isAgg28
  z22 := Tryz.sizeOf28
  v22 := Tryz.zeroValue28
  a23 := Tryz.isAgg9
  z23 := Tryz.sizeOf9
  t25 := Tryz.underlying56
  a25 := Tryz.isAgg56
  z25 := Tryz.sizeOf56
  v25 := Tryz.zeroValue56 }
open Go.RowKit Go.Lib Go.Sort in
theorem Tryz.slices_DeleteFunc {α : Type} [Inhabited α] (enc : α → Value) (hO : OneCell enc) (p : α → Bool) (g : Nat) (lb : Array Value) (eg : ∀ args w, (callFunc g args).run Tryz.prog w = .ok (.enter g args) w) (zr : α) (v23 : ∀ w, (zeroValue 9).run Tryz.prog w = .ok (enc zr) w) (blk off cap : Nat) (d : Array α) (w : World) (hp : PredAt Tryz.prog g lb enc p w) (hpo : PredOver Tryz.prog g lb enc p blk off d.size w) (hH : Holds enc w blk off d) (hsz : d.size ≤ 9223372036854775807) (hcap : d.size ≤ cap) :
    Calls Tryz.prog 99 #[.slice (some ⟨blk, off, none⟩) d.size cap, .func (.func g) #[] lb] w fun e w' => e = .returned (.slice (some ⟨blk, off, none⟩) (d.toList.filter fun x => !p x).length cap) ∧ ∃ q, w' = putRow enc (Sort.ahead w q) blk off ((d.toList.filter fun x => !p x) ++ List.replicate (d.size - (d.toList.filter fun x => !p x).length) zr).toArray := AnyE.slices_DeleteFunc Tryz.laysSlH10_f99 enc hO p g lb eg zr v23 blk off cap d w hp hpo hH hsz hcap
end Go.Proofs

namespace Go.Proofs.YthfbogcpjfledaaGreatDoor.G
open Go.RowKit Go.Proofs.YthfbogcpjfledaaGreatDoorW.PrintWords Go.Proofs.YthfbogcpjfledaaGreatDoorW.PrintLast Go.Proofs.YthfbogcpjfledaaGreatDoorW.PrintMore
open Go.Proofs.YthfbogcpjfledaaGreatDoor.Gl Go.Proofs.YthfbogcpjfledaaGreatDoor.Ext
attribute [local go_sem] max2_int min2_int max_two min_two max_three min_three max_four min_four   -- for this text's walks alone
set_option linter.unusedVariables false
set_option linter.unusedSimpArgs false
def strings_Split.f (a0 : ByteArray) (a1 : ByteArray) : Option (List ByteArray) :=
 if a0.size < 4294967281 ∧ 1 ≤ a1.size ∧ (Lib.splitB a1 0 (Lib.countB a0 a1) a0).length = Lib.countB a0 a1 + 1 ∧ Lib.countB a0 a1 < 4294967296 then some (Lib.splitB a1 0 (Lib.countB a0 a1) a0) else none
theorem strings_Split.calls (a0 : ByteArray) (a1 : ByteArray) (r : List ByteArray) (w : World) {gF1 gF2 gF3 : Bool} (hG : GL gF1 gF2 gF3 w) (h : strings_Split.f a0 a1 = some r) :
  Calls Tryz.prog 80 #[.string a0, .string a1] w fun e w' => ∃ gA : Value, e = .returned (gA) ∧ Kd.R Kd.string 9 w' w.heap.size (fun _ => True) gA r ∧ Below w.heap.size w w' := by
 unfold strings_Split.f at h;by_cases hg : a0.size < 4294967281 ∧ 1 ≤ a1.size ∧ (Lib.splitB a1 0 (Lib.countB a0 a1) a0).length = Lib.countB a0 a1 + 1 ∧ Lib.countB a0 a1 < 4294967296
 · rw [if_pos hg] at h;obtain rfl := ojz h;obtain ⟨m, hm⟩ := hG.mx;refine (Tryz.strings_Split a0 a1 m w hg.1 hm hg.2.1).mono ?_;rintro e w' ⟨rfl, rfl⟩;rw [← hg.2.2.1];refine ⟨_, rfl, Kd.R_of_own (own_lit_of (enc := Value.string) w w.heap.size 9 _ (Nat.le_refl _) ?_) (fun _ _ => trivial), (Below.refl _ _).alloc (Nat.le_refl _) _⟩;rw [hg.2.2.1]; omega
 · rw [if_neg hg] at h; cases h
mutual
def impl_isParticle.l0 : Nat → List ByteArray → List ByteArray → Int → Int → Option (Bool)
 | 0, _, _, _, _ => none
 | k + 1, x3, ri, He, oX => if oX < He then (if 0 ≤ oX then (if oX < (ri.length : Int) then ((impl_inside.f ((rdOf ByteArray.empty ri oX).size : Int) 1 12).bind fun na => (if na = true then (impl_isParticle.l1 k x3 (rdOf ByteArray.empty ri oX) 0 ri He oX) else (some false))) else (none)) else (none)) else (some (decide ((x3.length : Int) ≤ 2)))
def impl_isParticle.l1 : Nat → List ByteArray → ByteArray → Int → List ByteArray → Int → Int → Option (Bool)
 | 0, _, _, _, _, _, _ => none
 | k + 1, x3, x5, x6, ri, He, oX => if x6 < (x5.size : Int) then (if 0 ≤ x6 then ((impl_isLower.f (bt x5 x6)).bind fun jk => (if jk = true then (impl_isParticle.l1 k x3 x5 (wrap64 (x6 + 1)) ri He oX) else (some false))) else (none)) else (impl_isParticle.l0 k x3 ri He (wrap64 (oX + 1)))
end
def impl_isParticle.f (k : Nat) (a0 : ByteArray) : Option (Bool) := if a0.toList = ([] : List UInt8) then (some true) else ((strings_Split.f a0 (⟨#[32]⟩ : ByteArray)).bind fun cH => (impl_isParticle.l0 k cH cH (cH.length : Int) 0))
theorem impl_isParticle.mono_l : ∀ k, (∀ y0 y1 y2 y3, LeO (impl_isParticle.l0 k y0 y1 y2 y3) (impl_isParticle.l0 (k + 1) y0 y1 y2 y3)) ∧ (∀ y0 y1 y2 y3 y4 y5, LeO (impl_isParticle.l1 k y0 y1 y2 y3 y4 y5) (impl_isParticle.l1 (k + 1) y0 y1 y2 y3 y4 y5))
 | 0 => ⟨fun _ _ _ _ r h => by simp [impl_isParticle.l0] at h, fun _ _ _ _ _ _ r h => by simp [impl_isParticle.l1] at h⟩
 | k + 1 => by
  obtain ⟨ih0, ih1⟩ := impl_isParticle.mono_l k;refine ⟨?_, ?_⟩
  ·
   intro y0 y1 y2 y3;unfold impl_isParticle.l0
   repeat' first
   | (with_reducible exact ih0 _ _ _ _)
   | (with_reducible exact ih1 _ _ _ _ _ _)
   | (with_reducible exact LeO.refl _)
   | (with_reducible exact LeO.none _)
   | (with_reducible refine LeO.ite ?_ ?_)
   | (with_reducible refine LeO.bind ?_ (fun _ => ?_))
   | exact ih0 _ _ _ _
   | exact ih1 _ _ _ _ _ _
   | exact LeO.none _
   | refine LeO.ite ?_ ?_
   | refine LeO.bind ?_ (fun _ => ?_)
  ·
   intro y0 y1 y2 y3 y4 y5;unfold impl_isParticle.l1
   repeat' first
   | (with_reducible exact ih0 _ _ _ _)
   | (with_reducible exact ih1 _ _ _ _ _ _)
   | (with_reducible exact LeO.refl _)
   | (with_reducible exact LeO.none _)
   | (with_reducible refine LeO.ite ?_ ?_)
   | (with_reducible refine LeO.bind ?_ (fun _ => ?_))
   | exact ih0 _ _ _ _
   | exact ih1 _ _ _ _ _ _
   | exact LeO.none _
   | refine LeO.ite ?_ ?_
   | refine LeO.bind ?_ (fun _ => ?_)
theorem impl_isParticle.mono : ∀ a0 k, LeO (impl_isParticle.f k a0) (impl_isParticle.f (k + 1) a0) := by
 intro a0 k;obtain ⟨ih0, ih1⟩ := impl_isParticle.mono_l k;unfold impl_isParticle.f
 repeat' first
   | (with_reducible exact ih0 _ _ _ _)
   | (with_reducible exact ih1 _ _ _ _ _ _)
   | (with_reducible exact LeO.refl _)
   | (with_reducible exact LeO.none _)
   | (with_reducible refine LeO.ite ?_ ?_)
   | (with_reducible refine LeO.bind ?_ (fun _ => ?_))
   | exact ih0 _ _ _ _
   | exact ih1 _ _ _ _ _ _
   | exact LeO.none _
   | refine LeO.ite ?_ ?_
   | refine LeO.bind ?_ (fun _ => ?_)
set_option maxHeartbeats 8000000 in
set_option maxRecDepth 100000 in
theorem impl_isParticle.calls (k : Nat) (a0 : ByteArray) (r : Bool) (w : World) {gF1 gF2 gF3 : Bool} (hG : GL gF1 gF2 gF3 w) (h : impl_isParticle.f k a0 = some r) :
  Calls Tryz.prog 69 #[.string a0] w fun e w' => e = .returned (.bool r) ∧ Below w.heap.size w w' := by
 have HG := am hG;clear hG;have HB := am (Below.refl w.heap.size w);have H : (if a0.toList = ([] : List UInt8) then (some true) else ((strings_Split.f a0 (⟨#[32]⟩ : ByteArray)).bind fun cH => (impl_isParticle.l0 k cH cH (cH.length : Int) 0))) = some r := h;clear h;by_cases c2 : a0.toList = ([] : List UInt8)
 · rw [if_pos c2] at H;have c2b0 := qt c2;have c2b1 := bf c2;clear c2;obtain rfl := ojz H;go_enter Tryz.func69, Tryz.ntmps69;go_wp2;go_ret;exact ax1
 ·
  rw [if_neg c2] at H;have c2b0 := qf c2;have c2b1 := bu c2;replace H := ob H;obtain ⟨cH, d6, H⟩ := H
  try dsimp only at H
  have A3 := am d6;clear d6;have H' := am H;clear H;go_enter Tryz.func69, Tryz.ntmps69;go_wp2_with (first | ((with_reducible refine gate_callee (f := 80) rfl ?_); refine goesL_ (some 10) rfl rfl Tryz.func80 (by kernel_rfl) rfl #[.string a0, .string (⟨#[32]⟩ : ByteArray)] rfl au50 ?_; (with_reducible refine (strings_Split.calls (hG := au12) a0 (⟨#[32]⟩ : ByteArray) cH _ A3.out).mono ?_); rintro e w4 ⟨aoa, rfl, ho0, hb⟩; refine ⟨_, rfl, ?_⟩; have ME := am (Kd.R_lower ho0 (below_size au51)); replace HB := am (below_step au51 hb); (try clear hb); (try clear ho0); obtain ⟨Ao5, RU, eo5⟩ := Kd.R_slice ME.out; subst eo5))
  go_loopg [13] k (fun kq NU w' => ∃ (cE : Int), NU = .int .i64 cE ∧ Aside0 (impl_isParticle.l0 kq cH cH (cH.length : Int) cE = some r) ∧ Aside0 (kq ≤ k) ∧ Aside0 (Kd.R Kd.string 9 w' w.heap.size (fun _ => True) (.slice Ao5 cH.length RU) cH) ∧ Aside0 (Kd.R Kd.string 9 w' w.heap.size (fun _ => True) (.slice Ao5 cH.length RU) cH) ∧ Aside0 (Below w.heap.size w w'))
  case atStart => exact ⟨(0), au107, H', ⟨Nat.le_refl _⟩, ⟨by (with_reducible repeat (first | apply Kd.R_alloc | apply Kd.R_drewN | apply Kd.R_drew)); exact ME.out⟩, ⟨by (with_reducible repeat (first | apply Kd.R_alloc | apply Kd.R_drewN | apply Kd.R_drew)); exact ME.out⟩, ⟨by repeat (first | (with_reducible first | exact HB.out | apply below_alloc | apply pw_below_drewN | apply below_drew1) | exact HB.out)⟩⟩
  case round =>
   clear H'
   try clear c2
   try clear c2b0
   try clear c2b1
   try clear p2
   obtain ⟨cE, rfl, HA, HK1, cj, xw, HB⟩ := hrel
   cases gk with
   | zero => exact absurd HA.out (by simp [impl_isParticle.l0])
   | succ k1 =>
    have H := HA.out;clear HA;simp only [impl_isParticle.l0] at H;by_cases c6 : cE < (cH.length : Int)
    ·
     rw [if_pos c6] at H;have c6b0 := dt c6;clear c6;by_cases c7 : 0 ≤ cE
     ·
      rw [if_pos c7] at H;have c7b0 := dt c7;clear c7;by_cases c8 : cE < (cH.length : Int)
      ·
       rw [if_pos c8] at H;have c8b0 := dt c8;clear c8;replace H := ob H;obtain ⟨na, jR, H⟩ := H
       try dsimp only at H
       have A9 := am jR;clear jR;by_cases c10 : na = true
       ·
        subst c10;replace H := (if_pos rfl).symm.trans H;have H' := am H;clear H;have vq : 0 ≤ (cE : Int) := od au106;have vr : cE < (cH.length : Int) := od au106;obtain ⟨MF, Qj, KP⟩ := Kd.at_string (Kd.R_reads' xw.out).2.2 cE vq vr
        cases Qj
        replace vq := eq_true vq;replace vr := eq_true vr;go_wp2_with (first | ((with_reducible refine gate_callee (f := 39) rfl ?_); refine goesL_ (some 19) rfl rfl Tryz.func39 (by kernel_rfl) rfl #[.int .i64 ((rdOf ByteArray.empty cH cE).size : Int), .int .i64 1, .int .i64 12] rfl au50 ?_; (with_reducible refine (impl_inside.calls ((rdOf ByteArray.empty cH cE).size : Int) 1 12 true _ A9.out).mono ?_); rintro e w' ⟨rfl, ⟨nd, rfl⟩⟩; refine ⟨_, rfl, ?_⟩))
        go_loopg [6] k1 (fun kq v6 w' => ∃ (dI : Int), v6 = .int .i64 dI ∧ Aside0 (impl_isParticle.l1 kq cH (rdOf ByteArray.empty cH cE) dI cH (cH.length : Int) cE = some r) ∧ Aside0 (kq ≤ k1) ∧ Aside0 (Kd.R Kd.string 9 w' w.heap.size (fun _ => True) (.slice (some MF) cH.length RU) cH) ∧ Aside0 (Kd.R Kd.string 9 w' w.heap.size (fun _ => True) (.slice (some MF) cH.length RU) cH) ∧ Aside0 (Below w.heap.size w w'))
        case atStart => exact ⟨(0), au107, H', ⟨Nat.le_refl _⟩, ⟨by (with_reducible repeat (first | apply Kd.R_alloc | apply Kd.R_drewN | apply Kd.R_drew)); exact cj.out⟩, ⟨by (with_reducible repeat (first | apply Kd.R_alloc | apply Kd.R_drewN | apply Kd.R_drew)); exact xw.out⟩, ⟨by repeat (first | (with_reducible first | exact HB.out | apply below_alloc | apply pw_below_drewN | apply below_drew1) | exact HB.out)⟩⟩
        case round =>
         clear H'
         try clear c1
         try clear c2
         try clear c2b0
         try clear c2b1
         try clear p2
         try clear q2
         try clear hx2
         try clear c3
         try clear c6
         try clear c6b0
         try clear c7
         try clear c7b0
         try clear c8
         try clear c8b0
         try clear c10
         try clear KP
         try clear p2
         try clear vq
         try clear vr
         obtain ⟨dI, rfl, HA, HK2, cj, xw, HB⟩ := hrel
         cases gk with
         | zero => exact absurd HA.out (by simp [impl_isParticle.l1])
         | succ k2 =>
          have H := HA.out;clear HA;simp only [impl_isParticle.l1] at H;by_cases bH : dI < ((rdOf ByteArray.empty cH cE).size : Int)
          ·
           rw [if_pos bH] at H;have c11b0 := dt bH;clear bH;by_cases cu : 0 ≤ dI
           ·
            rw [if_pos cu] at H;have c12b0 := dt cu;clear cu;replace H := ob H;obtain ⟨jk, kW, H⟩ := H
            try dsimp only at H
            have xG := am kW;clear kW;by_cases bV : jk = true
            ·
             subst bV;replace H := (if_pos rfl).symm.trans H;have H' := am H;clear H;have Oj : 0 ≤ (dI : Int) := od au106;have Ol : dI < ((rdOf ByteArray.empty cH cE).size : Int) := od au106;have a5n := bt_at (rdOf ByteArray.empty cH cE) dI;replace Oj := eq_true Oj;replace Ol := eq_true Ol;go_wp2_with (first | ((with_reducible refine gate_callee (f := 50) rfl ?_); refine goesL_ (some 30) rfl rfl Tryz.func50 (by kernel_rfl) rfl #[.int .u8 (bt (rdOf ByteArray.empty cH cE) dI)] rfl au50 ?_; (with_reducible refine (impl_isLower.calls (bt (rdOf ByteArray.empty cH cE) dI) true _ xG.out).mono ?_); rintro e w' ⟨rfl, ⟨nd, rfl⟩⟩; refine ⟨_, rfl, ?_⟩))
             go_roundg k2
             case measure => have := HK1.out; have := HK2.out; omega
             case rel => exact ⟨(wrap64 (dI + 1)), au107, H', ⟨by have := HK1.out; have := HK2.out; omega⟩, ⟨by (with_reducible repeat (first | apply Kd.R_alloc | apply Kd.R_drewN | apply Kd.R_drew)); exact cj.out⟩, ⟨by (with_reducible repeat (first | apply Kd.R_alloc | apply Kd.R_drewN | apply Kd.R_drew)); exact xw.out⟩, ⟨by repeat (first | (with_reducible first | exact HB.out | apply below_alloc | apply pw_below_drewN | apply below_drew1) | exact HB.out)⟩⟩
            · replace bV := Bool.eq_false_iff.mpr bV;subst bV;replace H := (if_neg (show ¬ (false = true) by decide)).symm.trans H;obtain rfl := ojz H;have Oj : 0 ≤ (dI : Int) := od au106;have Ol : dI < ((rdOf ByteArray.empty cH cE).size : Int) := od au106;have a5n := bt_at (rdOf ByteArray.empty cH cE) dI;replace Oj := eq_true Oj;replace Ol := eq_true Ol;go_wp2_with (first | ((with_reducible refine gate_callee (f := 50) rfl ?_); refine goesL_ (some 30) rfl rfl Tryz.func50 (by kernel_rfl) rfl #[.int .u8 (bt (rdOf ByteArray.empty cH cE) dI)] rfl au50 ?_; (with_reducible refine (impl_isLower.calls (bt (rdOf ByteArray.empty cH cE) dI) false _ xG.out).mono ?_); rintro e w' ⟨rfl, ⟨nd, rfl⟩⟩; refine ⟨_, rfl, ?_⟩));go_ret;exact ax1
           · rw [if_neg cu] at H;exact absurd H (by simp)
          ·
           rw [if_neg bH] at H;have c11b0 := df bH;clear bH;have H' := am H;clear H;go_wp2
           go_roundg k2
           case measure => have := HK1.out; have := HK2.out; omega
           case rel => exact ⟨(wrap64 (cE + 1)), au107, H', ⟨by have := HK1.out; have := HK2.out; omega⟩, ⟨by (with_reducible repeat (first | apply Kd.R_alloc | apply Kd.R_drewN | apply Kd.R_drew)); exact cj.out⟩, ⟨by (with_reducible repeat (first | apply Kd.R_alloc | apply Kd.R_drewN | apply Kd.R_drew)); exact xw.out⟩, ⟨by repeat (first | (with_reducible first | exact HB.out | apply below_alloc | apply pw_below_drewN | apply below_drew1) | exact HB.out)⟩⟩
       ·
        replace c10 := Bool.eq_false_iff.mpr c10;subst c10;replace H := (if_neg (show ¬ (false = true) by decide)).symm.trans H;obtain rfl := ojz H;have vq : 0 ≤ (cE : Int) := od au106;have vr : cE < (cH.length : Int) := od au106;obtain ⟨MF, Qj, KP⟩ := Kd.at_string (Kd.R_reads' xw.out).2.2 cE vq vr
        cases Qj
        replace vq := eq_true vq;replace vr := eq_true vr;go_wp2_with (first | ((with_reducible refine gate_callee (f := 39) rfl ?_); refine goesL_ (some 19) rfl rfl Tryz.func39 (by kernel_rfl) rfl #[.int .i64 ((rdOf ByteArray.empty cH cE).size : Int), .int .i64 1, .int .i64 12] rfl au50 ?_; (with_reducible refine (impl_inside.calls ((rdOf ByteArray.empty cH cE).size : Int) 1 12 false _ A9.out).mono ?_); rintro e w' ⟨rfl, ⟨nd, rfl⟩⟩; refine ⟨_, rfl, ?_⟩));go_ret;exact ax1
      · rw [if_neg c8] at H;exact absurd H (by simp)
     · rw [if_neg c7] at H;exact absurd H (by simp)
    · rw [if_neg c6] at H;have c6b0 := df c6;clear c6;obtain rfl := ojz H;go_wp2;go_ret;exact ax1
def impl_IsValidName_1.f (k : Nat) (a0 : ByteArray) : Option (Bool) := (impl_isGreatWord.f k a0).bind fun um => (some (!um))
theorem impl_IsValidName_1.mono : ∀ a0 k, LeO (impl_IsValidName_1.f k a0) (impl_IsValidName_1.f (k + 1) a0) := by
 intro a0 k;unfold impl_IsValidName_1.f
 repeat' first
   | (with_reducible exact impl_isGreatWord.mono _ _)
   | (with_reducible exact LeO.refl _)
   | (with_reducible exact LeO.none _)
   | (with_reducible refine LeO.ite ?_ ?_)
   | (with_reducible refine LeO.bind ?_ (fun _ => ?_))
   | exact impl_isGreatWord.mono _ _
   | exact LeO.none _
   | refine LeO.ite ?_ ?_
   | refine LeO.bind ?_ (fun _ => ?_)
set_option maxHeartbeats 8000000 in
set_option maxRecDepth 100000 in
theorem impl_IsValidName_1.calls (k : Nat) (a0 : ByteArray) (r : Bool) (w : World) (h : impl_IsValidName_1.f k a0 = some r) :
  Calls Tryz.prog 67 #[.string a0] w fun e w' => e = .returned (.bool r) ∧ Drawn0 w w' := by
 have H : ((impl_isGreatWord.f k a0).bind fun um => (some (!um))) = some r := h;clear h;replace H := ob H;obtain ⟨um, dP, H⟩ := H
 try dsimp only at H
 have A2 := am dP;clear dP;obtain rfl := ojz H;go_enter Tryz.func67, Tryz.ntmps67;go_wp2_with (first | ((with_reducible refine gate_callee (f := 68) rfl ?_); refine goesL_ (some 4) rfl rfl Tryz.func68 (by kernel_rfl) rfl #[.string a0] rfl au50 ?_; (with_reducible refine (impl_isGreatWord.calls k a0 um _ A2.out).mono ?_); rintro e w' ⟨rfl, ⟨nd, rfl⟩⟩; refine ⟨_, rfl, ?_⟩));go_ret;exact ax0
def slices_IndexFunc_string_string_at_67.l0 : Nat → List ByteArray → Int → Int → Option (Int)
 | 0, _, _, _ => none
 | k + 1, x0, x7, x8 => if x8 < x7 then (if 0 ≤ x8 then (if x8 < (x0.length : Int) then ((impl_IsValidName_1.f k (rdOf ByteArray.empty x0 x8)).bind fun mu => (if mu = true then (some x8) else (slices_IndexFunc_string_string_at_67.l0 k x0 x7 (wrap64 (x8 + 1))))) else (none)) else (none)) else (some (-1))
def slices_IndexFunc_string_string_at_67.f (k : Nat) (l0 : List ByteArray)  : Option (Int) := slices_IndexFunc_string_string_at_67.l0 k l0 (l0.length : Int) 0
theorem slices_IndexFunc_string_string_at_67.mono_l : ∀ k, (∀ y0 y1 y2, LeO (slices_IndexFunc_string_string_at_67.l0 k y0 y1 y2) (slices_IndexFunc_string_string_at_67.l0 (k + 1) y0 y1 y2))
 | 0 => fun _ _ _ r h => by simp [slices_IndexFunc_string_string_at_67.l0] at h
 | k + 1 => by
  have ih0 := slices_IndexFunc_string_string_at_67.mono_l k
  ·
   intro y0 y1 y2;unfold slices_IndexFunc_string_string_at_67.l0
   repeat' first
   | (with_reducible exact ih0 _ _ _)
   | (with_reducible exact impl_IsValidName_1.mono _ _)
   | (with_reducible exact LeO.refl _)
   | (with_reducible exact LeO.none _)
   | (with_reducible refine LeO.ite ?_ ?_)
   | (with_reducible refine LeO.bind ?_ (fun _ => ?_))
   | exact ih0 _ _ _
   | exact impl_IsValidName_1.mono _ _
   | exact LeO.none _
   | refine LeO.ite ?_ ?_
   | refine LeO.bind ?_ (fun _ => ?_)
theorem slices_IndexFunc_string_string_at_67.mono : ∀ a0 k, LeO (slices_IndexFunc_string_string_at_67.f k a0) (slices_IndexFunc_string_string_at_67.f (k + 1) a0) := by
 intro a0 k;have ih0 := slices_IndexFunc_string_string_at_67.mono_l k;unfold slices_IndexFunc_string_string_at_67.f
 repeat' first
   | (with_reducible exact ih0 _ _ _)
   | (with_reducible exact impl_IsValidName_1.mono _ _)
   | (with_reducible exact LeO.refl _)
   | (with_reducible exact LeO.none _)
   | (with_reducible refine LeO.ite ?_ ?_)
   | (with_reducible refine LeO.bind ?_ (fun _ => ?_))
   | exact ih0 _ _ _
   | exact impl_IsValidName_1.mono _ _
   | exact LeO.none _
   | refine LeO.ite ?_ ?_
   | refine LeO.bind ?_ (fun _ => ?_)
set_option maxHeartbeats 8000000 in
set_option maxRecDepth 100000 in
theorem slices_IndexFunc_string_string_at_67.calls (k : Nat) (A0 : Option Addr) (c0 : Nat) (l0 : List ByteArray)  (r : Int) (w : World) (dn : Kd.C Kd.string w A0 l0.length l0) (d5 : l0.length ≤ c0) (h : slices_IndexFunc_string_string_at_67.f k l0 = some r) :
  Calls Tryz.prog 78 #[.slice A0 l0.length c0, .func (.func 67) #[] #[]] w fun e w' => e = .returned (.int .i64 r) ∧ Drawn0 w w' := by
 have dM := am dn;have lr := am d5;clear dn d5;have H : (slices_IndexFunc_string_string_at_67.l0 k l0 (l0.length : Int) 0) = some r := h;clear h;have H' := am H;clear H;go_enter Tryz.func78, Tryz.ntmps78;go_wp2
 go_loopg [8] k (fun kq v8 w' => ∃ (cI : Int), v8 = .int .i64 cI ∧ Aside0 (slices_IndexFunc_string_string_at_67.l0 kq l0 (l0.length : Int) cI = some r) ∧ Aside0 (kq ≤ k) ∧ Drawn0 w w')
 case atStart => exact ⟨(0), au107, H', ⟨Nat.le_refl _⟩, by repeat (first | exact Drawn0.refl _ | apply Drawn0.step)⟩
 case round =>
  clear H'
  try clear p2
  obtain ⟨cI, rfl, HA, HK1, ⟨m1, rfl⟩⟩ := hrel
  cases gk with
  | zero => exact absurd HA.out (by simp [slices_IndexFunc_string_string_at_67.l0])
  | succ k1 =>
   have H := HA.out;clear HA;simp only [slices_IndexFunc_string_string_at_67.l0] at H;by_cases c3 : cI < (l0.length : Int)
   ·
    rw [if_pos c3] at H;have c3b0 := dt c3;clear c3;by_cases c4 : 0 ≤ cI
    ·
     rw [if_pos c4] at H;have c4b0 := dt c4;clear c4;by_cases c5 : cI < (l0.length : Int)
     ·
      rw [if_pos c5] at H;have c5b0 := dt c5;clear c5;replace H := ob H;obtain ⟨mu, fF, H⟩ := H
      try dsimp only at H
      have A6 := am fF;clear fF;by_cases c7 : mu = true
      ·
       subst c7;replace H := (if_pos rfl).symm.trans H;obtain rfl := ojz H;have jE : 0 ≤ (cI : Int) := od au106;have jF : cI < (l0.length : Int) := od au106;obtain ⟨MG, yY, my⟩ := Kd.at_string dM.out cI jE jF
       cases yY
       replace jE := eq_true jE;replace jF := eq_true jF;go_wp2_with (first | ((with_reducible refine gate_tmp (t := 11) rfl ?_); refine goesLt_ (t := 11) (show _ = Value.func (.func 67) #[] #[] from rfl) (some 16) rfl rfl Tryz.func67 (by kernel_rfl) rfl #[.string (rdOf ByteArray.empty l0 cI)] rfl au50 ?_; (with_reducible refine (impl_IsValidName_1.calls k1 (rdOf ByteArray.empty l0 cI) true _ A6.out).mono ?_); rintro e w' ⟨rfl, ⟨nd, rfl⟩⟩; refine ⟨_, rfl, ?_⟩));go_ret;exact ax0
      ·
       replace c7 := Bool.eq_false_iff.mpr c7;subst c7;replace H := (if_neg (show ¬ (false = true) by decide)).symm.trans H;have H' := am H;clear H;have jE : 0 ≤ (cI : Int) := od au106;have jF : cI < (l0.length : Int) := od au106;obtain ⟨MG, yY, my⟩ := Kd.at_string dM.out cI jE jF
       cases yY
       replace jE := eq_true jE;replace jF := eq_true jF;go_wp2_with (first | ((with_reducible refine gate_tmp (t := 11) rfl ?_); refine goesLt_ (t := 11) (show _ = Value.func (.func 67) #[] #[] from rfl) (some 16) rfl rfl Tryz.func67 (by kernel_rfl) rfl #[.string (rdOf ByteArray.empty l0 cI)] rfl au50 ?_; (with_reducible refine (impl_IsValidName_1.calls k1 (rdOf ByteArray.empty l0 cI) false _ A6.out).mono ?_); rintro e w' ⟨rfl, ⟨nd, rfl⟩⟩; refine ⟨_, rfl, ?_⟩))
       go_roundg k1
       case measure => have := HK1.out; omega
       case rel => exact ⟨(wrap64 (cI + 1)), au107, H', ⟨by have := HK1.out; omega⟩, by repeat (first | exact Drawn0.refl _ | apply Drawn0.step)⟩
     · rw [if_neg c5] at H;exact absurd H (by simp)
    · rw [if_neg c4] at H;exact absurd H (by simp)
   · rw [if_neg c3] at H;have c3b0 := df c3;clear c3;obtain rfl := ojz H;go_wp2;go_ret;exact ax0
def slices_ContainsFunc_string_string_at_67.f (k : Nat) (l0 : List ByteArray)  : Option (Bool) := (slices_IndexFunc_string_string_at_67.f k l0).bind fun ir => (some (decide (ir ≥ 0)))
theorem slices_ContainsFunc_string_string_at_67.mono : ∀ a0 k, LeO (slices_ContainsFunc_string_string_at_67.f k a0) (slices_ContainsFunc_string_string_at_67.f (k + 1) a0) := by
 intro a0 k;unfold slices_ContainsFunc_string_string_at_67.f
 repeat' first
   | (with_reducible exact slices_IndexFunc_string_string_at_67.mono _ _)
   | (with_reducible exact LeO.refl _)
   | (with_reducible exact LeO.none _)
   | (with_reducible refine LeO.ite ?_ ?_)
   | (with_reducible refine LeO.bind ?_ (fun _ => ?_))
   | exact slices_IndexFunc_string_string_at_67.mono _ _
   | exact LeO.none _
   | refine LeO.ite ?_ ?_
   | refine LeO.bind ?_ (fun _ => ?_)
set_option maxHeartbeats 8000000 in
set_option maxRecDepth 100000 in
theorem slices_ContainsFunc_string_string_at_67.calls (k : Nat) (A0 : Option Addr) (c0 : Nat) (l0 : List ByteArray)  (r : Bool) (w : World) (dn : Kd.C Kd.string w A0 l0.length l0) (d5 : l0.length ≤ c0) (h : slices_ContainsFunc_string_string_at_67.f k l0 = some r) :
  Calls Tryz.prog 66 #[.slice A0 l0.length c0, .func (.func 67) #[] #[]] w fun e w' => e = .returned (.bool r) ∧ Drawn0 w w' := by
 have dM := am dn;have lr := am d5;clear dn d5;have H : ((slices_IndexFunc_string_string_at_67.f k l0).bind fun ir => (some (decide (ir ≥ 0)))) = some r := h;clear h;replace H := ob H;obtain ⟨ir, d6, H⟩ := H
 try dsimp only at H
 have A3 := am d6;clear d6;obtain rfl := ojz H;go_enter Tryz.func66, Tryz.ntmps66;go_wp2_with (first | ((with_reducible refine gate_callee (f := 78) rfl ?_); refine goesL_ (some 7) rfl rfl Tryz.func78 (by kernel_rfl) rfl #[.slice A0 l0.length c0, .func (.func 67) #[] #[]] rfl au50 ?_; (with_reducible refine (slices_IndexFunc_string_string_at_67.calls k _ _ l0  ir _ ?ax ?ay A3.out).mono ?_); (case ax => repeat (first | exact dM.out | (with_reducible refine Kd.C_alloc ?_ _) | (with_reducible refine Kd.C_drewN ?_ _) | (with_reducible refine Kd.C_drew ?_))); (case ay => exact lr.out); rintro e w' ⟨rfl, ⟨nd, rfl⟩⟩; refine ⟨_, rfl, ?_⟩));go_ret;exact ax0
def impl_IsValidName.j0 : Nat → Bool → List ByteArray → ByteArray → ByteArray → ByteArray → Option (Bool)
 | 0, _, _, _, _, _ => none
 | k + 1, ri, aeB, UP, UQ, KQ => if ri = true then (some false) else ((impl_isParticle.f k UP).bind fun jD => (if jD = true then ((impl_isGreatWord.f k UQ).bind fun ul => (if ul = true then (if KQ.toList = ([] : List UInt8) then (some true) else ((impl_isNameWord.f k KQ).bind fun um => (some um))) else (some false))) else (some false)))
def impl_IsValidName.f (k : Nat) (aV : List ByteArray) (aa : ByteArray) (aC : ByteArray) (aA : ByteArray) : Option (Bool) := if (aV.length : Int) > 3 then (impl_IsValidName.j0 k true aV aa aC aA) else ((slices_ContainsFunc_string_string_at_67.f k aV).bind fun eX => (impl_IsValidName.j0 k eX aV aa aC aA))
theorem impl_IsValidName.mono_l : ∀ k, (∀ y0 y1 y2 y3 y4, LeO (impl_IsValidName.j0 k y0 y1 y2 y3 y4) (impl_IsValidName.j0 (k + 1) y0 y1 y2 y3 y4))
 | 0 => fun _ _ _ _ _ r h => by simp [impl_IsValidName.j0] at h
 | k + 1 => by
  have ih0 := impl_IsValidName.mono_l k
  ·
   intro y0 y1 y2 y3 y4;unfold impl_IsValidName.j0
   repeat' first
   | (with_reducible exact ih0 _ _ _ _ _)
   | (with_reducible exact impl_isGreatWord.mono _ _)
   | (with_reducible exact impl_isNameWord.mono _ _)
   | (with_reducible exact impl_isParticle.mono _ _)
   | (with_reducible exact slices_ContainsFunc_string_string_at_67.mono _ _)
   | (with_reducible exact LeO.refl _)
   | (with_reducible exact LeO.none _)
   | (with_reducible refine LeO.ite ?_ ?_)
   | (with_reducible refine LeO.bind ?_ (fun _ => ?_))
   | exact ih0 _ _ _ _ _
   | exact impl_isGreatWord.mono _ _
   | exact impl_isNameWord.mono _ _
   | exact impl_isParticle.mono _ _
   | exact slices_ContainsFunc_string_string_at_67.mono _ _
   | exact LeO.none _
   | refine LeO.ite ?_ ?_
   | refine LeO.bind ?_ (fun _ => ?_)
theorem impl_IsValidName.mono : ∀ a0 a1 a2 a3 k, LeO (impl_IsValidName.f k a0 a1 a2 a3) (impl_IsValidName.f (k + 1) a0 a1 a2 a3) := by
 intro a0 a1 a2 a3 k;have ih0 := impl_IsValidName.mono_l k;unfold impl_IsValidName.f
 repeat' first
   | (with_reducible exact ih0 _ _ _ _ _)
   | (with_reducible exact impl_isGreatWord.mono _ _)
   | (with_reducible exact impl_isNameWord.mono _ _)
   | (with_reducible exact impl_isParticle.mono _ _)
   | (with_reducible exact slices_ContainsFunc_string_string_at_67.mono _ _)
   | (with_reducible exact LeO.refl _)
   | (with_reducible exact LeO.none _)
   | (with_reducible refine LeO.ite ?_ ?_)
   | (with_reducible refine LeO.bind ?_ (fun _ => ?_))
   | exact ih0 _ _ _ _ _
   | exact impl_isGreatWord.mono _ _
   | exact impl_isNameWord.mono _ _
   | exact impl_isParticle.mono _ _
   | exact slices_ContainsFunc_string_string_at_67.mono _ _
   | exact LeO.none _
   | refine LeO.ite ?_ ?_
   | refine LeO.bind ?_ (fun _ => ?_)
set_option maxRecDepth 100000 in
theorem impl_IsValidName.L0 {P : Prop} (h : P := by
  go_wp2_with (first | ((with_reducible refine gate_callee (f := 69) rfl ?_); refine goesL_ (some 14) rfl rfl Tryz.func69 (by kernel_rfl) rfl #[.string aa] rfl au50 ?_; (with_reducible refine (impl_isParticle.calls (hG := au12) dT aa _ _ A9.out).mono ?_); rintro e Rt ⟨rfl, hb⟩; refine ⟨_, rfl, ?_⟩; replace iI := am (blk_below (g := MH) au67 hb); replace HB := am (below_step au37 hb); (try clear hb); obtain ⟨vN, vO, vP, vQ, vR, vS, vT, vU⟩ := blkc4 iI.out) | (go_at_call 68; (with_reducible refine (impl_isGreatWord.calls dT aC _ _ Rv.out).mono ?_); rintro e w' ⟨rfl, ⟨nd, rfl⟩⟩) | (go_at_call 70; (with_reducible refine (impl_isNameWord.calls dT aA um _ RA.out).mono ?_); rintro e w' ⟨rfl, ⟨nd, rfl⟩⟩));go_ret
  exact ⟨by first | rfl | (simp [errW_none, errW_some] <;> rfl) | (simp [*, errW_none, errW_some] <;> rfl), by repeat (first | (with_reducible first | exact HB.out | apply below_alloc | apply pw_below_drewN | apply below_drew1 | refine below_set ?_ Aj.out) | exact HB.out)⟩) : P := h
set_option maxHeartbeats 8000000 in
set_option maxRecDepth 100000 in
theorem impl_IsValidName.calls (k : Nat) (cC : Option Addr) (cD : Nat) (aV : List ByteArray) (aa : ByteArray) (aC : ByteArray) (aA : ByteArray) (r : Bool) (w : World) {gF1 gF2 gF3 : Bool} (hG : GL gF1 gF2 gF3 w) (dN : Kd.C Kd.string w cC aV.length aV) (dA : aV.length ≤ cD) (h : impl_IsValidName.f k aV aa aC aA = some r) :
  Calls Tryz.prog 54 #[.agg #[.slice cC aV.length cD, .string aa, .string aC, .string aA]] w fun e w' => e = .returned (.bool r) ∧ Below w.heap.size w w' := by
 have HG := am hG;clear hG;have hu62 := Tryz.underlying62;have el := am dN;have fP := am dA;clear dN dA;have HB := am (Below.refl w.heap.size w);have H : (if (aV.length : Int) > 3 then (impl_IsValidName.j0 k true aV aa aC aA) else ((slices_ContainsFunc_string_string_at_67.f k aV).bind fun eX => (impl_IsValidName.j0 k eX aV aa aC aA))) = some r := h;clear h;have eV := am H;clear H;go_enter Tryz.func54, Tryz.ntmps54
 go_upto_region 1 with (first | ((with_reducible refine gate_dst (N := 1) rfl ?_); refine box_event ?hg (N := 1) ?hd (cs := #[.slice cC aV.length cD, .string aa, .string aC, .string aA]) (t := 62) ?hr ?_; (case hd => rfl); (case hg => rfl); (case hr => first | (go_simp; done) | (go_simp; rfl)); intro MH hg w3 hbox hb; have iI := am (hbox); have amj := am (bsz hg au51); have Aj := am (bsz hg au51); replace HB := am (below_step au51 hb); clear hb hbox hg))
 (try simp only [Act.put, List.setIfInBounds_toArray, List.set_cons_zero, List.set_cons_succ])
 go_cut [11] (fun X0 wc => ∃ (kq : Nat) (nh : Bool), X0 = .bool nh ∧ Aside0 (impl_IsValidName.j0 kq nh aV aa aC aA = some r) ∧ Aside0 (kq ≤ k) ∧ Aside0 (wc.heap[MH]? = some (.cells #[(.slice cC aV.length cD), .string aa, .string aC, .string aA] 62 (0, 0))) ∧ Aside0 (Below w.heap.size w wc))
 case first =>
  have H := eV.out;clear eV;by_cases c4 : (aV.length : Int) > 3
  ·
   rw [if_pos c4] at H;have c4b0 := dt c4;have c4b1 : decide (3 < aV.length) = true := dt (by omega);clear c4
   (first | rw [c4b0] | (simp only [i64_w, i32_w]; rw [c4b0]) | skip)
   have H' := am H;clear H;obtain ⟨uO, uP, uQ, uR, uS, uT, uU, uV⟩ := blkc4 iI.out;go_wp2;go_meet
   case rel => exact ⟨_, (true), au107, H', ⟨by first | omega | exact Nat.le_refl _⟩, ⟨by (with_reducible repeat (first | refine blk_drewN ?_ _ | refine blk_drew ?_ | refine blk_alloc ?_ _)); exact iI.out⟩, ⟨by repeat (first | (with_reducible first | exact HB.out | apply below_alloc | apply pw_below_drewN | apply below_drew1 | refine below_set ?_ Aj.out) | exact HB.out)⟩⟩
  ·
   rw [if_neg c4] at H;have c4b0 := df c4;have c4b1 : decide (3 < aV.length) = false := df (by omega);clear c4
   (first | rw [c4b0] | (simp only [i64_w, i32_w]; rw [c4b0]) | skip)
   replace H := ob H;obtain ⟨eX, fF, H⟩ := H
   try dsimp only at H
   have A6 := am fF;clear fF;have H' := am H;clear H;obtain ⟨jl, jm, jn, jo, jp, jq, jr, js⟩ := blkc4 iI.out;go_wp2_with (first | (go_at_call 66; (with_reducible refine (slices_ContainsFunc_string_string_at_67.calls k _ _ aV  eX _ ?ax ?ay A6.out).mono ?_); (case ax => repeat (first | exact (Kd.C_below el.out HB.out) | (with_reducible refine Kd.C_alloc ?_ _) | (with_reducible refine Kd.C_drewN ?_ _) | (with_reducible refine Kd.C_drew ?_))); (case ay => exact fP.out); rintro e w' ⟨rfl, ⟨nd, rfl⟩⟩));go_meet
   case rel => exact ⟨_, (eX), au107, H', ⟨by first | omega | exact Nat.le_refl _⟩, ⟨by (with_reducible repeat (first | refine blk_drewN ?_ _ | refine blk_drew ?_ | refine blk_alloc ?_ _)); exact iI.out⟩, ⟨by repeat (first | (with_reducible first | exact HB.out | apply below_alloc | apply pw_below_drewN | apply below_drew1 | refine below_set ?_ Aj.out) | exact HB.out)⟩⟩
 case rest =>
  clear eV
  try clear p2
  try clear c4
  try clear c4b0
  try clear c4b1
  try clear c5
  try clear uO uP uQ uR uS uT uU uV
  try clear jl jm jn jo jp jq jr js
  obtain ⟨kq, nh, rfl, HA, eW, iI, HB⟩ := hcut
  cases kq with
  | zero => exact absurd HA.out (by simp [impl_IsValidName.j0])
  | succ dT =>
   have H := HA.out;clear HA;simp only [impl_IsValidName.j0] at H;by_cases c8 : nh = true
   · subst c8;replace H := (if_pos rfl).symm.trans H;obtain rfl := ojz H;exact impl_IsValidName.L0
   ·
    replace c8 := Bool.eq_false_iff.mpr c8;subst c8;replace H := (if_neg (show ¬ (false = true) by decide)).symm.trans H;replace H := ob H;obtain ⟨jD, jR, H⟩ := H
    try dsimp only at H
    have A9 := am jR;clear jR;by_cases c10 : jD = true
    ·
     subst c10;replace H := (if_pos rfl).symm.trans H;replace H := ob H;obtain ⟨ul, xT, H⟩ := H
     try dsimp only at H
     have Rv := am xT;clear xT;by_cases cu : ul = true
     ·
      subst cu;replace H := (if_pos rfl).symm.trans H;by_cases bW : aA.toList = ([] : List UInt8)
      · rw [if_pos bW] at H;have c13b0 := qt bW;have c13b1 := bf bW;clear bW;obtain rfl := ojz H;obtain ⟨lx, ly, lz, lB, lC, lD, lF, lG⟩ := blkc4 iI.out;exact impl_IsValidName.L0
      ·
       rw [if_neg bW] at H;have c13b0 := qf bW;have c13b1 := bu bW;replace H := ob H;obtain ⟨um, Ge, H⟩ := H
       try dsimp only at H
       have RA := am Ge;clear Ge;obtain rfl := ojz H;obtain ⟨wl, wm, wn, wo, wq, wt, wu, wv⟩ := blkc4 iI.out;exact impl_IsValidName.L0
     · replace cu := Bool.eq_false_iff.mpr cu;subst cu;replace H := (if_neg (show ¬ (false = true) by decide)).symm.trans H;obtain rfl := ojz H;obtain ⟨sT, sU, sV, sW, sX, sZ, t6, t7⟩ := blkc4 iI.out;exact impl_IsValidName.L0
    · replace c10 := Bool.eq_false_iff.mpr c10;subst c10;replace H := (if_neg (show ¬ (false = true) by decide)).symm.trans H;obtain rfl := ojz H;obtain ⟨nq, nr, nt, nu, nv, nw, nx, nz⟩ := blkc4 iI.out;go_wp2_with (first | ((with_reducible refine gate_callee (f := 69) rfl ?_); refine goesL_ (some 14) rfl rfl Tryz.func69 (by kernel_rfl) rfl #[.string aa] rfl au50 ?_; (with_reducible refine (impl_isParticle.calls (hG := au12) dT aa _ _ A9.out).mono ?_); rintro e RV ⟨rfl, hb⟩; refine ⟨_, rfl, ?_⟩; replace iI := am (blk_below (g := MH) au67 hb); replace HB := am (below_step au37 hb); (try clear hb)));go_ret;exact ⟨by first | rfl | (simp [errW_none, errW_some] <;> rfl) | (simp [*, errW_none, errW_some] <;> rfl), by repeat (first | (with_reducible first | exact HB.out | apply below_alloc | apply pw_below_drewN | apply below_drew1 | refine below_set ?_ Aj.out) | exact HB.out)⟩
end Go.Proofs.YthfbogcpjfledaaGreatDoor.G
