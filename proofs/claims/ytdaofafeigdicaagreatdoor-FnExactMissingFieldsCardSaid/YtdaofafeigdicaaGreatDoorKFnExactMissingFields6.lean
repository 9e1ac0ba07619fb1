/- Texts of this session for the law FnExactMissingFields, put together by a program (merge.py): each ends with its namespace; conditions stand with each theorem. -/
import Derived.Test.YtdaofafeigdicaaGreatDoorKFnExactMissingFields2
import Derived.Test.YtdaofafeigdicaaGreatDoorKFnExactMissingFields3
import Derived.Test.YtdaofafeigdicaaGreatDoorKFnExactMissingFields4
import Derived.Test.YtdaofafeigdicaaGreatDoorKFnExactMissingFields5
import Derived.Test.YtdaofafeigdicaaGreatDoorKFnExactMissingFields1
import Derived.Deep.Slices
import Derived.Lib.SplitLaws
import Derived.Lib.IndexBytes
import Derived.Lib.IndexLaws
import Derived.Lib.IndexMore
import Derived.Lib.ItoaLen
import Derived.Lib.ItoaNum
namespace Go.Proofs.YtdaofafeigdicaaGreatDoor.G
open Go.RowKit Go.Proofs.YtdaofafeigdicaaGreatDoorW.PrintWords Go.Proofs.YtdaofafeigdicaaGreatDoorW.PrintLast Go.Proofs.YtdaofafeigdicaaGreatDoorW.PrintMore
open Go.Proofs.YtdaofafeigdicaaGreatDoor.Gl Go.Proofs.YtdaofafeigdicaaGreatDoor.Ext
attribute [local go_sem] max2_int min2_int max_two min_two max_three min_three max_four min_four   -- for this text's walks alone
set_option linter.unusedVariables false
set_option linter.unusedSimpArgs false
mutual
def laws_FnExactMissingFields.j0 : Nat → List ByteArray → Bool → List ByteArray → Bool → Bool → ByteArray → Int → List (S52) → List (S52) → ByteArray → ByteArray → ByteArray → Int → Int → Int → Bool → Int → ByteArray → ByteArray → ByteArray → Int → List (S60) → List (S60) → ByteArray → ByteArray → ByteArray → Int → Int → Int → Bool → Int → ByteArray → ByteArray → Option (Bool)
 | 0, _, _, _, _, _, _, _, _, _, _, _, _, _, _, _, _, _, _, _, _, _, _, _, _, _, _, _, _, _, _, _, _, _ => none
 | k + 1, x4, x5, x7, x8, x40, x385000, x385001, x385002, x385003, x385004, x385005, x385006, x385007, x385008, x385009, x385010, x385011, x385012, x385013, x427000, x427001, x427002, x427003, x427004, x427005, x427006, x427007, x427008, x427009, x427010, x427011, x427012, x427013 => if x40 = true then (some false) else ((laws_toEntry.f k x385000 x385001 x385002 x385003 x385004 x385005 x385006 x385007 x385008 x385009 x385010 x385011 x385012 x385013).bind fun bt432 => ((laws_eqEntry.f k x427000 x427001 x427002 x427003 x427004 x427005 x427006 x427007 x427008 x427009 x427010 x427011 x427012 x427013 bt432.1 bt432.2.1 bt432.2.2.1 bt432.2.2.2.1 bt432.2.2.2.2.1 bt432.2.2.2.2.2.1 bt432.2.2.2.2.2.2.1 bt432.2.2.2.2.2.2.2.1 bt432.2.2.2.2.2.2.2.2.1 bt432.2.2.2.2.2.2.2.2.2.1 bt432.2.2.2.2.2.2.2.2.2.2.1 bt432.2.2.2.2.2.2.2.2.2.2.2.1 bt432.2.2.2.2.2.2.2.2.2.2.2.2.1 bt432.2.2.2.2.2.2.2.2.2.2.2.2.2).bind fun t450 => (if t450 = true then ((laws_markEntry.f x427000 x427001 x427002 x427003 x427004 x427005 x427006 x427007 x427008 x427009 x427010 x427011 x427012 x427013 1).bind fun t451 => (if t451 < 0 then (laws_FnExactMissingFields.j1 k x4 x5 x7 true x385000 x385001 x385002 x385003 x385004 x385005 x385006 x385007 x385008 x385009 x385010 x385011 x385012 x385013) else ((laws_eqStringS.f k x7 x4).bind fun t452 => (if t452 = true then (laws_FnExactMissingFields.j1 k x4 x5 x7 (x8 != x5) x385000 x385001 x385002 x385003 x385004 x385005 x385006 x385007 x385008 x385009 x385010 x385011 x385012 x385013) else (laws_FnExactMissingFields.j1 k x4 x5 x7 true x385000 x385001 x385002 x385003 x385004 x385005 x385006 x385007 x385008 x385009 x385010 x385011 x385012 x385013))))) else (some false))))
def laws_FnExactMissingFields.j1 : Nat → List ByteArray → Bool → List ByteArray → Bool → ByteArray → Int → List (S52) → List (S52) → ByteArray → ByteArray → ByteArray → Int → Int → Int → Bool → Int → ByteArray → ByteArray → Option (Bool)
 | 0, _, _, _, _, _, _, _, _, _, _, _, _, _, _, _, _, _, _ => none
 | k + 1, x4, x5, x7, x61, x385000, x385001, x385002, x385003, x385004, x385005, x385006, x385007, x385008, x385009, x385010, x385011, x385012, x385013 => if x61 = true then (some false) else ((laws_markStringS.f k x7 1).bind fun bt453 => ((laws_heldStringS.f k bt453.2 1).bind fun t455 => (if t455 < 0 then (some false) else (if t455 = bt453.1 then ((laws_toEntry.f k x385000 x385001 x385002 x385003 x385004 x385005 x385006 x385007 x385008 x385009 x385010 x385011 x385012 x385013).bind fun bt456 => ((impl_MissingFields.f k bt456.1 bt456.2.1 bt456.2.2.1 bt456.2.2.2.1 bt456.2.2.2.2.1 bt456.2.2.2.2.2.1 bt456.2.2.2.2.2.2.1 bt456.2.2.2.2.2.2.2.1 bt456.2.2.2.2.2.2.2.2.1 bt456.2.2.2.2.2.2.2.2.2.1 bt456.2.2.2.2.2.2.2.2.2.2.1 bt456.2.2.2.2.2.2.2.2.2.2.2.1 bt456.2.2.2.2.2.2.2.2.2.2.2.2.1 bt456.2.2.2.2.2.2.2.2.2.2.2.2.2).bind fun bt474 => ((laws_eqStringS.f k bt474.1 x4).bind fun t478 => (if t478 = true then (laws_FnExactMissingFields.j2 k bt453.2 bt453.1 (bt474.2 != x5)) else (laws_FnExactMissingFields.j2 k bt453.2 bt453.1 true))))) else (some false)))))
def laws_FnExactMissingFields.j2 : Nat → List ByteArray → Int → Bool → Option (Bool)
 | 0, _, _, _ => none
 | k + 1, x7, x10, x87 => if x87 = true then (some false) else ((laws_heldStringS.f k x7 1).bind fun t479 => (if t479 < 0 then (some false) else (if t479 = x10 then (some true) else (some false))))
end
def laws_FnExactMissingFields.f (k : Nat) (a0_0 : ByteArray) (a0_1 : Int) (l0_2 : List (S52)) (l0_3 : List (S52)) (a0_4 : ByteArray) (a0_5 : ByteArray) (a0_6 : ByteArray) (a0_7 : Int) (a0_8 : Int) (a0_9 : Int) (a0_10 : Bool) (a0_11 : Int) (a0_12 : ByteArray) (a0_13 : ByteArray) : Option (Bool) := (laws_szEntry.f k a0_0 a0_1 l0_2 l0_3 a0_4 a0_5 a0_6 a0_7 a0_8 a0_9 a0_10 a0_11 a0_12 a0_13 1048576).bind fun t385 => (if t385 < 0 then (some true) else ((laws_toEntry.f k a0_0 a0_1 l0_2 l0_3 a0_4 a0_5 a0_6 a0_7 a0_8 a0_9 a0_10 a0_11 a0_12 a0_13).bind fun bt386 => ((spec_MissingFields.f k bt386.1 bt386.2.1 bt386.2.2.1 bt386.2.2.2.1 bt386.2.2.2.2.1 bt386.2.2.2.2.2.1 bt386.2.2.2.2.2.2.1 bt386.2.2.2.2.2.2.2.1 bt386.2.2.2.2.2.2.2.2.1 bt386.2.2.2.2.2.2.2.2.2.1 bt386.2.2.2.2.2.2.2.2.2.2.1 bt386.2.2.2.2.2.2.2.2.2.2.2.1 bt386.2.2.2.2.2.2.2.2.2.2.2.2.1 bt386.2.2.2.2.2.2.2.2.2.2.2.2.2).bind fun bt404 => ((laws_toEntry.f k a0_0 a0_1 l0_2 l0_3 a0_4 a0_5 a0_6 a0_7 a0_8 a0_9 a0_10 a0_11 a0_12 a0_13).bind fun bt408 => ((impl_MissingFields.f k bt408.1 bt408.2.1 bt408.2.2.1 bt408.2.2.2.1 bt408.2.2.2.2.1 bt408.2.2.2.2.2.1 bt408.2.2.2.2.2.2.1 bt408.2.2.2.2.2.2.2.1 bt408.2.2.2.2.2.2.2.2.1 bt408.2.2.2.2.2.2.2.2.2.1 bt408.2.2.2.2.2.2.2.2.2.2.1 bt408.2.2.2.2.2.2.2.2.2.2.2.1 bt408.2.2.2.2.2.2.2.2.2.2.2.2.1 bt408.2.2.2.2.2.2.2.2.2.2.2.2.2).bind fun bt427 => ((laws_eqStringS.f k bt427.1 bt404.1).bind fun t431 => (if t431 = true then (laws_FnExactMissingFields.j0 k bt404.1 bt404.2 bt427.1 bt427.2 (bt427.2 != bt404.2) a0_0 a0_1 l0_2 l0_3 a0_4 a0_5 a0_6 a0_7 a0_8 a0_9 a0_10 a0_11 a0_12 a0_13 bt408.1 bt408.2.1 bt408.2.2.1 bt408.2.2.2.1 bt408.2.2.2.2.1 bt408.2.2.2.2.2.1 bt408.2.2.2.2.2.2.1 bt408.2.2.2.2.2.2.2.1 bt408.2.2.2.2.2.2.2.2.1 bt408.2.2.2.2.2.2.2.2.2.1 bt408.2.2.2.2.2.2.2.2.2.2.1 bt408.2.2.2.2.2.2.2.2.2.2.2.1 bt408.2.2.2.2.2.2.2.2.2.2.2.2.1 bt408.2.2.2.2.2.2.2.2.2.2.2.2.2) else (laws_FnExactMissingFields.j0 k bt404.1 bt404.2 bt427.1 bt427.2 true a0_0 a0_1 l0_2 l0_3 a0_4 a0_5 a0_6 a0_7 a0_8 a0_9 a0_10 a0_11 a0_12 a0_13 bt408.1 bt408.2.1 bt408.2.2.1 bt408.2.2.2.1 bt408.2.2.2.2.1 bt408.2.2.2.2.2.1 bt408.2.2.2.2.2.2.1 bt408.2.2.2.2.2.2.2.1 bt408.2.2.2.2.2.2.2.2.1 bt408.2.2.2.2.2.2.2.2.2.1 bt408.2.2.2.2.2.2.2.2.2.2.1 bt408.2.2.2.2.2.2.2.2.2.2.2.1 bt408.2.2.2.2.2.2.2.2.2.2.2.2.1 bt408.2.2.2.2.2.2.2.2.2.2.2.2.2))))))))
theorem laws_FnExactMissingFields.mono_l : ∀ k, (∀ y0 y1 y2 y3 y4 y5 y6 y7 y8 y9 y10 y11 y12 y13 y14 y15 y16 y17 y18 y19 y20 y21 y22 y23 y24 y25 y26 y27 y28 y29 y30 y31 y32, LeO (laws_FnExactMissingFields.j0 k y0 y1 y2 y3 y4 y5 y6 y7 y8 y9 y10 y11 y12 y13 y14 y15 y16 y17 y18 y19 y20 y21 y22 y23 y24 y25 y26 y27 y28 y29 y30 y31 y32) (laws_FnExactMissingFields.j0 (k + 1) y0 y1 y2 y3 y4 y5 y6 y7 y8 y9 y10 y11 y12 y13 y14 y15 y16 y17 y18 y19 y20 y21 y22 y23 y24 y25 y26 y27 y28 y29 y30 y31 y32)) ∧ (∀ y0 y1 y2 y3 y4 y5 y6 y7 y8 y9 y10 y11 y12 y13 y14 y15 y16 y17, LeO (laws_FnExactMissingFields.j1 k y0 y1 y2 y3 y4 y5 y6 y7 y8 y9 y10 y11 y12 y13 y14 y15 y16 y17) (laws_FnExactMissingFields.j1 (k + 1) y0 y1 y2 y3 y4 y5 y6 y7 y8 y9 y10 y11 y12 y13 y14 y15 y16 y17)) ∧ (∀ y0 y1 y2, LeO (laws_FnExactMissingFields.j2 k y0 y1 y2) (laws_FnExactMissingFields.j2 (k + 1) y0 y1 y2))
 | 0 => ⟨fun _ _ _ _ _ _ _ _ _ _ _ _ _ _ _ _ _ _ _ _ _ _ _ _ _ _ _ _ _ _ _ _ _ r h => by simp [laws_FnExactMissingFields.j0] at h, fun _ _ _ _ _ _ _ _ _ _ _ _ _ _ _ _ _ _ r h => by simp [laws_FnExactMissingFields.j1] at h, fun _ _ _ r h => by simp [laws_FnExactMissingFields.j2] at h⟩
 | k + 1 => by
  obtain ⟨ih0, ih1, ih2⟩ := laws_FnExactMissingFields.mono_l k
  refine ⟨?_, ?_, ?_⟩
  ·
   intro y0 y1 y2 y3 y4 y5 y6 y7 y8 y9 y10 y11 y12 y13 y14 y15 y16 y17 y18 y19 y20 y21 y22 y23 y24 y25 y26 y27 y28 y29 y30 y31 y32
   unfold laws_FnExactMissingFields.j0
   repeat' first
   | (with_reducible exact ih0 _ _ _ _ _ _ _ _ _ _ _ _ _ _ _ _ _ _ _ _ _ _ _ _ _ _ _ _ _ _ _ _ _)
   | (with_reducible exact ih1 _ _ _ _ _ _ _ _ _ _ _ _ _ _ _ _ _ _)
   | (with_reducible exact ih2 _ _ _)
   | (with_reducible exact impl_MissingFields.mono _ _ _ _ _ _ _ _ _ _ _ _ _ _ _)
   | (with_reducible exact laws_eqEntry.mono _ _ _ _ _ _ _ _ _ _ _ _ _ _ _ _ _ _ _ _ _ _ _ _ _ _ _ _ _)
   | (with_reducible exact laws_eqStringS.mono _ _ _)
   | (with_reducible exact laws_heldStringS.mono _ _ _)
   | (with_reducible exact laws_markStringS.mono _ _ _)
   | (with_reducible exact laws_szEntry.mono _ _ _ _ _ _ _ _ _ _ _ _ _ _ _ _)
   | (with_reducible exact laws_toEntry.mono _ _ _ _ _ _ _ _ _ _ _ _ _ _ _)
   | (with_reducible exact spec_MissingFields.mono _ _ _ _ _ _ _ _ _ _ _ _ _ _ _)
   | (with_reducible exact LeO.refl _)
   | (with_reducible exact LeO.none _)
   | (with_reducible refine LeO.ite ?_ ?_)
   | (with_reducible refine LeO.bind ?_ (fun _ => ?_))
   | exact ih0 _ _ _ _ _ _ _ _ _ _ _ _ _ _ _ _ _ _ _ _ _ _ _ _ _ _ _ _ _ _ _ _ _
   | exact ih1 _ _ _ _ _ _ _ _ _ _ _ _ _ _ _ _ _ _
   | exact ih2 _ _ _
   | exact impl_MissingFields.mono _ _ _ _ _ _ _ _ _ _ _ _ _ _ _
   | exact laws_eqEntry.mono _ _ _ _ _ _ _ _ _ _ _ _ _ _ _ _ _ _ _ _ _ _ _ _ _ _ _ _ _
   | exact laws_eqStringS.mono _ _ _
   | exact laws_heldStringS.mono _ _ _
   | exact laws_markStringS.mono _ _ _
   | exact laws_szEntry.mono _ _ _ _ _ _ _ _ _ _ _ _ _ _ _ _
   | exact laws_toEntry.mono _ _ _ _ _ _ _ _ _ _ _ _ _ _ _
   | exact spec_MissingFields.mono _ _ _ _ _ _ _ _ _ _ _ _ _ _ _
   | exact LeO.none _
   | refine LeO.ite ?_ ?_
   | refine LeO.bind ?_ (fun _ => ?_)
  ·
   intro y0 y1 y2 y3 y4 y5 y6 y7 y8 y9 y10 y11 y12 y13 y14 y15 y16 y17
   unfold laws_FnExactMissingFields.j1
   repeat' first
   | (with_reducible exact ih0 _ _ _ _ _ _ _ _ _ _ _ _ _ _ _ _ _ _ _ _ _ _ _ _ _ _ _ _ _ _ _ _ _)
   | (with_reducible exact ih1 _ _ _ _ _ _ _ _ _ _ _ _ _ _ _ _ _ _)
   | (with_reducible exact ih2 _ _ _)
   | (with_reducible exact impl_MissingFields.mono _ _ _ _ _ _ _ _ _ _ _ _ _ _ _)
   | (with_reducible exact laws_eqEntry.mono _ _ _ _ _ _ _ _ _ _ _ _ _ _ _ _ _ _ _ _ _ _ _ _ _ _ _ _ _)
   | (with_reducible exact laws_eqStringS.mono _ _ _)
   | (with_reducible exact laws_heldStringS.mono _ _ _)
   | (with_reducible exact laws_markStringS.mono _ _ _)
   | (with_reducible exact laws_szEntry.mono _ _ _ _ _ _ _ _ _ _ _ _ _ _ _ _)
   | (with_reducible exact laws_toEntry.mono _ _ _ _ _ _ _ _ _ _ _ _ _ _ _)
   | (with_reducible exact spec_MissingFields.mono _ _ _ _ _ _ _ _ _ _ _ _ _ _ _)
   | (with_reducible exact LeO.refl _)
   | (with_reducible exact LeO.none _)
   | (with_reducible refine LeO.ite ?_ ?_)
   | (with_reducible refine LeO.bind ?_ (fun _ => ?_))
   | exact ih0 _ _ _ _ _ _ _ _ _ _ _ _ _ _ _ _ _ _ _ _ _ _ _ _ _ _ _ _ _ _ _ _ _
   | exact ih1 _ _ _ _ _ _ _ _ _ _ _ _ _ _ _ _ _ _
   | exact ih2 _ _ _
   | exact impl_MissingFields.mono _ _ _ _ _ _ _ _ _ _ _ _ _ _ _
   | exact laws_eqEntry.mono _ _ _ _ _ _ _ _ _ _ _ _ _ _ _ _ _ _ _ _ _ _ _ _ _ _ _ _ _
   | exact laws_eqStringS.mono _ _ _
   | exact laws_heldStringS.mono _ _ _
   | exact laws_markStringS.mono _ _ _
   | exact laws_szEntry.mono _ _ _ _ _ _ _ _ _ _ _ _ _ _ _ _
   | exact laws_toEntry.mono _ _ _ _ _ _ _ _ _ _ _ _ _ _ _
   | exact spec_MissingFields.mono _ _ _ _ _ _ _ _ _ _ _ _ _ _ _
   | exact LeO.none _
   | refine LeO.ite ?_ ?_
   | refine LeO.bind ?_ (fun _ => ?_)
  ·
   intro y0 y1 y2
   unfold laws_FnExactMissingFields.j2
   repeat' first
   | (with_reducible exact ih0 _ _ _ _ _ _ _ _ _ _ _ _ _ _ _ _ _ _ _ _ _ _ _ _ _ _ _ _ _ _ _ _ _)
   | (with_reducible exact ih1 _ _ _ _ _ _ _ _ _ _ _ _ _ _ _ _ _ _)
   | (with_reducible exact ih2 _ _ _)
   | (with_reducible exact impl_MissingFields.mono _ _ _ _ _ _ _ _ _ _ _ _ _ _ _)
   | (with_reducible exact laws_eqEntry.mono _ _ _ _ _ _ _ _ _ _ _ _ _ _ _ _ _ _ _ _ _ _ _ _ _ _ _ _ _)
   | (with_reducible exact laws_eqStringS.mono _ _ _)
   | (with_reducible exact laws_heldStringS.mono _ _ _)
   | (with_reducible exact laws_markStringS.mono _ _ _)
   | (with_reducible exact laws_szEntry.mono _ _ _ _ _ _ _ _ _ _ _ _ _ _ _ _)
   | (with_reducible exact laws_toEntry.mono _ _ _ _ _ _ _ _ _ _ _ _ _ _ _)
   | (with_reducible exact spec_MissingFields.mono _ _ _ _ _ _ _ _ _ _ _ _ _ _ _)
   | (with_reducible exact LeO.refl _)
   | (with_reducible exact LeO.none _)
   | (with_reducible refine LeO.ite ?_ ?_)
   | (with_reducible refine LeO.bind ?_ (fun _ => ?_))
   | exact ih0 _ _ _ _ _ _ _ _ _ _ _ _ _ _ _ _ _ _ _ _ _ _ _ _ _ _ _ _ _ _ _ _ _
   | exact ih1 _ _ _ _ _ _ _ _ _ _ _ _ _ _ _ _ _ _
   | exact ih2 _ _ _
   | exact impl_MissingFields.mono _ _ _ _ _ _ _ _ _ _ _ _ _ _ _
   | exact laws_eqEntry.mono _ _ _ _ _ _ _ _ _ _ _ _ _ _ _ _ _ _ _ _ _ _ _ _ _ _ _ _ _
   | exact laws_eqStringS.mono _ _ _
   | exact laws_heldStringS.mono _ _ _
   | exact laws_markStringS.mono _ _ _
   | exact laws_szEntry.mono _ _ _ _ _ _ _ _ _ _ _ _ _ _ _ _
   | exact laws_toEntry.mono _ _ _ _ _ _ _ _ _ _ _ _ _ _ _
   | exact spec_MissingFields.mono _ _ _ _ _ _ _ _ _ _ _ _ _ _ _
   | exact LeO.none _
   | refine LeO.ite ?_ ?_
   | refine LeO.bind ?_ (fun _ => ?_)
theorem laws_FnExactMissingFields.mono : ∀ a0 a1 a2 a3 a4 a5 a6 a7 a8 a9 a10 a11 a12 a13 k, LeO (laws_FnExactMissingFields.f k a0 a1 a2 a3 a4 a5 a6 a7 a8 a9 a10 a11 a12 a13) (laws_FnExactMissingFields.f (k + 1) a0 a1 a2 a3 a4 a5 a6 a7 a8 a9 a10 a11 a12 a13) := by
 intro a0 a1 a2 a3 a4 a5 a6 a7 a8 a9 a10 a11 a12 a13 k
 obtain ⟨ih0, ih1, ih2⟩ := laws_FnExactMissingFields.mono_l k
 unfold laws_FnExactMissingFields.f
 repeat' first
   | (with_reducible exact ih0 _ _ _ _ _ _ _ _ _ _ _ _ _ _ _ _ _ _ _ _ _ _ _ _ _ _ _ _ _ _ _ _ _)
   | (with_reducible exact ih1 _ _ _ _ _ _ _ _ _ _ _ _ _ _ _ _ _ _)
   | (with_reducible exact ih2 _ _ _)
   | (with_reducible exact impl_MissingFields.mono _ _ _ _ _ _ _ _ _ _ _ _ _ _ _)
   | (with_reducible exact laws_eqEntry.mono _ _ _ _ _ _ _ _ _ _ _ _ _ _ _ _ _ _ _ _ _ _ _ _ _ _ _ _ _)
   | (with_reducible exact laws_eqStringS.mono _ _ _)
   | (with_reducible exact laws_heldStringS.mono _ _ _)
   | (with_reducible exact laws_markStringS.mono _ _ _)
   | (with_reducible exact laws_szEntry.mono _ _ _ _ _ _ _ _ _ _ _ _ _ _ _ _)
   | (with_reducible exact laws_toEntry.mono _ _ _ _ _ _ _ _ _ _ _ _ _ _ _)
   | (with_reducible exact spec_MissingFields.mono _ _ _ _ _ _ _ _ _ _ _ _ _ _ _)
   | (with_reducible exact LeO.refl _)
   | (with_reducible exact LeO.none _)
   | (with_reducible refine LeO.ite ?_ ?_)
   | (with_reducible refine LeO.bind ?_ (fun _ => ?_))
   | exact ih0 _ _ _ _ _ _ _ _ _ _ _ _ _ _ _ _ _ _ _ _ _ _ _ _ _ _ _ _ _ _ _ _ _
   | exact ih1 _ _ _ _ _ _ _ _ _ _ _ _ _ _ _ _ _ _
   | exact ih2 _ _ _
   | exact impl_MissingFields.mono _ _ _ _ _ _ _ _ _ _ _ _ _ _ _
   | exact laws_eqEntry.mono _ _ _ _ _ _ _ _ _ _ _ _ _ _ _ _ _ _ _ _ _ _ _ _ _ _ _ _ _
   | exact laws_eqStringS.mono _ _ _
   | exact laws_heldStringS.mono _ _ _
   | exact laws_markStringS.mono _ _ _
   | exact laws_szEntry.mono _ _ _ _ _ _ _ _ _ _ _ _ _ _ _ _
   | exact laws_toEntry.mono _ _ _ _ _ _ _ _ _ _ _ _ _ _ _
   | exact spec_MissingFields.mono _ _ _ _ _ _ _ _ _ _ _ _ _ _ _
   | exact LeO.none _
   | refine LeO.ite ?_ ?_
   | refine LeO.bind ?_ (fun _ => ?_)
set_option maxRecDepth 100000 in
theorem laws_FnExactMissingFields.L0 {P : Prop} (h : P := by
  go_wp2_with (first | ((with_reducible refine gate_callee (f := 8) rfl ?_); refine goesL_ (some 34) rfl rfl Tryz.func8 (by kernel_rfl) rfl #[.slice Ao30 t427.length co30, .slice Ao31 t404.length co31] rfl au38 ?_; (with_reducible refine (laws_eqStringS.calls k _ _ t427 _ _ t404 _ _ ?side1 ?side2 ?side3 ?side4 A28.out).mono ?_); (case side1 => repeat (first | exact (Kd.R_reads' HO429.out).2.2 | (with_reducible refine Kd.C_alloc ?_ _) | (with_reducible refine Kd.C_drewN ?_ _) | (with_reducible refine Kd.C_drew ?_))); (case side2 => exact (Kd.R_reads' HO429.out).2.1); (case side3 => repeat (first | exact (Kd.R_reads' HO406.out).2.2 | (with_reducible refine Kd.C_alloc ?_ _) | (with_reducible refine Kd.C_drewN ?_ _) | (with_reducible refine Kd.C_drew ?_))); (case side4 => exact (Kd.R_reads' HO406.out).2.1); rintro e w' ⟨rfl, ⟨nd, rfl⟩⟩; refine ⟨_, rfl, ?_⟩))
  go_meet
  case rel => first | (exact ⟨_, ((t430 != t407)), au82, H', ⟨by first | omega | exact Nat.le_refl _⟩, ⟨by (with_reducible repeat (first | apply Kd.R_alloc | apply Kd.R_drewN | apply Kd.R_drew)); exact Kd.R_mono HO406.out (fun _ hk => hk.2)⟩, ⟨by (with_reducible repeat (first | apply Kd.R_alloc | apply Kd.R_drewN | apply Kd.R_drew)); exact Kd.R_mono HO429.out (fun _ hk => hk.2)⟩, ⟨by (with_reducible repeat (first | apply Kd.S_alloc | apply Kd.S_drewN | apply Kd.S_drew)); exact Kd.S_mono HO412.out (fun _ hk => ⟨hk.1.2, ⟨hk.2, hk.1.1.1.1⟩⟩)⟩, ⟨by (with_reducible repeat (first | apply Kd.S_alloc | apply Kd.S_drewN | apply Kd.S_drew)); exact Kd.S_mono HO415.out (fun _ hk => ⟨hk.1.2, ⟨hk.2, hk.1.1.1.1⟩⟩)⟩, ⟨by (with_reducible repeat (first | refine blk_drewN ?_ _ | refine blk_drew ?_ | refine blk_alloc ?_ _)); exact BK384.out⟩, ⟨by (with_reducible repeat (first | refine blk_drewN ?_ _ | refine blk_drew ?_ | refine blk_alloc ?_ _)); exact BK426.out⟩, ⟨by repeat (first | (with_reducible first | exact HB.out | apply below_alloc | apply pw_below_drewN | apply below_drew1 | refine below_set ?_ GE384.out | refine below_set ?_ GE426.out) | exact HB.out)⟩⟩) | (exact ⟨_, (true), au82, H', ⟨by have := HJ10.out; first | omega | exact Nat.le_refl _⟩, ⟨by (with_reducible repeat (first | apply Kd.R_alloc | apply Kd.R_drewN | apply Kd.R_drew)); exact HO_4.out⟩, ⟨by (with_reducible repeat (first | apply Kd.R_alloc | apply Kd.R_drewN | apply Kd.R_drew)); exact HO_7.out⟩, ⟨by (with_reducible repeat (first | apply Kd.S_alloc | apply Kd.S_drewN | apply Kd.S_drew)); exact Kd.S_mono HO_427002.out (fun _ hk => ⟨hk.1.1.1, ⟨hk.1.1.2.1, hk.1.1.2.2⟩⟩)⟩, ⟨by (with_reducible repeat (first | apply Kd.S_alloc | apply Kd.S_drewN | apply Kd.S_drew)); exact Kd.S_mono HO_427003.out (fun _ hk => ⟨hk.1.1.1, ⟨hk.1.1.2.1, hk.1.1.2.2⟩⟩)⟩, ⟨by (with_reducible repeat (first | refine blk_drewN ?_ _ | refine blk_drew ?_ | refine blk_alloc ?_ _)); exact BK384.out⟩, ⟨by (with_reducible repeat (first | refine blk_drewN ?_ _ | refine blk_drew ?_ | refine blk_alloc ?_ _)); exact BK426.out⟩, ⟨by repeat (first | (with_reducible first | exact HB.out | apply below_alloc | apply pw_below_drewN | apply below_drew1 | refine below_set ?_ GE384.out | refine below_set ?_ GE426.out) | exact HB.out)⟩⟩)) : P := h
set_option maxRecDepth 100000 in
theorem laws_FnExactMissingFields.L1 {P : Prop} (h : P := by
  go_wp2_with (first | ((with_reducible refine gate_callee (f := 12) rfl ?_); refine goesL_ (some 90) rfl rfl Tryz.func12 (by kernel_rfl) rfl #[.slice Ao66 t454.length co66, .int .i64 1] rfl au38 ?_; (with_reducible refine (laws_heldStringS.calls kj64 _ _ t454 1 t479 _ ?side1 ?side2 A82.out).mono ?_); (case side1 => repeat (first | exact (Kd.R_reads' HO_7.out).2.2 | (with_reducible refine Kd.C_alloc ?_ _) | (with_reducible refine Kd.C_drewN ?_ _) | (with_reducible refine Kd.C_drew ?_))); (case side2 => exact (Kd.R_reads' HO_7.out).2.1); rintro e w86 ⟨rfl, hb⟩; refine ⟨_, rfl, ?_⟩; replace HO_7 := Aside0.mk (Kd.R_below au79 hb); replace HO_427002 := Aside0.mk (Kd.S_below au68 hb); replace HO_427003 := Aside0.mk (Kd.S_below au69 hb); replace BK384 := Aside0.mk (blk_below (g := gb384) au66 hb); replace BK426 := Aside0.mk (blk_below (g := gb426) au67 hb); replace HB := Aside0.mk (below_step au12 hb); (try clear hb)))
  go_ret
  exact ⟨by first | rfl | (simp [errW_none, errW_some] <;> rfl) | (simp [*, errW_none, errW_some] <;> rfl), by repeat (first | (with_reducible first | exact HB.out | apply below_alloc | apply pw_below_drewN | apply below_drew1 | refine below_set ?_ GE384.out | refine below_set ?_ GE426.out) | exact HB.out)⟩) : P := h
set_option maxRecDepth 100000 in
theorem laws_FnExactMissingFields.L2 {P : Prop} (h : P := by
  go_wp2_with (first | (go_at_call 8; (with_reducible refine (laws_eqStringS.calls kj10 _ _ t427 _ _ t404 _ _ ?side1 ?side2 ?side3 ?side4 A49.out).mono ?_); (case side1 => repeat (first | exact (Kd.R_reads' HO_7.out).2.2 | (with_reducible refine Kd.C_alloc ?_ _) | (with_reducible refine Kd.C_drewN ?_ _) | (with_reducible refine Kd.C_drew ?_))); (case side2 => exact (Kd.R_reads' HO_7.out).2.1); (case side3 => repeat (first | exact (Kd.R_reads' HO_4.out).2.2 | (with_reducible refine Kd.C_alloc ?_ _) | (with_reducible refine Kd.C_drewN ?_ _) | (with_reducible refine Kd.C_drew ?_))); (case side4 => exact (Kd.R_reads' HO_4.out).2.1); rintro e w' ⟨rfl, ⟨nd, rfl⟩⟩))
  go_meet
  case rel => first | (exact ⟨_, ((t430 != t407)), au82, H', ⟨by have := HJ10.out; first | omega | exact Nat.le_refl _⟩, ⟨by (with_reducible repeat (first | apply Kd.R_alloc | apply Kd.R_drewN | apply Kd.R_drew)); exact HO_4.out⟩, ⟨by (with_reducible repeat (first | apply Kd.R_alloc | apply Kd.R_drewN | apply Kd.R_drew)); exact HO_7.out⟩, ⟨by (with_reducible repeat (first | apply Kd.S_alloc | apply Kd.S_drewN | apply Kd.S_drew)); exact Kd.S_mono HO_427002.out (fun _ hk => ⟨hk.1.1.1, ⟨hk.1.1.2.1, hk.1.1.2.2⟩⟩)⟩, ⟨by (with_reducible repeat (first | apply Kd.S_alloc | apply Kd.S_drewN | apply Kd.S_drew)); exact Kd.S_mono HO_427003.out (fun _ hk => ⟨hk.1.1.1, ⟨hk.1.1.2.1, hk.1.1.2.2⟩⟩)⟩, ⟨by (with_reducible repeat (first | refine blk_drewN ?_ _ | refine blk_drew ?_ | refine blk_alloc ?_ _)); exact BK384.out⟩, ⟨by (with_reducible repeat (first | refine blk_drewN ?_ _ | refine blk_drew ?_ | refine blk_alloc ?_ _)); exact BK426.out⟩, ⟨by repeat (first | (with_reducible first | exact HB.out | apply below_alloc | apply pw_below_drewN | apply below_drew1 | refine below_set ?_ GE384.out | refine below_set ?_ GE426.out) | exact HB.out)⟩⟩) | (exact ⟨_, (true), au82, H', ⟨by have := HJ10.out; first | omega | exact Nat.le_refl _⟩, ⟨by (with_reducible repeat (first | apply Kd.R_alloc | apply Kd.R_drewN | apply Kd.R_drew)); exact HO_4.out⟩, ⟨by (with_reducible repeat (first | apply Kd.R_alloc | apply Kd.R_drewN | apply Kd.R_drew)); exact HO_7.out⟩, ⟨by (with_reducible repeat (first | apply Kd.S_alloc | apply Kd.S_drewN | apply Kd.S_drew)); exact Kd.S_mono HO_427002.out (fun _ hk => ⟨hk.1.1.1, ⟨hk.1.1.2.1, hk.1.1.2.2⟩⟩)⟩, ⟨by (with_reducible repeat (first | apply Kd.S_alloc | apply Kd.S_drewN | apply Kd.S_drew)); exact Kd.S_mono HO_427003.out (fun _ hk => ⟨hk.1.1.1, ⟨hk.1.1.2.1, hk.1.1.2.2⟩⟩)⟩, ⟨by (with_reducible repeat (first | refine blk_drewN ?_ _ | refine blk_drew ?_ | refine blk_alloc ?_ _)); exact BK384.out⟩, ⟨by (with_reducible repeat (first | refine blk_drewN ?_ _ | refine blk_drew ?_ | refine blk_alloc ?_ _)); exact BK426.out⟩, ⟨by repeat (first | (with_reducible first | exact HB.out | apply below_alloc | apply pw_below_drewN | apply below_drew1 | refine below_set ?_ GE384.out | refine below_set ?_ GE426.out) | exact HB.out)⟩⟩)) : P := h
set_option maxHeartbeats 8000000 in
set_option maxRecDepth 100000 in
theorem laws_FnExactMissingFields.calls (k : Nat) (a0_0 : ByteArray) (a0_1 : Int) (A0_2 : Option Addr) (c0_2 : Nat) (l0_2 : List (S52)) (A0_3 : Option Addr) (c0_3 : Nat) (l0_3 : List (S52)) (a0_4 : ByteArray) (a0_5 : ByteArray) (a0_6 : ByteArray) (a0_7 : Int) (a0_8 : Int) (a0_9 : Int) (a0_10 : Bool) (a0_11 : Int) (a0_12 : ByteArray) (a0_13 : ByteArray) (w : World) {gF2 gF3 : Bool} (hG : GL true gF2 gF3 w) (hr0_2 : Kd.C k52 w A0_2 l0_2.length l0_2) (hc0_2 : l0_2.length ≤ c0_2) (hr0_3 : Kd.C k52 w A0_3 l0_3.length l0_3) (hc0_3 : l0_3.length ≤ c0_3) (h : laws_FnExactMissingFields.f k a0_0 a0_1 l0_2 l0_3 a0_4 a0_5 a0_6 a0_7 a0_8 a0_9 a0_10 a0_11 a0_12 a0_13 = some true) :
  Calls Tryz.prog 3 #[.agg #[.string a0_0, .int .i64 a0_1, .slice A0_2 l0_2.length c0_2, .slice A0_3 l0_3.length c0_3, .string a0_4, .string a0_5, .string a0_6, .int .i64 a0_7, .int .i64 a0_8, .int .i64 a0_9, .bool a0_10, .int .i64 a0_11, .string a0_12, .string a0_13]] w fun e w' => e = .returned (.bool true) ∧ Below w.heap.size w w' := by
 obtain ⟨r, hr_⟩ : ∃ r, r = true := ⟨true, rfl⟩
 rw [← hr_] at h ⊢
 have HRT := Aside0.mk hr_
 clear hr_
 have HG := Aside0.mk hG
 clear hG
 have hu26 := Tryz.underlying26
 have hu34 := Tryz.underlying34
 have HR0_2 := Aside0.mk hr0_2
 have HC0_2 := Aside0.mk hc0_2
 clear hr0_2 hc0_2
 have HR0_3 := Aside0.mk hr0_3
 have HC0_3 := Aside0.mk hc0_3
 clear hr0_3 hc0_3
 have HB := Aside0.mk (Below.refl w.heap.size w)
 have H : ((laws_szEntry.f k a0_0 a0_1 l0_2 l0_3 a0_4 a0_5 a0_6 a0_7 a0_8 a0_9 a0_10 a0_11 a0_12 a0_13 1048576).bind fun t385 => (if t385 < 0 then (some true) else ((laws_toEntry.f k a0_0 a0_1 l0_2 l0_3 a0_4 a0_5 a0_6 a0_7 a0_8 a0_9 a0_10 a0_11 a0_12 a0_13).bind fun bt386 => ((spec_MissingFields.f k bt386.1 bt386.2.1 bt386.2.2.1 bt386.2.2.2.1 bt386.2.2.2.2.1 bt386.2.2.2.2.2.1 bt386.2.2.2.2.2.2.1 bt386.2.2.2.2.2.2.2.1 bt386.2.2.2.2.2.2.2.2.1 bt386.2.2.2.2.2.2.2.2.2.1 bt386.2.2.2.2.2.2.2.2.2.2.1 bt386.2.2.2.2.2.2.2.2.2.2.2.1 bt386.2.2.2.2.2.2.2.2.2.2.2.2.1 bt386.2.2.2.2.2.2.2.2.2.2.2.2.2).bind fun bt404 => ((laws_toEntry.f k a0_0 a0_1 l0_2 l0_3 a0_4 a0_5 a0_6 a0_7 a0_8 a0_9 a0_10 a0_11 a0_12 a0_13).bind fun bt408 => ((impl_MissingFields.f k bt408.1 bt408.2.1 bt408.2.2.1 bt408.2.2.2.1 bt408.2.2.2.2.1 bt408.2.2.2.2.2.1 bt408.2.2.2.2.2.2.1 bt408.2.2.2.2.2.2.2.1 bt408.2.2.2.2.2.2.2.2.1 bt408.2.2.2.2.2.2.2.2.2.1 bt408.2.2.2.2.2.2.2.2.2.2.1 bt408.2.2.2.2.2.2.2.2.2.2.2.1 bt408.2.2.2.2.2.2.2.2.2.2.2.2.1 bt408.2.2.2.2.2.2.2.2.2.2.2.2.2).bind fun bt427 => ((laws_eqStringS.f k bt427.1 bt404.1).bind fun t431 => (if t431 = true then (laws_FnExactMissingFields.j0 k bt404.1 bt404.2 bt427.1 bt427.2 (bt427.2 != bt404.2) a0_0 a0_1 l0_2 l0_3 a0_4 a0_5 a0_6 a0_7 a0_8 a0_9 a0_10 a0_11 a0_12 a0_13 bt408.1 bt408.2.1 bt408.2.2.1 bt408.2.2.2.1 bt408.2.2.2.2.1 bt408.2.2.2.2.2.1 bt408.2.2.2.2.2.2.1 bt408.2.2.2.2.2.2.2.1 bt408.2.2.2.2.2.2.2.2.1 bt408.2.2.2.2.2.2.2.2.2.1 bt408.2.2.2.2.2.2.2.2.2.2.1 bt408.2.2.2.2.2.2.2.2.2.2.2.1 bt408.2.2.2.2.2.2.2.2.2.2.2.2.1 bt408.2.2.2.2.2.2.2.2.2.2.2.2.2) else (laws_FnExactMissingFields.j0 k bt404.1 bt404.2 bt427.1 bt427.2 true a0_0 a0_1 l0_2 l0_3 a0_4 a0_5 a0_6 a0_7 a0_8 a0_9 a0_10 a0_11 a0_12 a0_13 bt408.1 bt408.2.1 bt408.2.2.1 bt408.2.2.2.1 bt408.2.2.2.2.1 bt408.2.2.2.2.2.1 bt408.2.2.2.2.2.2.1 bt408.2.2.2.2.2.2.2.1 bt408.2.2.2.2.2.2.2.2.1 bt408.2.2.2.2.2.2.2.2.2.1 bt408.2.2.2.2.2.2.2.2.2.2.1 bt408.2.2.2.2.2.2.2.2.2.2.2.1 bt408.2.2.2.2.2.2.2.2.2.2.2.2.1 bt408.2.2.2.2.2.2.2.2.2.2.2.2.2))))))))) = some r := h
 clear h
 replace H := Option.bind_eq_some_iff.mp H
 obtain ⟨t385, A20, H⟩ := H
 try dsimp only at H
 have A2 := Aside0.mk A20
 clear A20
 by_cases c3 : t385 < 0
 ·
  rw [if_pos c3] at H
  have c3b0 : decide (t385 < 0) = true := decide_eq_true c3
  clear c3
  obtain rfl := Option.some.inj H
  go_enter Tryz.func3, Tryz.ntmps3
  go_wp2_with (first | ((with_reducible refine gate_dst (N := 1) rfl ?_); refine box_event ?hg (N := 1) ?hd (cs := #[.string a0_0, .int .i64 a0_1, .slice A0_2 l0_2.length c0_2, .slice A0_3 l0_3.length c0_3, .string a0_4, .string a0_5, .string a0_6, .int .i64 a0_7, .int .i64 a0_8, .int .i64 a0_9, .bool a0_10, .int .i64 a0_11, .string a0_12, .string a0_13]) (t := 26) ?hr ?_; (case hd => rfl); (case hg => rfl); (case hr => first | (go_simp; done) | (go_simp; rfl)); intro gb384 hg w4 hbox hb; have BK384 := Aside0.mk (hbox); have GW384 := Aside0.mk (bsz hg au39); have GE384 := Aside0.mk (bsz hg au39); replace HB := Aside0.mk (below_step au39 hb); clear hb hbox hg; obtain ⟨hcz5_0, hcz5_1, hcz5_2, hcz5_3, hcz5_4, hcz5_5, hcz5_6, hcz5_7, hcz5_8, hcz5_9, hcz5_10, hcz5_11, hcz5_12, hcz5_13, hfz5_0, hfz5_1, hfz5_2, hfz5_3, hfz5_4, hfz5_5, hfz5_6, hfz5_7, hfz5_8, hfz5_9, hfz5_10, hfz5_11, hfz5_12, hfz5_13⟩ := blkc14 BK384.out) | ((with_reducible refine gate_callee (f := 4) rfl ?_); refine goesL_ (some 16) rfl rfl Tryz.func4 (by kernel_rfl) rfl #[.agg #[.string a0_0, .int .i64 a0_1, .slice A0_2 l0_2.length c0_2, .slice A0_3 l0_3.length c0_3, .string a0_4, .string a0_5, .string a0_6, .int .i64 a0_7, .int .i64 a0_8, .int .i64 a0_9, .bool a0_10, .int .i64 a0_11, .string a0_12, .string a0_13], .int .i64 1048576] rfl au38 ?_; (with_reducible refine (laws_szEntry.calls k a0_0 a0_1 _ _ l0_2 _ _ l0_3 a0_4 a0_5 a0_6 a0_7 a0_8 a0_9 a0_10 a0_11 a0_12 a0_13 1048576 t385 _ ?side1 ?side2 ?side3 ?side4 A2.out).mono ?_); (case side1 => repeat (first | exact (Kd.C_below HR0_2.out HB.out) | (with_reducible refine Kd.C_alloc ?_ _) | (with_reducible refine Kd.C_drewN ?_ _) | (with_reducible refine Kd.C_drew ?_))); (case side2 => exact HC0_2.out); (case side3 => repeat (first | exact (Kd.C_below HR0_3.out HB.out) | (with_reducible refine Kd.C_alloc ?_ _) | (with_reducible refine Kd.C_drewN ?_ _) | (with_reducible refine Kd.C_drew ?_))); (case side4 => exact HC0_3.out); rintro e w6 ⟨rfl, hb⟩; refine ⟨_, rfl, ?_⟩; replace BK384 := Aside0.mk (blk_below (g := gb384) au66 hb); replace HB := Aside0.mk (below_step au35 hb); (try clear hb)))
  go_ret
  exact ⟨by first | rfl | (simp [errW_none, errW_some] <;> rfl) | (simp [*, errW_none, errW_some] <;> rfl), by repeat (first | (with_reducible first | exact HB.out | apply below_alloc | apply pw_below_drewN | apply below_drew1 | refine below_set ?_ GE384.out) | exact HB.out)⟩
 ·
  rw [if_neg c3] at H
  have c3b0 : decide (t385 < 0) = false := decide_eq_false c3
  clear c3
  replace H := Option.bind_eq_some_iff.mp H
  obtain ⟨⟨t386, t387, t388, t391, t394, t395, t396, t397, t398, t399, t400, t401, t402, t403⟩, A70, H⟩ := H
  replace H : ((spec_MissingFields.f k t386 t387 t388 t391 t394 t395 t396 t397 t398 t399 t400 t401 t402 t403).bind fun bt404 => ((laws_toEntry.f k a0_0 a0_1 l0_2 l0_3 a0_4 a0_5 a0_6 a0_7 a0_8 a0_9 a0_10 a0_11 a0_12 a0_13).bind fun bt408 => ((impl_MissingFields.f k bt408.1 bt408.2.1 bt408.2.2.1 bt408.2.2.2.1 bt408.2.2.2.2.1 bt408.2.2.2.2.2.1 bt408.2.2.2.2.2.2.1 bt408.2.2.2.2.2.2.2.1 bt408.2.2.2.2.2.2.2.2.1 bt408.2.2.2.2.2.2.2.2.2.1 bt408.2.2.2.2.2.2.2.2.2.2.1 bt408.2.2.2.2.2.2.2.2.2.2.2.1 bt408.2.2.2.2.2.2.2.2.2.2.2.2.1 bt408.2.2.2.2.2.2.2.2.2.2.2.2.2).bind fun bt427 => ((laws_eqStringS.f k bt427.1 bt404.1).bind fun t431 => (if t431 = true then (laws_FnExactMissingFields.j0 k bt404.1 bt404.2 bt427.1 bt427.2 (bt427.2 != bt404.2) a0_0 a0_1 l0_2 l0_3 a0_4 a0_5 a0_6 a0_7 a0_8 a0_9 a0_10 a0_11 a0_12 a0_13 bt408.1 bt408.2.1 bt408.2.2.1 bt408.2.2.2.1 bt408.2.2.2.2.1 bt408.2.2.2.2.2.1 bt408.2.2.2.2.2.2.1 bt408.2.2.2.2.2.2.2.1 bt408.2.2.2.2.2.2.2.2.1 bt408.2.2.2.2.2.2.2.2.2.1 bt408.2.2.2.2.2.2.2.2.2.2.1 bt408.2.2.2.2.2.2.2.2.2.2.2.1 bt408.2.2.2.2.2.2.2.2.2.2.2.2.1 bt408.2.2.2.2.2.2.2.2.2.2.2.2.2) else (laws_FnExactMissingFields.j0 k bt404.1 bt404.2 bt427.1 bt427.2 true a0_0 a0_1 l0_2 l0_3 a0_4 a0_5 a0_6 a0_7 a0_8 a0_9 a0_10 a0_11 a0_12 a0_13 bt408.1 bt408.2.1 bt408.2.2.1 bt408.2.2.2.1 bt408.2.2.2.2.1 bt408.2.2.2.2.2.1 bt408.2.2.2.2.2.2.1 bt408.2.2.2.2.2.2.2.1 bt408.2.2.2.2.2.2.2.2.1 bt408.2.2.2.2.2.2.2.2.2.1 bt408.2.2.2.2.2.2.2.2.2.2.1 bt408.2.2.2.2.2.2.2.2.2.2.2.1 bt408.2.2.2.2.2.2.2.2.2.2.2.2.1 bt408.2.2.2.2.2.2.2.2.2.2.2.2.2)))))) = some r := H
  have A7 := Aside0.mk A70
  clear A70
  replace H := Option.bind_eq_some_iff.mp H
  obtain ⟨⟨t404, t407⟩, A80, H⟩ := H
  replace H : ((laws_toEntry.f k a0_0 a0_1 l0_2 l0_3 a0_4 a0_5 a0_6 a0_7 a0_8 a0_9 a0_10 a0_11 a0_12 a0_13).bind fun bt408 => ((impl_MissingFields.f k bt408.1 bt408.2.1 bt408.2.2.1 bt408.2.2.2.1 bt408.2.2.2.2.1 bt408.2.2.2.2.2.1 bt408.2.2.2.2.2.2.1 bt408.2.2.2.2.2.2.2.1 bt408.2.2.2.2.2.2.2.2.1 bt408.2.2.2.2.2.2.2.2.2.1 bt408.2.2.2.2.2.2.2.2.2.2.1 bt408.2.2.2.2.2.2.2.2.2.2.2.1 bt408.2.2.2.2.2.2.2.2.2.2.2.2.1 bt408.2.2.2.2.2.2.2.2.2.2.2.2.2).bind fun bt427 => ((laws_eqStringS.f k bt427.1 t404).bind fun t431 => (if t431 = true then (laws_FnExactMissingFields.j0 k t404 t407 bt427.1 bt427.2 (bt427.2 != t407) a0_0 a0_1 l0_2 l0_3 a0_4 a0_5 a0_6 a0_7 a0_8 a0_9 a0_10 a0_11 a0_12 a0_13 bt408.1 bt408.2.1 bt408.2.2.1 bt408.2.2.2.1 bt408.2.2.2.2.1 bt408.2.2.2.2.2.1 bt408.2.2.2.2.2.2.1 bt408.2.2.2.2.2.2.2.1 bt408.2.2.2.2.2.2.2.2.1 bt408.2.2.2.2.2.2.2.2.2.1 bt408.2.2.2.2.2.2.2.2.2.2.1 bt408.2.2.2.2.2.2.2.2.2.2.2.1 bt408.2.2.2.2.2.2.2.2.2.2.2.2.1 bt408.2.2.2.2.2.2.2.2.2.2.2.2.2) else (laws_FnExactMissingFields.j0 k t404 t407 bt427.1 bt427.2 true a0_0 a0_1 l0_2 l0_3 a0_4 a0_5 a0_6 a0_7 a0_8 a0_9 a0_10 a0_11 a0_12 a0_13 bt408.1 bt408.2.1 bt408.2.2.1 bt408.2.2.2.1 bt408.2.2.2.2.1 bt408.2.2.2.2.2.1 bt408.2.2.2.2.2.2.1 bt408.2.2.2.2.2.2.2.1 bt408.2.2.2.2.2.2.2.2.1 bt408.2.2.2.2.2.2.2.2.2.1 bt408.2.2.2.2.2.2.2.2.2.2.1 bt408.2.2.2.2.2.2.2.2.2.2.2.1 bt408.2.2.2.2.2.2.2.2.2.2.2.2.1 bt408.2.2.2.2.2.2.2.2.2.2.2.2.2))))) = some r := H
  have A8 := Aside0.mk A80
  clear A80
  replace H := Option.bind_eq_some_iff.mp H
  obtain ⟨⟨t408, t409, t410, t413, t416, t417, t418, t419, t420, t421, t422, t423, t424, t425⟩, A90, H⟩ := H
  replace H : ((impl_MissingFields.f k t408 t409 t410 t413 t416 t417 t418 t419 t420 t421 t422 t423 t424 t425).bind fun bt427 => ((laws_eqStringS.f k bt427.1 t404).bind fun t431 => (if t431 = true then (laws_FnExactMissingFields.j0 k t404 t407 bt427.1 bt427.2 (bt427.2 != t407) a0_0 a0_1 l0_2 l0_3 a0_4 a0_5 a0_6 a0_7 a0_8 a0_9 a0_10 a0_11 a0_12 a0_13 t408 t409 t410 t413 t416 t417 t418 t419 t420 t421 t422 t423 t424 t425) else (laws_FnExactMissingFields.j0 k t404 t407 bt427.1 bt427.2 true a0_0 a0_1 l0_2 l0_3 a0_4 a0_5 a0_6 a0_7 a0_8 a0_9 a0_10 a0_11 a0_12 a0_13 t408 t409 t410 t413 t416 t417 t418 t419 t420 t421 t422 t423 t424 t425)))) = some r := H
  have A9 := Aside0.mk A90
  clear A90
  replace H := Option.bind_eq_some_iff.mp H
  obtain ⟨⟨t427, t430⟩, A100, H⟩ := H
  replace H : ((laws_eqStringS.f k t427 t404).bind fun t431 => (if t431 = true then (laws_FnExactMissingFields.j0 k t404 t407 t427 t430 (t430 != t407) a0_0 a0_1 l0_2 l0_3 a0_4 a0_5 a0_6 a0_7 a0_8 a0_9 a0_10 a0_11 a0_12 a0_13 t408 t409 t410 t413 t416 t417 t418 t419 t420 t421 t422 t423 t424 t425) else (laws_FnExactMissingFields.j0 k t404 t407 t427 t430 true a0_0 a0_1 l0_2 l0_3 a0_4 a0_5 a0_6 a0_7 a0_8 a0_9 a0_10 a0_11 a0_12 a0_13 t408 t409 t410 t413 t416 t417 t418 t419 t420 t421 t422 t423 t424 t425))) = some r := H
  have A10 := Aside0.mk A100
  clear A100
  have HC11 := Aside0.mk H
  clear H
  go_enter Tryz.func3, Tryz.ntmps3
  go_upto_region 8 with (first | ((with_reducible refine gate_dst (N := 1) rfl ?_); refine box_event ?hg (N := 1) ?hd (cs := #[.string a0_0, .int .i64 a0_1, .slice A0_2 l0_2.length c0_2, .slice A0_3 l0_3.length c0_3, .string a0_4, .string a0_5, .string a0_6, .int .i64 a0_7, .int .i64 a0_8, .int .i64 a0_9, .bool a0_10, .int .i64 a0_11, .string a0_12, .string a0_13]) (t := 26) ?hr ?_; (case hd => rfl); (case hg => rfl); (case hr => first | (go_simp; done) | (go_simp; rfl)); intro gb384 hg w12 hbox hb; have BK384 := Aside0.mk (hbox); have GW384 := Aside0.mk (bsz hg au39); have GE384 := Aside0.mk (bsz hg au39); replace HB := Aside0.mk (below_step au39 hb); clear hb hbox hg; obtain ⟨hcz13_0, hcz13_1, hcz13_2, hcz13_3, hcz13_4, hcz13_5, hcz13_6, hcz13_7, hcz13_8, hcz13_9, hcz13_10, hcz13_11, hcz13_12, hcz13_13, hfz13_0, hfz13_1, hfz13_2, hfz13_3, hfz13_4, hfz13_5, hfz13_6, hfz13_7, hfz13_8, hfz13_9, hfz13_10, hfz13_11, hfz13_12, hfz13_13⟩ := blkc14 BK384.out) | ((with_reducible refine gate_callee (f := 4) rfl ?_); refine goesL_ (some 16) rfl rfl Tryz.func4 (by kernel_rfl) rfl #[.agg #[.string a0_0, .int .i64 a0_1, .slice A0_2 l0_2.length c0_2, .slice A0_3 l0_3.length c0_3, .string a0_4, .string a0_5, .string a0_6, .int .i64 a0_7, .int .i64 a0_8, .int .i64 a0_9, .bool a0_10, .int .i64 a0_11, .string a0_12, .string a0_13], .int .i64 1048576] rfl au38 ?_; (with_reducible refine (laws_szEntry.calls k a0_0 a0_1 _ _ l0_2 _ _ l0_3 a0_4 a0_5 a0_6 a0_7 a0_8 a0_9 a0_10 a0_11 a0_12 a0_13 1048576 t385 _ ?side1 ?side2 ?side3 ?side4 A2.out).mono ?_); (case side1 => repeat (first | exact (Kd.C_below HR0_2.out HB.out) | (with_reducible refine Kd.C_alloc ?_ _) | (with_reducible refine Kd.C_drewN ?_ _) | (with_reducible refine Kd.C_drew ?_))); (case side2 => exact HC0_2.out); (case side3 => repeat (first | exact (Kd.C_below HR0_3.out HB.out) | (with_reducible refine Kd.C_alloc ?_ _) | (with_reducible refine Kd.C_drewN ?_ _) | (with_reducible refine Kd.C_drew ?_))); (case side4 => exact HC0_3.out); rintro e w14 ⟨rfl, hb⟩; refine ⟨_, rfl, ?_⟩; replace BK384 := Aside0.mk (blk_below (g := gb384) au66 hb); replace HB := Aside0.mk (below_step au35 hb); (try clear hb); obtain ⟨hcz15_0, hcz15_1, hcz15_2, hcz15_3, hcz15_4, hcz15_5, hcz15_6, hcz15_7, hcz15_8, hcz15_9, hcz15_10, hcz15_11, hcz15_12, hcz15_13, hfz15_0, hfz15_1, hfz15_2, hfz15_3, hfz15_4, hfz15_5, hfz15_6, hfz15_7, hfz15_8, hfz15_9, hfz15_10, hfz15_11, hfz15_12, hfz15_13⟩ := blkc14 BK384.out) | ((with_reducible refine gate_callee (f := 6) rfl ?_); refine goesL_ (some 21) rfl rfl Tryz.func6 (by kernel_rfl) rfl #[.agg #[.string a0_0, .int .i64 a0_1, .slice A0_2 l0_2.length c0_2, .slice A0_3 l0_3.length c0_3, .string a0_4, .string a0_5, .string a0_6, .int .i64 a0_7, .int .i64 a0_8, .int .i64 a0_9, .bool a0_10, .int .i64 a0_11, .string a0_12, .string a0_13]] rfl au38 ?_; (with_reducible refine (laws_toEntry.calls k a0_0 a0_1 _ _ l0_2 _ _ l0_3 a0_4 a0_5 a0_6 a0_7 a0_8 a0_9 a0_10 a0_11 a0_12 a0_13 t386 t387 t388 t391 t394 t395 t396 t397 t398 t399 t400 t401 t402 t403 _ ?side1 ?side2 ?side3 ?side4 A7.out).mono ?_); (case side1 => repeat (first | exact (Kd.C_below HR0_2.out HB.out) | (with_reducible refine Kd.C_alloc ?_ _) | (with_reducible refine Kd.C_drewN ?_ _) | (with_reducible refine Kd.C_drew ?_))); (case side2 => exact HC0_2.out); (case side3 => repeat (first | exact (Kd.C_below HR0_3.out HB.out) | (with_reducible refine Kd.C_alloc ?_ _) | (with_reducible refine Kd.C_drewN ?_ _) | (with_reducible refine Kd.C_drew ?_))); (case side4 => exact HC0_3.out); rintro e w16 ⟨v389, v392, rfl, ho0, ho1, hb⟩; refine ⟨_, rfl, ?_⟩; have HO390 := Aside0.mk (Kd.S_lower ho0 (below_size au35)); have HO393 := Aside0.mk (Kd.S_lower ho1 (below_size au35)); replace BK384 := Aside0.mk (blk_below (g := gb384) au66 hb); replace HB := Aside0.mk (below_step au35 hb); (try clear hb); (try clear ho0); (try clear ho1); obtain ⟨Ao17, co17, eo17⟩ := Kd.S_slice HO390.out; subst eo17; obtain ⟨Ao18, co18, eo18⟩ := Kd.S_slice HO393.out; subst eo18) | ((with_reducible refine gate_callee (f := 5) rfl ?_); refine goesL_ (some 22) rfl rfl Tryz.func5 (by kernel_rfl) rfl #[.agg #[.string t386, .int .i64 t387, .slice Ao17 t388.length co17, .slice Ao18 t391.length co18, .string t394, .string t395, .string t396, .int .i64 t397, .int .i64 t398, .int .i64 t399, .bool t400, .int .i64 t401, .string t402, .string t403]] rfl au38 ?_; (with_reducible refine (spec_MissingFields.calls k t386 t387 _ _ t388 _ _ t391 t394 t395 t396 t397 t398 t399 t400 t401 t402 t403 t404 t407 _ ?side1 ?side2 ?side3 ?side4 A8.out).mono ?_); (case side1 => repeat (first | exact (Kd.S_reads' HO390.out).2.2 | (with_reducible refine Kd.C_alloc ?_ _) | (with_reducible refine Kd.C_drewN ?_ _) | (with_reducible refine Kd.C_drew ?_))); (case side2 => exact (Kd.S_reads' HO390.out).2.1); (case side3 => repeat (first | exact (Kd.S_reads' HO393.out).2.2 | (with_reducible refine Kd.C_alloc ?_ _) | (with_reducible refine Kd.C_drewN ?_ _) | (with_reducible refine Kd.C_drew ?_))); (case side4 => exact (Kd.S_reads' HO393.out).2.1); rintro e w19 ⟨v405, rfl, ho0, hb⟩; refine ⟨_, rfl, ?_⟩; replace HO390 := Aside0.mk (Kd.S_elder' au72 (Kd.R_base ho0) hb); replace HO393 := Aside0.mk (Kd.S_elder' au73 (Kd.R_base ho0) hb); have HO406 := Aside0.mk (Kd.R_lower ho0 (below_size au35)); replace BK384 := Aside0.mk (blk_below (g := gb384) au66 hb); replace HB := Aside0.mk (below_step au35 hb); (try clear hb); (try clear ho0); obtain ⟨hcz20_0, hcz20_1, hcz20_2, hcz20_3, hcz20_4, hcz20_5, hcz20_6, hcz20_7, hcz20_8, hcz20_9, hcz20_10, hcz20_11, hcz20_12, hcz20_13, hfz20_0, hfz20_1, hfz20_2, hfz20_3, hfz20_4, hfz20_5, hfz20_6, hfz20_7, hfz20_8, hfz20_9, hfz20_10, hfz20_11, hfz20_12, hfz20_13⟩ := blkc14 BK384.out) | ((with_reducible refine gate_callee (f := 6) rfl ?_); refine goesL_ (some 26) rfl rfl Tryz.func6 (by kernel_rfl) rfl #[.agg #[.string a0_0, .int .i64 a0_1, .slice A0_2 l0_2.length c0_2, .slice A0_3 l0_3.length c0_3, .string a0_4, .string a0_5, .string a0_6, .int .i64 a0_7, .int .i64 a0_8, .int .i64 a0_9, .bool a0_10, .int .i64 a0_11, .string a0_12, .string a0_13]] rfl au38 ?_; (with_reducible refine (laws_toEntry.calls k a0_0 a0_1 _ _ l0_2 _ _ l0_3 a0_4 a0_5 a0_6 a0_7 a0_8 a0_9 a0_10 a0_11 a0_12 a0_13 t408 t409 t410 t413 t416 t417 t418 t419 t420 t421 t422 t423 t424 t425 _ ?side1 ?side2 ?side3 ?side4 A9.out).mono ?_); (case side1 => repeat (first | exact (Kd.C_below HR0_2.out HB.out) | (with_reducible refine Kd.C_alloc ?_ _) | (with_reducible refine Kd.C_drewN ?_ _) | (with_reducible refine Kd.C_drew ?_))); (case side2 => exact HC0_2.out); (case side3 => repeat (first | exact (Kd.C_below HR0_3.out HB.out) | (with_reducible refine Kd.C_alloc ?_ _) | (with_reducible refine Kd.C_drewN ?_ _) | (with_reducible refine Kd.C_drew ?_))); (case side4 => exact HC0_3.out); rintro e w21 ⟨v411, v414, rfl, ho0, ho1, hb⟩; refine ⟨_, rfl, ?_⟩; have HO412 := Aside0.mk (Kd.S_lower (Kd.S_new' (Kd.S_new' (Kd.S_new' ho0 (Kd.S_lt au72)) (Kd.S_lt au73)) (Kd.R_lt au74)) (below_size au35)); have HO415 := Aside0.mk (Kd.S_lower (Kd.S_new' (Kd.S_new' (Kd.S_new' ho1 (Kd.S_lt au72)) (Kd.S_lt au73)) (Kd.R_lt au74)) (below_size au35)); replace HO390 := Aside0.mk (Kd.S_mono (Kd.S_told (Kd.S_told (Kd.S_old au72 hb) (Kd.S_base ho0)) (Kd.S_base ho1)) (fun _ h_ => h_.1)); replace HO393 := Aside0.mk (Kd.S_mono (Kd.S_told (Kd.S_told (Kd.S_old au73 hb) (Kd.S_base ho0)) (Kd.S_base ho1)) (fun _ h_ => h_.1)); replace HO406 := Aside0.mk (Kd.R_below au74 hb); replace BK384 := Aside0.mk (blk_below (g := gb384) au66 hb); replace HB := Aside0.mk (below_step au35 hb); (try clear hb); (try clear ho0); (try clear ho1)) | ((with_reducible refine gate_dst (N := 6) rfl ?_); refine box_event ?hg (N := 6) ?hd (cs := #[.string (⟨#[]⟩ : ByteArray), .int .i64 0, .slice none 0 0, .slice none 0 0, .string (⟨#[]⟩ : ByteArray), .string (⟨#[]⟩ : ByteArray), .string (⟨#[]⟩ : ByteArray), .int .i64 0, .int .i64 0, .int .i64 0, .bool false, .int .i64 0, .string (⟨#[]⟩ : ByteArray), .string (⟨#[]⟩ : ByteArray)]) (t := 34) ?hr ?_; (case hd => rfl); (case hg => rfl); (case hr => first | (go_simp; done) | (go_simp; rfl)); intro gb426 hg w22 hbox hb; replace HO390 := Aside0.mk (Kd.S_below au72 hb); replace HO393 := Aside0.mk (Kd.S_below au73 hb); replace HO406 := Aside0.mk (Kd.R_below au74 hb); replace HO412 := Aside0.mk (Kd.S_below (by (with_reducible repeat (first | apply Kd.S_alloc | apply Kd.S_drewN | apply Kd.S_drew)); exact HO412.out) hb); replace HO415 := Aside0.mk (Kd.S_below (by (with_reducible repeat (first | apply Kd.S_alloc | apply Kd.S_drewN | apply Kd.S_drew)); exact HO415.out) hb); have BK426 := Aside0.mk (hbox); have GW426 := Aside0.mk (bsz hg au35); have GE426 := Aside0.mk (bsz hg au35); replace HB := Aside0.mk (below_step au35 hb); have NB384_426 := Aside0.mk (bne (g := gb384) hg au66); have NB426_384 := Aside0.mk (ben (g := gb384) hg au66); replace BK384 := Aside0.mk (blk_below (g := gb384) au66 hb); clear hb hbox hg; have hnb23 := NB426_384.out; have hnc23 := NB384_426.out; obtain ⟨hcz24_0, hcz24_1, hcz24_2, hcz24_3, hcz24_4, hcz24_5, hcz24_6, hcz24_7, hcz24_8, hcz24_9, hcz24_10, hcz24_11, hcz24_12, hcz24_13, hfz24_0, hfz24_1, hfz24_2, hfz24_3, hfz24_4, hfz24_5, hfz24_6, hfz24_7, hfz24_8, hfz24_9, hfz24_10, hfz24_11, hfz24_12, hfz24_13⟩ := blkc14 BK426.out; obtain ⟨Ao25, co25, eo25⟩ := Kd.S_slice HO412.out; subst eo25; obtain ⟨Ao26, co26, eo26⟩ := Kd.S_slice HO415.out; subst eo26) | ((with_reducible refine gate_callee (f := 7) rfl ?_); refine goesL_ (some 29) rfl rfl Tryz.func7 (by kernel_rfl) rfl #[.agg #[.string t408, .int .i64 t409, .slice Ao25 t410.length co25, .slice Ao26 t413.length co26, .string t416, .string t417, .string t418, .int .i64 t419, .int .i64 t420, .int .i64 t421, .bool t422, .int .i64 t423, .string t424, .string t425]] rfl au38 ?_; (with_reducible refine (impl_MissingFields.calls (hG := au3) k t408 t409 _ _ t410 _ _ t413 t416 t417 t418 t419 t420 t421 t422 t423 t424 t425 t427 t430 _ ?side1 ?side2 ?side3 ?side4 A10.out).mono ?_); (case side1 => refine (Kd.S_reads' (e := 60) (base := w.heap.size) (ok := fun k_ => (((some k_ ≠ (.slice Ao26 t413.length co26 : Value).ownBlock ∧ some k_ ≠ (.slice Ao17 t388.length co17 : Value).ownBlock) ∧ some k_ ≠ (.slice Ao18 t391.length co18 : Value).ownBlock) ∧ some k_ ≠ (v405 : Value).ownBlock)) (n := t410.length) (c := co25) ?_).2.2; exact au0); (case side2 => exact (Kd.S_reads' HO412.out).2.1); (case side3 => refine (Kd.S_reads' (e := 60) (base := w.heap.size) (ok := fun k_ => (((some k_ ≠ (.slice Ao25 t410.length co25 : Value).ownBlock ∧ some k_ ≠ (.slice Ao17 t388.length co17 : Value).ownBlock) ∧ some k_ ≠ (.slice Ao18 t391.length co18 : Value).ownBlock) ∧ some k_ ≠ (v405 : Value).ownBlock)) (n := t413.length) (c := co26) ?_).2.2; exact au1); (case side4 => exact (Kd.S_reads' HO415.out).2.1); rintro e w27 ⟨v428, rfl, ho0, hb⟩; refine ⟨_, rfl, ?_⟩; replace HO390 := Aside0.mk (Kd.S_elder' (by (with_reducible repeat (first | apply Kd.S_alloc | apply Kd.S_drewN | apply Kd.S_drew)); exact (Kd.S_mono (Kd.S_far (p := ⟨gb426, 13, none⟩) (Kd.S_far (p := ⟨gb426, 12, none⟩) (Kd.S_far (p := ⟨gb426, 11, none⟩) (Kd.S_far (p := ⟨gb426, 10, none⟩) (Kd.S_far (p := ⟨gb426, 9, none⟩) (Kd.S_far (p := ⟨gb426, 8, none⟩) (Kd.S_far (p := ⟨gb426, 7, none⟩) (Kd.S_far (p := ⟨gb426, 6, none⟩) (Kd.S_far (p := ⟨gb426, 5, none⟩) (Kd.S_far (p := ⟨gb426, 4, none⟩) (Kd.S_far (p := ⟨gb426, 3, none⟩) (Kd.S_far (p := ⟨gb426, 2, none⟩) (Kd.S_far (p := ⟨gb426, 1, none⟩) (Kd.S_far (p := ⟨gb426, 0, none⟩) (Kd.S_types HO390.out BK426.out (by decide)) (fun _ hk => hk.2) (.string t408)) (fun _ hk => hk.2) (.int .i64 t409)) (fun _ hk => hk.2) (.slice Ao25 t410.length co25)) (fun _ hk => hk.2) (.slice Ao26 t413.length co26)) (fun _ hk => hk.2) (.string t416)) (fun _ hk => hk.2) (.string t417)) (fun _ hk => hk.2) (.string t418)) (fun _ hk => hk.2) (.int .i64 t419)) (fun _ hk => hk.2) (.int .i64 t420)) (fun _ hk => hk.2) (.int .i64 t421)) (fun _ hk => hk.2) (.bool t422)) (fun _ hk => hk.2) (.int .i64 t423)) (fun _ hk => hk.2) (.string t424)) (fun _ hk => hk.2) (.string t425)) (fun _ h_ => h_.1))) (Kd.R_base ho0) hb); replace HO393 := Aside0.mk (Kd.S_elder' (by (with_reducible repeat (first | apply Kd.S_alloc | apply Kd.S_drewN | apply Kd.S_drew)); exact (Kd.S_mono (Kd.S_far (p := ⟨gb426, 13, none⟩) (Kd.S_far (p := ⟨gb426, 12, none⟩) (Kd.S_far (p := ⟨gb426, 11, none⟩) (Kd.S_far (p := ⟨gb426, 10, none⟩) (Kd.S_far (p := ⟨gb426, 9, none⟩) (Kd.S_far (p := ⟨gb426, 8, none⟩) (Kd.S_far (p := ⟨gb426, 7, none⟩) (Kd.S_far (p := ⟨gb426, 6, none⟩) (Kd.S_far (p := ⟨gb426, 5, none⟩) (Kd.S_far (p := ⟨gb426, 4, none⟩) (Kd.S_far (p := ⟨gb426, 3, none⟩) (Kd.S_far (p := ⟨gb426, 2, none⟩) (Kd.S_far (p := ⟨gb426, 1, none⟩) (Kd.S_far (p := ⟨gb426, 0, none⟩) (Kd.S_types HO393.out BK426.out (by decide)) (fun _ hk => hk.2) (.string t408)) (fun _ hk => hk.2) (.int .i64 t409)) (fun _ hk => hk.2) (.slice Ao25 t410.length co25)) (fun _ hk => hk.2) (.slice Ao26 t413.length co26)) (fun _ hk => hk.2) (.string t416)) (fun _ hk => hk.2) (.string t417)) (fun _ hk => hk.2) (.string t418)) (fun _ hk => hk.2) (.int .i64 t419)) (fun _ hk => hk.2) (.int .i64 t420)) (fun _ hk => hk.2) (.int .i64 t421)) (fun _ hk => hk.2) (.bool t422)) (fun _ hk => hk.2) (.int .i64 t423)) (fun _ hk => hk.2) (.string t424)) (fun _ hk => hk.2) (.string t425)) (fun _ h_ => h_.1))) (Kd.R_base ho0) hb); replace HO412 := Aside0.mk (Kd.S_elder' au0 (Kd.R_base ho0) hb); replace HO415 := Aside0.mk (Kd.S_elder' au1 (Kd.R_base ho0) hb); have HO429 := Aside0.mk (Kd.R_lower (Kd.R_new' ho0 (Kd.R_lt au2)) (below_size au12)); replace HO406 := Aside0.mk (Kd.R_elder' au2 (Kd.R_base ho0) hb); replace BK384 := Aside0.mk (blk_below (g := gb384) (o := .cells #[.string a0_0, .int .i64 a0_1, .slice A0_2 l0_2.length c0_2, .slice A0_3 l0_3.length c0_3, .string a0_4, .string a0_5, .string a0_6, .int .i64 a0_7, .int .i64 a0_8, .int .i64 a0_9, .bool a0_10, .int .i64 a0_11, .string a0_12, .string a0_13] 26 (0, 0)) (by (with_reducible repeat (first | refine blk_drewN ?_ _ | refine blk_drew ?_ | refine blk_alloc ?_ _)); refine blk_far ?_ NB384_426.out _; (with_reducible repeat (first | refine blk_drewN ?_ _ | refine blk_drew ?_ | refine blk_alloc ?_ _)); refine blk_far ?_ NB384_426.out _; (with_reducible repeat (first | refine blk_drewN ?_ _ | refine blk_drew ?_ | refine blk_alloc ?_ _)); refine blk_far ?_ NB384_426.out _; (with_reducible repeat (first | refine blk_drewN ?_ _ | refine blk_drew ?_ | refine blk_alloc ?_ _)); refine blk_far ?_ NB384_426.out _; (with_reducible repeat (first | refine blk_drewN ?_ _ | refine blk_drew ?_ | refine blk_alloc ?_ _)); refine blk_far ?_ NB384_426.out _; (with_reducible repeat (first | refine blk_drewN ?_ _ | refine blk_drew ?_ | refine blk_alloc ?_ _)); refine blk_far ?_ NB384_426.out _; (with_reducible repeat (first | refine blk_drewN ?_ _ | refine blk_drew ?_ | refine blk_alloc ?_ _)); refine blk_far ?_ NB384_426.out _; (with_reducible repeat (first | refine blk_drewN ?_ _ | refine blk_drew ?_ | refine blk_alloc ?_ _)); refine blk_far ?_ NB384_426.out _; (with_reducible repeat (first | refine blk_drewN ?_ _ | refine blk_drew ?_ | refine blk_alloc ?_ _)); refine blk_far ?_ NB384_426.out _; (with_reducible repeat (first | refine blk_drewN ?_ _ | refine blk_drew ?_ | refine blk_alloc ?_ _)); refine blk_far ?_ NB384_426.out _; (with_reducible repeat (first | refine blk_drewN ?_ _ | refine blk_drew ?_ | refine blk_alloc ?_ _)); refine blk_far ?_ NB384_426.out _; (with_reducible repeat (first | refine blk_drewN ?_ _ | refine blk_drew ?_ | refine blk_alloc ?_ _)); refine blk_far ?_ NB384_426.out _; (with_reducible repeat (first | refine blk_drewN ?_ _ | refine blk_drew ?_ | refine blk_alloc ?_ _)); refine blk_far ?_ NB384_426.out _; (with_reducible repeat (first | refine blk_drewN ?_ _ | refine blk_drew ?_ | refine blk_alloc ?_ _)); refine blk_far ?_ NB384_426.out _; (with_reducible repeat (first | refine blk_drewN ?_ _ | refine blk_drew ?_ | refine blk_alloc ?_ _)); exact BK384.out) hb); replace BK426 := Aside0.mk (blk_below (g := gb426) (o := .cells #[.string t408, .int .i64 t409, .slice Ao25 t410.length co25, .slice Ao26 t413.length co26, .string t416, .string t417, .string t418, .int .i64 t419, .int .i64 t420, .int .i64 t421, .bool t422, .int .i64 t423, .string t424, .string t425] 34 (0, 0)) (by (with_reducible repeat (first | refine blk_drewN ?_ _ | refine blk_drew ?_ | refine blk_alloc ?_ _)); refine blk_put (cs := #[.string t408, .int .i64 t409, .slice Ao25 t410.length co25, .slice Ao26 t413.length co26, .string t416, .string t417, .string t418, .int .i64 t419, .int .i64 t420, .int .i64 t421, .bool t422, .int .i64 t423, .string t424, .string (⟨#[]⟩ : ByteArray)]) ?_ 13 _ rfl; (with_reducible repeat (first | refine blk_drewN ?_ _ | refine blk_drew ?_ | refine blk_alloc ?_ _)); refine blk_put (cs := #[.string t408, .int .i64 t409, .slice Ao25 t410.length co25, .slice Ao26 t413.length co26, .string t416, .string t417, .string t418, .int .i64 t419, .int .i64 t420, .int .i64 t421, .bool t422, .int .i64 t423, .string (⟨#[]⟩ : ByteArray), .string (⟨#[]⟩ : ByteArray)]) ?_ 12 _ rfl; (with_reducible repeat (first | refine blk_drewN ?_ _ | refine blk_drew ?_ | refine blk_alloc ?_ _)); refine blk_put (cs := #[.string t408, .int .i64 t409, .slice Ao25 t410.length co25, .slice Ao26 t413.length co26, .string t416, .string t417, .string t418, .int .i64 t419, .int .i64 t420, .int .i64 t421, .bool t422, .int .i64 0, .string (⟨#[]⟩ : ByteArray), .string (⟨#[]⟩ : ByteArray)]) ?_ 11 _ rfl; (with_reducible repeat (first | refine blk_drewN ?_ _ | refine blk_drew ?_ | refine blk_alloc ?_ _)); refine blk_put (cs := #[.string t408, .int .i64 t409, .slice Ao25 t410.length co25, .slice Ao26 t413.length co26, .string t416, .string t417, .string t418, .int .i64 t419, .int .i64 t420, .int .i64 t421, .bool false, .int .i64 0, .string (⟨#[]⟩ : ByteArray), .string (⟨#[]⟩ : ByteArray)]) ?_ 10 _ rfl; (with_reducible repeat (first | refine blk_drewN ?_ _ | refine blk_drew ?_ | refine blk_alloc ?_ _)); refine blk_put (cs := #[.string t408, .int .i64 t409, .slice Ao25 t410.length co25, .slice Ao26 t413.length co26, .string t416, .string t417, .string t418, .int .i64 t419, .int .i64 t420, .int .i64 0, .bool false, .int .i64 0, .string (⟨#[]⟩ : ByteArray), .string (⟨#[]⟩ : ByteArray)]) ?_ 9 _ rfl; (with_reducible repeat (first | refine blk_drewN ?_ _ | refine blk_drew ?_ | refine blk_alloc ?_ _)); refine blk_put (cs := #[.string t408, .int .i64 t409, .slice Ao25 t410.length co25, .slice Ao26 t413.length co26, .string t416, .string t417, .string t418, .int .i64 t419, .int .i64 0, .int .i64 0, .bool false, .int .i64 0, .string (⟨#[]⟩ : ByteArray), .string (⟨#[]⟩ : ByteArray)]) ?_ 8 _ rfl; (with_reducible repeat (first | refine blk_drewN ?_ _ | refine blk_drew ?_ | refine blk_alloc ?_ _)); refine blk_put (cs := #[.string t408, .int .i64 t409, .slice Ao25 t410.length co25, .slice Ao26 t413.length co26, .string t416, .string t417, .string t418, .int .i64 0, .int .i64 0, .int .i64 0, .bool false, .int .i64 0, .string (⟨#[]⟩ : ByteArray), .string (⟨#[]⟩ : ByteArray)]) ?_ 7 _ rfl; (with_reducible repeat (first | refine blk_drewN ?_ _ | refine blk_drew ?_ | refine blk_alloc ?_ _)); refine blk_put (cs := #[.string t408, .int .i64 t409, .slice Ao25 t410.length co25, .slice Ao26 t413.length co26, .string t416, .string t417, .string (⟨#[]⟩ : ByteArray), .int .i64 0, .int .i64 0, .int .i64 0, .bool false, .int .i64 0, .string (⟨#[]⟩ : ByteArray), .string (⟨#[]⟩ : ByteArray)]) ?_ 6 _ rfl; (with_reducible repeat (first | refine blk_drewN ?_ _ | refine blk_drew ?_ | refine blk_alloc ?_ _)); refine blk_put (cs := #[.string t408, .int .i64 t409, .slice Ao25 t410.length co25, .slice Ao26 t413.length co26, .string t416, .string (⟨#[]⟩ : ByteArray), .string (⟨#[]⟩ : ByteArray), .int .i64 0, .int .i64 0, .int .i64 0, .bool false, .int .i64 0, .string (⟨#[]⟩ : ByteArray), .string (⟨#[]⟩ : ByteArray)]) ?_ 5 _ rfl; (with_reducible repeat (first | refine blk_drewN ?_ _ | refine blk_drew ?_ | refine blk_alloc ?_ _)); refine blk_put (cs := #[.string t408, .int .i64 t409, .slice Ao25 t410.length co25, .slice Ao26 t413.length co26, .string (⟨#[]⟩ : ByteArray), .string (⟨#[]⟩ : ByteArray), .string (⟨#[]⟩ : ByteArray), .int .i64 0, .int .i64 0, .int .i64 0, .bool false, .int .i64 0, .string (⟨#[]⟩ : ByteArray), .string (⟨#[]⟩ : ByteArray)]) ?_ 4 _ rfl; (with_reducible repeat (first | refine blk_drewN ?_ _ | refine blk_drew ?_ | refine blk_alloc ?_ _)); refine blk_put (cs := #[.string t408, .int .i64 t409, .slice Ao25 t410.length co25, .slice none 0 0, .string (⟨#[]⟩ : ByteArray), .string (⟨#[]⟩ : ByteArray), .string (⟨#[]⟩ : ByteArray), .int .i64 0, .int .i64 0, .int .i64 0, .bool false, .int .i64 0, .string (⟨#[]⟩ : ByteArray), .string (⟨#[]⟩ : ByteArray)]) ?_ 3 _ rfl; (with_reducible repeat (first | refine blk_drewN ?_ _ | refine blk_drew ?_ | refine blk_alloc ?_ _)); refine blk_put (cs := #[.string t408, .int .i64 t409, .slice none 0 0, .slice none 0 0, .string (⟨#[]⟩ : ByteArray), .string (⟨#[]⟩ : ByteArray), .string (⟨#[]⟩ : ByteArray), .int .i64 0, .int .i64 0, .int .i64 0, .bool false, .int .i64 0, .string (⟨#[]⟩ : ByteArray), .string (⟨#[]⟩ : ByteArray)]) ?_ 2 _ rfl; (with_reducible repeat (first | refine blk_drewN ?_ _ | refine blk_drew ?_ | refine blk_alloc ?_ _)); refine blk_put (cs := #[.string t408, .int .i64 0, .slice none 0 0, .slice none 0 0, .string (⟨#[]⟩ : ByteArray), .string (⟨#[]⟩ : ByteArray), .string (⟨#[]⟩ : ByteArray), .int .i64 0, .int .i64 0, .int .i64 0, .bool false, .int .i64 0, .string (⟨#[]⟩ : ByteArray), .string (⟨#[]⟩ : ByteArray)]) ?_ 1 _ rfl; (with_reducible repeat (first | refine blk_drewN ?_ _ | refine blk_drew ?_ | refine blk_alloc ?_ _)); refine blk_put (cs := #[.string (⟨#[]⟩ : ByteArray), .int .i64 0, .slice none 0 0, .slice none 0 0, .string (⟨#[]⟩ : ByteArray), .string (⟨#[]⟩ : ByteArray), .string (⟨#[]⟩ : ByteArray), .int .i64 0, .int .i64 0, .int .i64 0, .bool false, .int .i64 0, .string (⟨#[]⟩ : ByteArray), .string (⟨#[]⟩ : ByteArray)]) ?_ 0 _ rfl; (with_reducible repeat (first | refine blk_drewN ?_ _ | refine blk_drew ?_ | refine blk_alloc ?_ _)); exact BK426.out) hb); replace HB := Aside0.mk (below_step au12 hb); (try clear hb); (try clear ho0)))
  (try simp only [Act.put, List.setIfInBounds_toArray, List.set_cons_zero, List.set_cons_succ])
  go_cut [40] (fun v40 wc => ∃ (kq : Nat) (x40_10 : Bool), v40 = .bool x40_10 ∧ Aside0 (laws_FnExactMissingFields.j0 kq t404 t407 t427 t430 x40_10 a0_0 a0_1 l0_2 l0_3 a0_4 a0_5 a0_6 a0_7 a0_8 a0_9 a0_10 a0_11 a0_12 a0_13 t408 t409 t410 t413 t416 t417 t418 t419 t420 t421 t422 t423 t424 t425 = some r) ∧ Aside0 (kq ≤ k) ∧ Aside0 (Kd.R Kd.string 9 wc w.heap.size (fun k_ => some k_ ≠ (v428 : Value).ownBlock) v405 t404) ∧ Aside0 (Kd.R Kd.string 9 wc w.heap.size (fun k_ => some k_ ≠ (v405 : Value).ownBlock) v428 t427) ∧ Aside0 (Kd.S k60 60 wc w.heap.size (fun k_ => some k_ ≠ (v405 : Value).ownBlock ∧ some k_ ≠ (v428 : Value).ownBlock ∧ some k_ ≠ ((.slice Ao26 t413.length co26) : Value).ownBlock) (.slice Ao25 t410.length co25) t410) ∧ Aside0 (Kd.S k60 60 wc w.heap.size (fun k_ => some k_ ≠ (v405 : Value).ownBlock ∧ some k_ ≠ (v428 : Value).ownBlock ∧ some k_ ≠ ((.slice Ao25 t410.length co25) : Value).ownBlock) (.slice Ao26 t413.length co26) t413) ∧ Aside0 (wc.heap[gb384]? = some (.cells #[.string a0_0, .int .i64 a0_1, (.slice A0_2 l0_2.length c0_2), (.slice A0_3 l0_3.length c0_3), .string a0_4, .string a0_5, .string a0_6, .int .i64 a0_7, .int .i64 a0_8, .int .i64 a0_9, .bool a0_10, .int .i64 a0_11, .string a0_12, .string a0_13] 26 (0, 0))) ∧ Aside0 (wc.heap[gb426]? = some (.cells #[.string t408, .int .i64 t409, (.slice Ao25 t410.length co25), (.slice Ao26 t413.length co26), .string t416, .string t417, .string t418, .int .i64 t419, .int .i64 t420, .int .i64 t421, .bool t422, .int .i64 t423, .string t424, .string t425] 34 (0, 0))) ∧ Aside0 (Below w.heap.size w wc))
  case first =>
   have H := HC11.out
   clear HC11
   replace H := Option.bind_eq_some_iff.mp H
   obtain ⟨t431, A280, H⟩ := H
   try dsimp only at H
   have A28 := Aside0.mk A280
   clear A280
   by_cases c29 : t431 = true
   ·
    subst c29
    replace H := (if_pos rfl).symm.trans H
    have H' := Aside0.mk H
    clear H
    obtain ⟨Ao30, co30, eo30⟩ := Kd.R_slice HO429.out
    subst eo30
    obtain ⟨Ao31, co31, eo31⟩ := Kd.R_slice HO406.out
    subst eo31
    exact laws_FnExactMissingFields.L0
   ·
    replace c29 := Bool.eq_false_iff.mpr c29
    subst c29
    replace H := (if_neg (show ¬ (false = true) by decide)).symm.trans H
    have H' := Aside0.mk H
    clear H
    obtain ⟨Ao32, co32, eo32⟩ := Kd.R_slice HO429.out
    subst eo32
    obtain ⟨Ao33, co33, eo33⟩ := Kd.R_slice HO406.out
    subst eo33
    go_wp2_with (first | ((with_reducible refine gate_callee (f := 8) rfl ?_); refine goesL_ (some 34) rfl rfl Tryz.func8 (by kernel_rfl) rfl #[.slice Ao32 t427.length co32, .slice Ao33 t404.length co33] rfl au38 ?_; (with_reducible refine (laws_eqStringS.calls k _ _ t427 _ _ t404 _ _ ?side1 ?side2 ?side3 ?side4 A28.out).mono ?_); (case side1 => repeat (first | exact (Kd.R_reads' HO429.out).2.2 | (with_reducible refine Kd.C_alloc ?_ _) | (with_reducible refine Kd.C_drewN ?_ _) | (with_reducible refine Kd.C_drew ?_))); (case side2 => exact (Kd.R_reads' HO429.out).2.1); (case side3 => repeat (first | exact (Kd.R_reads' HO406.out).2.2 | (with_reducible refine Kd.C_alloc ?_ _) | (with_reducible refine Kd.C_drewN ?_ _) | (with_reducible refine Kd.C_drew ?_))); (case side4 => exact (Kd.R_reads' HO406.out).2.1); rintro e w' ⟨rfl, ⟨nd, rfl⟩⟩; refine ⟨_, rfl, ?_⟩))
    go_meet
    case rel => exact ⟨_, (true), au82, H', ⟨by first | omega | exact Nat.le_refl _⟩, ⟨by (with_reducible repeat (first | apply Kd.R_alloc | apply Kd.R_drewN | apply Kd.R_drew)); exact Kd.R_mono HO406.out (fun _ hk => hk.2)⟩, ⟨by (with_reducible repeat (first | apply Kd.R_alloc | apply Kd.R_drewN | apply Kd.R_drew)); exact Kd.R_mono HO429.out (fun _ hk => hk.2)⟩, ⟨by (with_reducible repeat (first | apply Kd.S_alloc | apply Kd.S_drewN | apply Kd.S_drew)); exact Kd.S_mono HO412.out (fun _ hk => ⟨hk.1.2, ⟨hk.2, hk.1.1.1.1⟩⟩)⟩, ⟨by (with_reducible repeat (first | apply Kd.S_alloc | apply Kd.S_drewN | apply Kd.S_drew)); exact Kd.S_mono HO415.out (fun _ hk => ⟨hk.1.2, ⟨hk.2, hk.1.1.1.1⟩⟩)⟩, ⟨by (with_reducible repeat (first | refine blk_drewN ?_ _ | refine blk_drew ?_ | refine blk_alloc ?_ _)); exact BK384.out⟩, ⟨by (with_reducible repeat (first | refine blk_drewN ?_ _ | refine blk_drew ?_ | refine blk_alloc ?_ _)); exact BK426.out⟩, ⟨by repeat (first | (with_reducible first | exact HB.out | apply below_alloc | apply pw_below_drewN | apply below_drew1 | refine below_set ?_ GE384.out | refine below_set ?_ GE426.out) | exact HB.out)⟩⟩
  case rest =>
   clear HC11
   try clear c2
   try clear p2
   try clear c3
   try clear c3b0
   try clear c4
   try clear c5
   try clear c6
   try clear c7
   try clear c8
   try clear c23
   try clear c29
   try clear hcz13_0
   try clear hcz13_1
   try clear hcz13_10
   try clear hcz13_11
   try clear hcz13_12
   try clear hcz13_13
   try clear hcz13_2
   try clear hcz13_3
   try clear hcz13_4
   try clear hcz13_5
   try clear hcz13_6
   try clear hcz13_7
   try clear hcz13_8
   try clear hcz13_9
   try clear hcz15_0
   try clear hcz15_1
   try clear hcz15_10
   try clear hcz15_11
   try clear hcz15_12
   try clear hcz15_13
   try clear hcz15_2
   try clear hcz15_3
   try clear hcz15_4
   try clear hcz15_5
   try clear hcz15_6
   try clear hcz15_7
   try clear hcz15_8
   try clear hcz15_9
   try clear hcz20_0
   try clear hcz20_1
   try clear hcz20_10
   try clear hcz20_11
   try clear hcz20_12
   try clear hcz20_13
   try clear hcz20_2
   try clear hcz20_3
   try clear hcz20_4
   try clear hcz20_5
   try clear hcz20_6
   try clear hcz20_7
   try clear hcz20_8
   try clear hcz20_9
   try clear hcz24_0
   try clear hcz24_1
   try clear hcz24_10
   try clear hcz24_11
   try clear hcz24_12
   try clear hcz24_13
   try clear hcz24_2
   try clear hcz24_3
   try clear hcz24_4
   try clear hcz24_5
   try clear hcz24_6
   try clear hcz24_7
   try clear hcz24_8
   try clear hcz24_9
   try clear hcz5_0
   try clear hcz5_1
   try clear hcz5_10
   try clear hcz5_11
   try clear hcz5_12
   try clear hcz5_13
   try clear hcz5_2
   try clear hcz5_3
   try clear hcz5_4
   try clear hcz5_5
   try clear hcz5_6
   try clear hcz5_7
   try clear hcz5_8
   try clear hcz5_9
   try clear hfz13_0
   try clear hfz13_1
   try clear hfz13_10
   try clear hfz13_11
   try clear hfz13_12
   try clear hfz13_13
   try clear hfz13_2
   try clear hfz13_3
   try clear hfz13_4
   try clear hfz13_5
   try clear hfz13_6
   try clear hfz13_7
   try clear hfz13_8
   try clear hfz13_9
   try clear hfz15_0
   try clear hfz15_1
   try clear hfz15_10
   try clear hfz15_11
   try clear hfz15_12
   try clear hfz15_13
   try clear hfz15_2
   try clear hfz15_3
   try clear hfz15_4
   try clear hfz15_5
   try clear hfz15_6
   try clear hfz15_7
   try clear hfz15_8
   try clear hfz15_9
   try clear hfz20_0
   try clear hfz20_1
   try clear hfz20_10
   try clear hfz20_11
   try clear hfz20_12
   try clear hfz20_13
   try clear hfz20_2
   try clear hfz20_3
   try clear hfz20_4
   try clear hfz20_5
   try clear hfz20_6
   try clear hfz20_7
   try clear hfz20_8
   try clear hfz20_9
   try clear hfz24_0
   try clear hfz24_1
   try clear hfz24_10
   try clear hfz24_11
   try clear hfz24_12
   try clear hfz24_13
   try clear hfz24_2
   try clear hfz24_3
   try clear hfz24_4
   try clear hfz24_5
   try clear hfz24_6
   try clear hfz24_7
   try clear hfz24_8
   try clear hfz24_9
   try clear hfz5_0
   try clear hfz5_1
   try clear hfz5_10
   try clear hfz5_11
   try clear hfz5_12
   try clear hfz5_13
   try clear hfz5_2
   try clear hfz5_3
   try clear hfz5_4
   try clear hfz5_5
   try clear hfz5_6
   try clear hfz5_7
   try clear hfz5_8
   try clear hfz5_9
   obtain ⟨kq, x40_10, rfl, HA, HJ10, HO_4, HO_7, HO_427002, HO_427003, BK384, BK426, HB⟩ := hcut
   cases kq with
   | zero => exact absurd HA.out (by simp [laws_FnExactMissingFields.j0])
   | succ kj10 =>
    have H := HA.out
    clear HA
    simp only [laws_FnExactMissingFields.j0] at H
    by_cases c34 : x40_10 = true
    ·
     subst c34
     replace H := (if_pos rfl).symm.trans H
     exact absurd ((Option.some.inj H).trans HRT.out) (by simp)
    ·
     replace c34 := Bool.eq_false_iff.mpr c34
     subst c34
     replace H := (if_neg (show ¬ (false = true) by decide)).symm.trans H
     replace H := Option.bind_eq_some_iff.mp H
     obtain ⟨⟨t432, t433, t434, t437, t440, t441, t442, t443, t444, t445, t446, t447, t448, t449⟩, A350, H⟩ := H
     replace H : ((laws_eqEntry.f kj10 t408 t409 t410 t413 t416 t417 t418 t419 t420 t421 t422 t423 t424 t425 t432 t433 t434 t437 t440 t441 t442 t443 t444 t445 t446 t447 t448 t449).bind fun t450 => (if t450 = true then ((laws_markEntry.f t408 t409 t410 t413 t416 t417 t418 t419 t420 t421 t422 t423 t424 t425 1).bind fun t451 => (if t451 < 0 then (laws_FnExactMissingFields.j1 kj10 t404 t407 t427 true a0_0 a0_1 l0_2 l0_3 a0_4 a0_5 a0_6 a0_7 a0_8 a0_9 a0_10 a0_11 a0_12 a0_13) else ((laws_eqStringS.f kj10 t427 t404).bind fun t452 => (if t452 = true then (laws_FnExactMissingFields.j1 kj10 t404 t407 t427 (t430 != t407) a0_0 a0_1 l0_2 l0_3 a0_4 a0_5 a0_6 a0_7 a0_8 a0_9 a0_10 a0_11 a0_12 a0_13) else (laws_FnExactMissingFields.j1 kj10 t404 t407 t427 true a0_0 a0_1 l0_2 l0_3 a0_4 a0_5 a0_6 a0_7 a0_8 a0_9 a0_10 a0_11 a0_12 a0_13))))) else (some false))) = some r := H
     have A35 := Aside0.mk A350
     clear A350
     replace H := Option.bind_eq_some_iff.mp H
     obtain ⟨t450, A360, H⟩ := H
     try dsimp only at H
     have A36 := Aside0.mk A360
     clear A360
     by_cases c37 : t450 = true
     ·
      subst c37
      replace H := (if_pos rfl).symm.trans H
      replace H := Option.bind_eq_some_iff.mp H
      obtain ⟨t451, A380, H⟩ := H
      try dsimp only at H
      have A38 := Aside0.mk A380
      clear A380
      have HC39 := Aside0.mk H
      clear H
      try go_wp2
      replace HO_4 := Aside0.mk (Kd.R_drew HO_4.out)
      replace HO_7 := Aside0.mk (Kd.R_drew HO_7.out)
      replace HO_427002 := Aside0.mk (Kd.S_drew HO_427002.out)
      replace HO_427003 := Aside0.mk (Kd.S_drew HO_427003.out)
      replace BK384 := Aside0.mk (blk_drew BK384.out)
      replace BK426 := Aside0.mk (blk_drew BK426.out)
      replace HB := Aside0.mk (below_drew1 HB.out)
      refine start_ (n := 5) (S := fun w' => w'.cell? ⟨gb426, 0, none⟩ = some (.string t408) ∧ w'.cell? ⟨gb426, 1, none⟩ = some (.int .i64 t409) ∧ w'.cell? ⟨gb426, 2, none⟩ = some (.slice Ao25 t410.length co25) ∧ w'.cell? ⟨gb426, 3, none⟩ = some (.slice Ao26 t413.length co26) ∧ w'.cell? ⟨gb426, 4, none⟩ = some (.string t416) ∧ w'.cell? ⟨gb426, 5, none⟩ = some (.string t417) ∧ w'.cell? ⟨gb426, 6, none⟩ = some (.string t418) ∧ w'.cell? ⟨gb426, 7, none⟩ = some (.int .i64 t419) ∧ w'.cell? ⟨gb426, 8, none⟩ = some (.int .i64 t420) ∧ w'.cell? ⟨gb426, 9, none⟩ = some (.int .i64 t421) ∧ w'.cell? ⟨gb426, 10, none⟩ = some (.bool t422) ∧ w'.cell? ⟨gb426, 11, none⟩ = some (.int .i64 t423) ∧ w'.cell? ⟨gb426, 12, none⟩ = some (.string t424) ∧ w'.cell? ⟨gb426, 13, none⟩ = some (.string t425) ∧ w'.cell? ⟨gb384, 0, none⟩ = some (.string a0_0) ∧ w'.cell? ⟨gb384, 1, none⟩ = some (.int .i64 a0_1) ∧ w'.cell? ⟨gb384, 2, none⟩ = some (.slice A0_2 l0_2.length c0_2) ∧ w'.cell? ⟨gb384, 3, none⟩ = some (.slice A0_3 l0_3.length c0_3) ∧ w'.cell? ⟨gb384, 4, none⟩ = some (.string a0_4) ∧ w'.cell? ⟨gb384, 5, none⟩ = some (.string a0_5) ∧ w'.cell? ⟨gb384, 6, none⟩ = some (.string a0_6) ∧ w'.cell? ⟨gb384, 7, none⟩ = some (.int .i64 a0_7) ∧ w'.cell? ⟨gb384, 8, none⟩ = some (.int .i64 a0_8) ∧ w'.cell? ⟨gb384, 9, none⟩ = some (.int .i64 a0_9) ∧ w'.cell? ⟨gb384, 10, none⟩ = some (.bool a0_10) ∧ w'.cell? ⟨gb384, 11, none⟩ = some (.int .i64 a0_11) ∧ w'.cell? ⟨gb384, 12, none⟩ = some (.string a0_12) ∧ w'.cell? ⟨gb384, 13, none⟩ = some (.string a0_13)) (ds := []) #[false, false, false, false, false] (by kernel_rfl) rfl rfl ⟨(blk_cell BK426.out 0).trans rfl, (blk_cell BK426.out 1).trans rfl, (blk_cell BK426.out 2).trans rfl, (blk_cell BK426.out 3).trans rfl, (blk_cell BK426.out 4).trans rfl, (blk_cell BK426.out 5).trans rfl, (blk_cell BK426.out 6).trans rfl, (blk_cell BK426.out 7).trans rfl, (blk_cell BK426.out 8).trans rfl, (blk_cell BK426.out 9).trans rfl, (blk_cell BK426.out 10).trans rfl, (blk_cell BK426.out 11).trans rfl, (blk_cell BK426.out 12).trans rfl, (blk_cell BK426.out 13).trans rfl, (blk_cell BK384.out 0).trans rfl, (blk_cell BK384.out 1).trans rfl, (blk_cell BK384.out 2).trans rfl, (blk_cell BK384.out 3).trans rfl, (blk_cell BK384.out 4).trans rfl, (blk_cell BK384.out 5).trans rfl, (blk_cell BK384.out 6).trans rfl, (blk_cell BK384.out 7).trans rfl, (blk_cell BK384.out 8).trans rfl, (blk_cell BK384.out 9).trans rfl, (blk_cell BK384.out 10).trans rfl, (blk_cell BK384.out 11).trans rfl, (blk_cell BK384.out 12).trans rfl, (blk_cell BK384.out 13).trans rfl⟩ (fun hHeld => ?_)
      generalize wc.drew = w40 at HO_4 HO_7 HO_427002 HO_427003 BK384 BK426 HB hHeld ⊢
      refine take_ (i := 0) (N := some 41) (v := ?_) (a' := ?_) #[true, false, false, false, false] rfl rfl (by kernel_rfl) (fun _ _ _ h => h) (Or.inl ⟨by rfl, ?_⟩) hHeld ?_ ?_
      rotate_left
      ·
       rintro w' ⟨s0, s1, s2, s3, s4, s5, s6, s7, s8, s9, s10, s11, s12, s13, s14, s15, s16, s17, s18, s19, s20, s21, s22, s23, s24, s25, s26, s27⟩
       go_simp
       with_reducible rfl
      rotate_left
      ·
       simp only [Act.put, List.setIfInBounds_toArray, List.set_cons_zero, List.set_cons_succ, i64_w, i32_w]
       rfl
      refine take_ (i := 1) (N := some 42) (v := ?_) (a' := ?_) #[true, true, false, false, false] rfl rfl (by kernel_rfl) (fun _ _ _ h => h) (Or.inl ⟨by rfl, ?_⟩) hHeld ?_ ?_
      rotate_left
      ·
       rintro w' ⟨s0, s1, s2, s3, s4, s5, s6, s7, s8, s9, s10, s11, s12, s13, s14, s15, s16, s17, s18, s19, s20, s21, s22, s23, s24, s25, s26, s27⟩
       go_simp
       with_reducible rfl
      rotate_left
      ·
       simp only [Act.put, List.setIfInBounds_toArray, List.set_cons_zero, List.set_cons_succ, i64_w, i32_w]
       rfl
      refine one_ (i := 2) (N := some 43) #[true, true, true, false, false] rfl rfl (by kernel_rfl) (by decide) (fun K hK => ?_)
      refine gs_ Tryz.func6 #[.agg #[.string a0_0, .int .i64 a0_1, .slice A0_2 l0_2.length c0_2, .slice A0_3 l0_3.length c0_3, .string a0_4, .string a0_5, .string a0_6, .int .i64 a0_7, .int .i64 a0_8, .int .i64 a0_9, .bool a0_10, .int .i64 a0_11, .string a0_12, .string a0_13]] ?_
      with_reducible refine (laws_toEntry.calls kj10 a0_0 a0_1 _ _ l0_2 _ _ l0_3 a0_4 a0_5 a0_6 a0_7 a0_8 a0_9 a0_10 a0_11 a0_12 a0_13 t432 t433 t434 t437 t440 t441 t442 t443 t444 t445 t446 t447 t448 t449 _ ?side1 ?side2 ?side3 ?side4 A35.out).mono ?_
      (case side1 => repeat (first | exact (Kd.C_below HR0_2.out HB.out) | (with_reducible refine Kd.C_alloc ?_ _) | (with_reducible refine Kd.C_drewN ?_ _) | (with_reducible refine Kd.C_drew ?_)))
      (case side2 => exact HC0_2.out)
      (case side3 => repeat (first | exact (Kd.C_below HR0_3.out HB.out) | (with_reducible refine Kd.C_alloc ?_ _) | (with_reducible refine Kd.C_drewN ?_ _) | (with_reducible refine Kd.C_drew ?_)))
      (case side4 => exact HC0_3.out)
      rintro e w41 ⟨v435, v438, rfl, ho0, ho1, hb⟩
      refine ⟨_, rfl, ?_⟩
      have HO436 := Aside0.mk (Kd.S_lower (Kd.S_new' (Kd.S_new' (Kd.S_new' (Kd.S_new' ho0 (Kd.R_lt au77)) (Kd.R_lt au79)) (Kd.S_lt au68)) (Kd.S_lt au69)) (below_size au12))
      have HO439 := Aside0.mk (Kd.S_lower (Kd.S_new' (Kd.S_new' (Kd.S_new' (Kd.S_new' ho1 (Kd.R_lt au77)) (Kd.R_lt au79)) (Kd.S_lt au68)) (Kd.S_lt au69)) (below_size au12))
      replace HO_4 := Aside0.mk (Kd.R_below au77 hb)
      replace HO_7 := Aside0.mk (Kd.R_below au79 hb)
      replace HO_427002 := Aside0.mk (Kd.S_mono (Kd.S_told (Kd.S_told (Kd.S_old au68 hb) (Kd.S_base ho0)) (Kd.S_base ho1)) (fun _ h_ => h_.1))
      replace HO_427003 := Aside0.mk (Kd.S_mono (Kd.S_told (Kd.S_told (Kd.S_old au69 hb) (Kd.S_base ho0)) (Kd.S_base ho1)) (fun _ h_ => h_.1))
      replace BK384 := Aside0.mk (blk_below (g := gb384) au66 hb)
      replace BK426 := Aside0.mk (blk_below (g := gb426) au67 hb)
      replace HB := Aside0.mk (below_step au12 hb)
      (try clear hb)
      (try clear ho0)
      (try clear ho1)
      obtain ⟨Ao42, co42, eo42⟩ := Kd.S_slice HO436.out
      (first | subst eo42 | (injection eo42 with f1_ f2_ f3_; have f4_ := f1_.symm; have f5_ := f3_.symm; clear f1_ f2_ f3_; subst f4_; subst f5_))
      obtain ⟨Ao43, co43, eo43⟩ := Kd.S_slice HO439.out
      (first | subst eo43 | (injection eo43 with f1_ f2_ f3_; have f4_ := f1_.symm; have f5_ := f3_.symm; clear f1_ f2_ f3_; subst f4_; subst f5_))
      refine hK.out _ _ ⟨(blk_cell BK426.out 0).trans rfl, (blk_cell BK426.out 1).trans rfl, (blk_cell BK426.out 2).trans rfl, (blk_cell BK426.out 3).trans rfl, (blk_cell BK426.out 4).trans rfl, (blk_cell BK426.out 5).trans rfl, (blk_cell BK426.out 6).trans rfl, (blk_cell BK426.out 7).trans rfl, (blk_cell BK426.out 8).trans rfl, (blk_cell BK426.out 9).trans rfl, (blk_cell BK426.out 10).trans rfl, (blk_cell BK426.out 11).trans rfl, (blk_cell BK426.out 12).trans rfl, (blk_cell BK426.out 13).trans rfl, (blk_cell BK384.out 0).trans rfl, (blk_cell BK384.out 1).trans rfl, (blk_cell BK384.out 2).trans rfl, (blk_cell BK384.out 3).trans rfl, (blk_cell BK384.out 4).trans rfl, (blk_cell BK384.out 5).trans rfl, (blk_cell BK384.out 6).trans rfl, (blk_cell BK384.out 7).trans rfl, (blk_cell BK384.out 8).trans rfl, (blk_cell BK384.out 9).trans rfl, (blk_cell BK384.out 10).trans rfl, (blk_cell BK384.out 11).trans rfl, (blk_cell BK384.out 12).trans rfl, (blk_cell BK384.out 13).trans rfl⟩ (fun hHeld => ?_)
      clear hK K
      refine no_ (some 43) ?_
      refine one_ (i := 3) (N := some 44) #[true, true, true, true, false] rfl rfl (by kernel_rfl) (by decide) (fun K hK => ?_)
      refine gs_ Tryz.func9 #[.agg #[.string t408, .int .i64 t409, .slice Ao25 t410.length co25, .slice Ao26 t413.length co26, .string t416, .string t417, .string t418, .int .i64 t419, .int .i64 t420, .int .i64 t421, .bool t422, .int .i64 t423, .string t424, .string t425], .agg #[.string t432, .int .i64 t433, .slice Ao42 t434.length co42, .slice Ao43 t437.length co43, .string t440, .string t441, .string t442, .int .i64 t443, .int .i64 t444, .int .i64 t445, .bool t446, .int .i64 t447, .string t448, .string t449]] ?_
      with_reducible refine (laws_eqEntry.calls kj10 t408 t409 _ _ t410 _ _ t413 t416 t417 t418 t419 t420 t421 t422 t423 t424 t425 t432 t433 _ _ t434 _ _ t437 t440 t441 t442 t443 t444 t445 t446 t447 t448 t449 _ _ ?side1 ?side2 ?side3 ?side4 ?side5 ?side6 ?side7 ?side8 A36.out).mono ?_
      (case side1 => repeat (first | exact (Kd.S_reads' HO_427002.out).2.2 | (with_reducible refine Kd.C_alloc ?_ _) | (with_reducible refine Kd.C_drewN ?_ _) | (with_reducible refine Kd.C_drew ?_)))
      (case side2 => exact (Kd.S_reads' HO_427002.out).2.1)
      (case side3 => repeat (first | exact (Kd.S_reads' HO_427003.out).2.2 | (with_reducible refine Kd.C_alloc ?_ _) | (with_reducible refine Kd.C_drewN ?_ _) | (with_reducible refine Kd.C_drew ?_)))
      (case side4 => exact (Kd.S_reads' HO_427003.out).2.1)
      (case side5 => repeat (first | exact (Kd.S_reads' HO436.out).2.2 | (with_reducible refine Kd.C_alloc ?_ _) | (with_reducible refine Kd.C_drewN ?_ _) | (with_reducible refine Kd.C_drew ?_)))
      (case side6 => exact (Kd.S_reads' HO436.out).2.1)
      (case side7 => repeat (first | exact (Kd.S_reads' HO439.out).2.2 | (with_reducible refine Kd.C_alloc ?_ _) | (with_reducible refine Kd.C_drewN ?_ _) | (with_reducible refine Kd.C_drew ?_)))
      (case side8 => exact (Kd.S_reads' HO439.out).2.1)
      rintro e w44 ⟨rfl, hb⟩
      refine ⟨_, rfl, ?_⟩
      replace HO_4 := Aside0.mk (Kd.R_below au77 hb)
      replace HO_7 := Aside0.mk (Kd.R_below au79 hb)
      replace HO_427002 := Aside0.mk (Kd.S_below au68 hb)
      replace HO_427003 := Aside0.mk (Kd.S_below au69 hb)
      replace HO436 := Aside0.mk (Kd.S_below (by (with_reducible repeat (first | apply Kd.S_alloc | apply Kd.S_drewN | apply Kd.S_drew)); exact HO436.out) hb)
      replace HO439 := Aside0.mk (Kd.S_below (by (with_reducible repeat (first | apply Kd.S_alloc | apply Kd.S_drewN | apply Kd.S_drew)); exact HO439.out) hb)
      replace BK384 := Aside0.mk (blk_below (g := gb384) au66 hb)
      replace BK426 := Aside0.mk (blk_below (g := gb426) au67 hb)
      replace HB := Aside0.mk (below_step au12 hb)
      (try clear hb)
      refine hK.out _ _ ⟨(blk_cell BK426.out 0).trans rfl, (blk_cell BK426.out 1).trans rfl, (blk_cell BK426.out 2).trans rfl, (blk_cell BK426.out 3).trans rfl, (blk_cell BK426.out 4).trans rfl, (blk_cell BK426.out 5).trans rfl, (blk_cell BK426.out 6).trans rfl, (blk_cell BK426.out 7).trans rfl, (blk_cell BK426.out 8).trans rfl, (blk_cell BK426.out 9).trans rfl, (blk_cell BK426.out 10).trans rfl, (blk_cell BK426.out 11).trans rfl, (blk_cell BK426.out 12).trans rfl, (blk_cell BK426.out 13).trans rfl, (blk_cell BK384.out 0).trans rfl, (blk_cell BK384.out 1).trans rfl, (blk_cell BK384.out 2).trans rfl, (blk_cell BK384.out 3).trans rfl, (blk_cell BK384.out 4).trans rfl, (blk_cell BK384.out 5).trans rfl, (blk_cell BK384.out 6).trans rfl, (blk_cell BK384.out 7).trans rfl, (blk_cell BK384.out 8).trans rfl, (blk_cell BK384.out 9).trans rfl, (blk_cell BK384.out 10).trans rfl, (blk_cell BK384.out 11).trans rfl, (blk_cell BK384.out 12).trans rfl, (blk_cell BK384.out 13).trans rfl⟩ (fun hHeld => ?_)
      clear hK K
      refine no_ (some 44) ?_
      refine pure_ (i := 4) (N := some 45) (v := ?_) (a' := ?_) #[true, true, true, true, true] rfl rfl (by kernel_rfl) (fun _ _ _ h => h) (Or.inl ⟨by rfl, ?_⟩) ?_ ?_
      rotate_left
      ·
       intro w'
       go_simp
       with_reducible rfl
      rotate_left
      ·
       simp only [Act.put, List.setIfInBounds_toArray, List.set_cons_zero, List.set_cons_succ, i64_w, i32_w]
       rfl
      refine done_ (by kernel_rfl) ?_
      have hnb45 := NB426_384.out
      have hnc45 := NB384_426.out
      obtain ⟨hcz46_0, hcz46_1, hcz46_2, hcz46_3, hcz46_4, hcz46_5, hcz46_6, hcz46_7, hcz46_8, hcz46_9, hcz46_10, hcz46_11, hcz46_12, hcz46_13, hfz46_0, hfz46_1, hfz46_2, hfz46_3, hfz46_4, hfz46_5, hfz46_6, hfz46_7, hfz46_8, hfz46_9, hfz46_10, hfz46_11, hfz46_12, hfz46_13⟩ := blkc14 BK426.out
      go_upto_region 14 with (first | ((with_reducible refine gate_callee (f := 10) rfl ?_); refine goesL_ (some 48) rfl rfl Tryz.func10 (by kernel_rfl) rfl #[.agg #[.string t408, .int .i64 t409, .slice Ao25 t410.length co25, .slice Ao26 t413.length co26, .string t416, .string t417, .string t418, .int .i64 t419, .int .i64 t420, .int .i64 t421, .bool t422, .int .i64 t423, .string t424, .string t425], .int .i64 1] rfl au38 ?_; have HQ0_ := Aside0.mk (Kd.R_types (Kd.R_types (Kd.S_R HO_427002.out) BK384.out (by decide)) BK426.out (by decide)); have HQ1_ := Aside0.mk (Kd.R_types (Kd.R_types (Kd.S_R HO_427003.out) BK384.out (by decide)) BK426.out (by decide)); (with_reducible refine (laws_markEntry.calls HQ0_.out HQ1_.out t408 t409 t416 t417 t418 t419 t420 t421 t422 t423 t424 t425 1 t451 _ ?side1 ?side2 ?side3 A38.out).mono ?_); (case side1 => (with_reducible repeat (first | apply Kd.R_alloc | apply Kd.R_drewN | apply Kd.R_drew)); exact HQ0_.out); (case side2 => (with_reducible repeat (first | apply Kd.R_alloc | apply Kd.R_drewN | apply Kd.R_drew)); exact HQ1_.out); (case side3 => exact Below.size (show Below w.heap.size w _ from au12)); rintro e w47 ⟨rfl, hb, hs⟩; refine ⟨_, rfl, ?_⟩; have hk := hs.kept; obtain ⟨m0_, hr0_, _⟩ := S_sim simK_name HO_427002.out (hs.of_heap rfl); obtain ⟨m1_, hr1_, _⟩ := S_sim simK_name HO_427003.out (hs.of_heap rfl); have n0_ := Aside0.mk (R_kept_flat rfl au77 hk (fun k_ hP => Or.elim hP (fun hP => hP.1.1.1.1.1) (fun hP => hP.1.1.1.1.1))); have n1_ := Aside0.mk (R_kept_flat rfl au79 hk (fun k_ hP => Or.elim hP (fun hP => hP.1.1.1.1.2.1) (fun hP => hP.1.1.1.1.2.1))); have n2_ := Aside0.mk (hr0_); have n3_ := Aside0.mk (hr1_); have n4_ := Aside0.mk (blk_keptP (g := gb384) (o := .cells #[.string a0_0, .int .i64 a0_1, .slice A0_2 l0_2.length c0_2, .slice A0_3 l0_3.length c0_3, .string a0_4, .string a0_5, .string a0_6, .int .i64 a0_7, .int .i64 a0_8, .int .i64 a0_9, .bool a0_10, .int .i64 a0_11, .string a0_12, .string a0_13] 26 (0, 0)) au66 hk (fun hP => Or.elim hP (fun hP => hP.1.2 rfl) (fun hP => hP.1.2 rfl))); have n5_ := Aside0.mk (blk_keptP (g := gb426) (o := .cells #[.string t408, .int .i64 t409, .slice Ao25 t410.length co25, .slice Ao26 t413.length co26, .string t416, .string t417, .string t418, .int .i64 t419, .int .i64 t420, .int .i64 t421, .bool t422, .int .i64 t423, .string t424, .string t425] 34 (0, 0)) au67 hk (fun hP => Or.elim hP (fun hP => hP.2 rfl) (fun hP => hP.2 rfl))); have n6_ := Aside0.mk (Below.trans (show Below w.heap.size w _ from au12) hb); clear HO_4; clear HO_7; clear HO_427002; clear HO_427003; clear HO436; clear HO439; clear BK384; clear BK426; clear HB; have HO_4 := n0_; have HO_7 := n1_; have HO_427002 := n2_; have HO_427003 := n3_; have BK384 := n4_; have BK426 := n5_; have HB := n6_; clear n0_ n1_ n2_ n3_ n4_ n5_ n6_ HQ0_ HQ1_; (try clear hb); (try clear hk); (try clear hs); clear hr0_; clear hr1_))
      (try simp only [Act.put, List.setIfInBounds_toArray, List.set_cons_zero, List.set_cons_succ])
      go_cut [61] (fun v61 wc => ∃ (kq : Nat) (x61_38 : Bool), v61 = .bool x61_38 ∧ Aside0 (laws_FnExactMissingFields.j1 kq t404 t407 t427 x61_38 a0_0 a0_1 l0_2 l0_3 a0_4 a0_5 a0_6 a0_7 a0_8 a0_9 a0_10 a0_11 a0_12 a0_13 = some r) ∧ Aside0 (kq ≤ kj10) ∧ Aside0 (Kd.R Kd.string 9 wc w.heap.size (fun k_ => some k_ ≠ (v428 : Value).ownBlock) v405 t404) ∧ Aside0 (Kd.R Kd.string 9 wc w.heap.size (fun k_ => some k_ ≠ (v405 : Value).ownBlock) v428 t427) ∧ Aside0 (Kd.S k60 60 wc w.heap.size (fun k_ => some k_ ≠ (v405 : Value).ownBlock ∧ some k_ ≠ (v428 : Value).ownBlock ∧ some k_ ≠ ((.slice Ao26 t413.length co26) : Value).ownBlock) (.slice Ao25 t410.length co25) m0_) ∧ Aside0 (Kd.S k60 60 wc w.heap.size (fun k_ => some k_ ≠ (v405 : Value).ownBlock ∧ some k_ ≠ (v428 : Value).ownBlock ∧ some k_ ≠ ((.slice Ao25 t410.length co25) : Value).ownBlock) (.slice Ao26 t413.length co26) m1_) ∧ Aside0 (wc.heap[gb384]? = some (.cells #[.string a0_0, .int .i64 a0_1, (.slice A0_2 l0_2.length c0_2), (.slice A0_3 l0_3.length c0_3), .string a0_4, .string a0_5, .string a0_6, .int .i64 a0_7, .int .i64 a0_8, .int .i64 a0_9, .bool a0_10, .int .i64 a0_11, .string a0_12, .string a0_13] 26 (0, 0))) ∧ Aside0 (wc.heap[gb426]? = some (.cells #[.string t408, .int .i64 t409, (.slice Ao25 t410.length co25), (.slice Ao26 t413.length co26), .string t416, .string t417, .string t418, .int .i64 t419, .int .i64 t420, .int .i64 t421, .bool t422, .int .i64 t423, .string t424, .string t425] 34 (0, 0))) ∧ Aside0 (Below w.heap.size w wc))
      case first =>
       have H := HC39.out
       clear HC39
       by_cases c48 : t451 < 0
       ·
        rw [if_pos c48] at H
        have c48b0 : decide (t451 < 0) = true := decide_eq_true c48
        clear c48
        (first | rw [c48b0] | (simp only [i64_w, i32_w]; rw [c48b0]) | skip)
        have H' := Aside0.mk H
        clear H
        exact laws_FnExactMissingFields.L0
       ·
        rw [if_neg c48] at H
        have c48b0 : decide (t451 < 0) = false := decide_eq_false c48
        clear c48
        (first | rw [c48b0] | (simp only [i64_w, i32_w]; rw [c48b0]) | skip)
        replace H := Option.bind_eq_some_iff.mp H
        obtain ⟨t452, A490, H⟩ := H
        try dsimp only at H
        have A49 := Aside0.mk A490
        clear A490
        by_cases c50 : t452 = true
        ·
         subst c50
         replace H := (if_pos rfl).symm.trans H
         have H' := Aside0.mk H
         clear H
         obtain ⟨Ao51, co51, eo51⟩ := Kd.R_slice HO_7.out
         subst eo51
         obtain ⟨Ao52, co52, eo52⟩ := Kd.R_slice HO_4.out
         subst eo52
         exact laws_FnExactMissingFields.L2
        ·
         replace c50 := Bool.eq_false_iff.mpr c50
         subst c50
         replace H := (if_neg (show ¬ (false = true) by decide)).symm.trans H
         have H' := Aside0.mk H
         clear H
         obtain ⟨Ao53, co53, eo53⟩ := Kd.R_slice HO_7.out
         subst eo53
         obtain ⟨Ao54, co54, eo54⟩ := Kd.R_slice HO_4.out
         subst eo54
         exact laws_FnExactMissingFields.L2
      case rest =>
       clear HC39
       try clear c1
       try clear c2
       try clear p2
       try clear c3
       try clear c3b0
       try clear c4
       try clear c5
       try clear c6
       try clear c7
       try clear c8
       try clear c9
       try clear c10
       try clear c23
       try clear c29
       try clear c34
       try clear c37
       try clear c45
       try clear c48
       try clear c48b0
       try clear c50
       try clear hcz13_0
       try clear hcz13_1
       try clear hcz13_10
       try clear hcz13_11
       try clear hcz13_12
       try clear hcz13_13
       try clear hcz13_2
       try clear hcz13_3
       try clear hcz13_4
       try clear hcz13_5
       try clear hcz13_6
       try clear hcz13_7
       try clear hcz13_8
       try clear hcz13_9
       try clear hcz15_0
       try clear hcz15_1
       try clear hcz15_10
       try clear hcz15_11
       try clear hcz15_12
       try clear hcz15_13
       try clear hcz15_2
       try clear hcz15_3
       try clear hcz15_4
       try clear hcz15_5
       try clear hcz15_6
       try clear hcz15_7
       try clear hcz15_8
       try clear hcz15_9
       try clear hcz20_0
       try clear hcz20_1
       try clear hcz20_10
       try clear hcz20_11
       try clear hcz20_12
       try clear hcz20_13
       try clear hcz20_2
       try clear hcz20_3
       try clear hcz20_4
       try clear hcz20_5
       try clear hcz20_6
       try clear hcz20_7
       try clear hcz20_8
       try clear hcz20_9
       try clear hcz24_0
       try clear hcz24_1
       try clear hcz24_10
       try clear hcz24_11
       try clear hcz24_12
       try clear hcz24_13
       try clear hcz24_2
       try clear hcz24_3
       try clear hcz24_4
       try clear hcz24_5
       try clear hcz24_6
       try clear hcz24_7
       try clear hcz24_8
       try clear hcz24_9
       try clear hcz46_0
       try clear hcz46_1
       try clear hcz46_10
       try clear hcz46_11
       try clear hcz46_12
       try clear hcz46_13
       try clear hcz46_2
       try clear hcz46_3
       try clear hcz46_4
       try clear hcz46_5
       try clear hcz46_6
       try clear hcz46_7
       try clear hcz46_8
       try clear hcz46_9
       try clear hcz5_0
       try clear hcz5_1
       try clear hcz5_10
       try clear hcz5_11
       try clear hcz5_12
       try clear hcz5_13
       try clear hcz5_2
       try clear hcz5_3
       try clear hcz5_4
       try clear hcz5_5
       try clear hcz5_6
       try clear hcz5_7
       try clear hcz5_8
       try clear hcz5_9
       try clear hfz13_0
       try clear hfz13_1
       try clear hfz13_10
       try clear hfz13_11
       try clear hfz13_12
       try clear hfz13_13
       try clear hfz13_2
       try clear hfz13_3
       try clear hfz13_4
       try clear hfz13_5
       try clear hfz13_6
       try clear hfz13_7
       try clear hfz13_8
       try clear hfz13_9
       try clear hfz15_0
       try clear hfz15_1
       try clear hfz15_10
       try clear hfz15_11
       try clear hfz15_12
       try clear hfz15_13
       try clear hfz15_2
       try clear hfz15_3
       try clear hfz15_4
       try clear hfz15_5
       try clear hfz15_6
       try clear hfz15_7
       try clear hfz15_8
       try clear hfz15_9
       try clear hfz20_0
       try clear hfz20_1
       try clear hfz20_10
       try clear hfz20_11
       try clear hfz20_12
       try clear hfz20_13
       try clear hfz20_2
       try clear hfz20_3
       try clear hfz20_4
       try clear hfz20_5
       try clear hfz20_6
       try clear hfz20_7
       try clear hfz20_8
       try clear hfz20_9
       try clear hfz24_0
       try clear hfz24_1
       try clear hfz24_10
       try clear hfz24_11
       try clear hfz24_12
       try clear hfz24_13
       try clear hfz24_2
       try clear hfz24_3
       try clear hfz24_4
       try clear hfz24_5
       try clear hfz24_6
       try clear hfz24_7
       try clear hfz24_8
       try clear hfz24_9
       try clear hfz46_0
       try clear hfz46_1
       try clear hfz46_10
       try clear hfz46_11
       try clear hfz46_12
       try clear hfz46_13
       try clear hfz46_2
       try clear hfz46_3
       try clear hfz46_4
       try clear hfz46_5
       try clear hfz46_6
       try clear hfz46_7
       try clear hfz46_8
       try clear hfz46_9
       try clear hfz5_0
       try clear hfz5_1
       try clear hfz5_10
       try clear hfz5_11
       try clear hfz5_12
       try clear hfz5_13
       try clear hfz5_2
       try clear hfz5_3
       try clear hfz5_4
       try clear hfz5_5
       try clear hfz5_6
       try clear hfz5_7
       try clear hfz5_8
       try clear hfz5_9
       try clear p2
       obtain ⟨kq, x61_38, rfl, HA, HJ38, HO_4, HO_7, HO_427002, HO_427003, BK384, BK426, HB⟩ := hcut
       cases kq with
       | zero => exact absurd HA.out (by simp [laws_FnExactMissingFields.j1])
       | succ kj38 =>
        have H := HA.out
        clear HA
        simp only [laws_FnExactMissingFields.j1] at H
        by_cases c55 : x61_38 = true
        ·
         subst c55
         replace H := (if_pos rfl).symm.trans H
         exact absurd ((Option.some.inj H).trans HRT.out) (by simp)
        ·
         replace c55 := Bool.eq_false_iff.mpr c55
         subst c55
         replace H := (if_neg (show ¬ (false = true) by decide)).symm.trans H
         replace H := Option.bind_eq_some_iff.mp H
         obtain ⟨⟨t453, t454⟩, A560, H⟩ := H
         replace H : ((laws_heldStringS.f kj38 t454 1).bind fun t455 => (if t455 < 0 then (some false) else (if t455 = t453 then ((laws_toEntry.f kj38 a0_0 a0_1 l0_2 l0_3 a0_4 a0_5 a0_6 a0_7 a0_8 a0_9 a0_10 a0_11 a0_12 a0_13).bind fun bt456 => ((impl_MissingFields.f kj38 bt456.1 bt456.2.1 bt456.2.2.1 bt456.2.2.2.1 bt456.2.2.2.2.1 bt456.2.2.2.2.2.1 bt456.2.2.2.2.2.2.1 bt456.2.2.2.2.2.2.2.1 bt456.2.2.2.2.2.2.2.2.1 bt456.2.2.2.2.2.2.2.2.2.1 bt456.2.2.2.2.2.2.2.2.2.2.1 bt456.2.2.2.2.2.2.2.2.2.2.2.1 bt456.2.2.2.2.2.2.2.2.2.2.2.2.1 bt456.2.2.2.2.2.2.2.2.2.2.2.2.2).bind fun bt474 => ((laws_eqStringS.f kj38 bt474.1 t404).bind fun t478 => (if t478 = true then (laws_FnExactMissingFields.j2 kj38 t454 t453 (bt474.2 != t407)) else (laws_FnExactMissingFields.j2 kj38 t454 t453 true))))) else (some false)))) = some r := H
         have A56 := Aside0.mk A560
         clear A560
         replace H := Option.bind_eq_some_iff.mp H
         obtain ⟨t455, A570, H⟩ := H
         try dsimp only at H
         have A57 := Aside0.mk A570
         clear A570
         by_cases c58 : t455 < 0
         ·
          rw [if_pos c58] at H
          have c58b0 : decide (t455 < 0) = true := decide_eq_true c58
          clear c58
          exact absurd ((Option.some.inj H).trans HRT.out) (by simp)
         ·
          rw [if_neg c58] at H
          have c58b0 : decide (t455 < 0) = false := decide_eq_false c58
          clear c58
          by_cases c62 : t455 = t453
          ·
           rw [if_pos c62] at H
           have c62b0 : (t455 == t453) = true := beq_iff_eq.mpr c62
           have c62b1 : (t455 != t453) = false := bne_eq_false_iff_eq.mpr c62
           clear c62
           replace H := Option.bind_eq_some_iff.mp H
           obtain ⟨⟨t456, t457, t458, t461, t464, t465, t466, t467, t468, t469, t470, t471, t472, t473⟩, A630, H⟩ := H
           replace H : ((impl_MissingFields.f kj38 t456 t457 t458 t461 t464 t465 t466 t467 t468 t469 t470 t471 t472 t473).bind fun bt474 => ((laws_eqStringS.f kj38 bt474.1 t404).bind fun t478 => (if t478 = true then (laws_FnExactMissingFields.j2 kj38 t454 t453 (bt474.2 != t407)) else (laws_FnExactMissingFields.j2 kj38 t454 t453 true)))) = some r := H
           have A63 := Aside0.mk A630
           clear A630
           replace H := Option.bind_eq_some_iff.mp H
           obtain ⟨⟨t474, t477⟩, A640, H⟩ := H
           replace H : ((laws_eqStringS.f kj38 t474 t404).bind fun t478 => (if t478 = true then (laws_FnExactMissingFields.j2 kj38 t454 t453 (t477 != t407)) else (laws_FnExactMissingFields.j2 kj38 t454 t453 true))) = some r := H
           have A64 := Aside0.mk A640
           clear A640
           have HC65 := Aside0.mk H
           clear H
           obtain ⟨Ao66, co66, eo66⟩ := Kd.R_slice HO_7.out
           subst eo66
           go_upto_region 25 with (first | ((with_reducible refine gate_callee (f := 11) rfl ?_); refine goesL_ (some 64) rfl rfl Tryz.func11 (by kernel_rfl) rfl #[.slice Ao66 t427.length co66, .int .i64 1] rfl au38 ?_; (with_reducible refine (laws_markStringS.calls kj38 (fun k_ => some k_ = (.slice Ao66 t427.length co66 : Value).ownBlock) (.slice Ao66 t427.length co66) t427 1 t453 t454 w _ ?side1 ?side2 A56.out).mono ?_); (case side1 => repeat (first | (with_reducible first | exact HB.out | apply below_alloc | apply pw_below_drewN | apply below_drew1 | refine below_set ?_ GE384.out | refine below_set ?_ GE426.out) | exact HB.out)); (case side2 => exact Kd.R_tight rfl HO_7.out); rintro e w67 ⟨rfl, hy0, hb, hkp⟩; refine ⟨_, rfl, ?_⟩; replace HO_4 := Aside0.mk (Kd.R_mono (ok' := fun k_ => some k_ ≠ (.slice Ao66 t427.length co66 : Value).ownBlock) (Kd.R_keptB (HO_4.out) hkp (fun k_ hk_ hs_ => (hk_) hs_)) (fun k_ hk_ => hk_.1)); replace HO_427002 := Aside0.mk (Kd.S_mono (ok' := fun k_ => some k_ ≠ (v405 : Value).ownBlock ∧ some k_ ≠ (.slice Ao66 t427.length co66 : Value).ownBlock ∧ some k_ ≠ (.slice Ao26 t413.length co26 : Value).ownBlock) (Kd.S_keptB (HO_427002.out) hkp (fun k_ hk_ hs_ => (hk_.2.1) hs_)) (fun k_ hk_ => ⟨hk_.1.1, hk_.1.2.1, hk_.1.2.2⟩)); replace HO_427003 := Aside0.mk (Kd.S_mono (ok' := fun k_ => some k_ ≠ (v405 : Value).ownBlock ∧ some k_ ≠ (.slice Ao66 t427.length co66 : Value).ownBlock ∧ some k_ ≠ (.slice Ao25 t410.length co25 : Value).ownBlock) (Kd.S_keptB (HO_427003.out) hkp (fun k_ hk_ hs_ => (hk_.2.1) hs_)) (fun k_ hk_ => ⟨hk_.1.1, hk_.1.2.1, hk_.1.2.2⟩)); replace BK384 := Aside0.mk (blk_kept au66 hkp (fun hs_ => (fun e_ => (Kd.R_ne HO_7.out BK384.out (by decide)) e_) hs_)); replace BK426 := Aside0.mk (blk_kept au67 hkp (fun hs_ => (fun e_ => (Kd.R_ne HO_7.out BK426.out (by decide)) e_) hs_)); replace HO_7 := Aside0.mk (Kd.R_reok rfl hy0 (fun k_ e_ => HO_7.out.1 k_ e_)); replace HB := Aside0.mk (hb); (try clear hb); (try clear hkp); (try clear hy0)) | ((with_reducible refine gate_callee (f := 12) rfl ?_); refine goesL_ (some 67) rfl rfl Tryz.func12 (by kernel_rfl) rfl #[.slice Ao66 t454.length co66, .int .i64 1] rfl au7 ?_; (with_reducible refine (laws_heldStringS.calls kj38 _ _ t454 1 t455 _ ?side1 ?side2 A57.out).mono ?_); (case side1 => repeat (first | exact (Kd.R_reads' HO_7.out).2.2 | (with_reducible refine Kd.C_alloc ?_ _) | (with_reducible refine Kd.C_drewN ?_ _) | (with_reducible refine Kd.C_drew ?_))); (case side2 => rw [show t454.length = t427.length from (Kd.R_reads' HO_7.out).1.symm]; exact (Kd.R_reads' HO_7.out).2.1); rintro e w68 ⟨rfl, hb⟩; refine ⟨_, rfl, ?_⟩; replace HO_4 := Aside0.mk (Kd.R_below au77 hb); replace HO_7 := Aside0.mk (Kd.R_below au79 hb); replace HO_427002 := Aside0.mk (Kd.S_below au68 hb); replace HO_427003 := Aside0.mk (Kd.S_below au69 hb); replace BK384 := Aside0.mk (blk_below (g := gb384) au66 hb); replace BK426 := Aside0.mk (blk_below (g := gb426) au67 hb); replace HB := Aside0.mk (below_step au12 hb); (try clear hb); have hnb69 := NB384_426.out; have hnc69 := NB426_384.out; obtain ⟨hcz70_0, hcz70_1, hcz70_2, hcz70_3, hcz70_4, hcz70_5, hcz70_6, hcz70_7, hcz70_8, hcz70_9, hcz70_10, hcz70_11, hcz70_12, hcz70_13, hfz70_0, hfz70_1, hfz70_2, hfz70_3, hfz70_4, hfz70_5, hfz70_6, hfz70_7, hfz70_8, hfz70_9, hfz70_10, hfz70_11, hfz70_12, hfz70_13⟩ := blkc14 BK384.out) | ((with_reducible refine gate_callee (f := 6) rfl ?_); refine goesL_ (some 75) rfl rfl Tryz.func6 (by kernel_rfl) rfl #[.agg #[.string a0_0, .int .i64 a0_1, .slice A0_2 l0_2.length c0_2, .slice A0_3 l0_3.length c0_3, .string a0_4, .string a0_5, .string a0_6, .int .i64 a0_7, .int .i64 a0_8, .int .i64 a0_9, .bool a0_10, .int .i64 a0_11, .string a0_12, .string a0_13]] rfl au38 ?_; (with_reducible refine (laws_toEntry.calls kj38 a0_0 a0_1 _ _ l0_2 _ _ l0_3 a0_4 a0_5 a0_6 a0_7 a0_8 a0_9 a0_10 a0_11 a0_12 a0_13 t456 t457 t458 t461 t464 t465 t466 t467 t468 t469 t470 t471 t472 t473 _ ?side1 ?side2 ?side3 ?side4 A63.out).mono ?_); (case side1 => repeat (first | exact (Kd.C_below HR0_2.out HB.out) | (with_reducible refine Kd.C_alloc ?_ _) | (with_reducible refine Kd.C_drewN ?_ _) | (with_reducible refine Kd.C_drew ?_))); (case side2 => exact HC0_2.out); (case side3 => repeat (first | exact (Kd.C_below HR0_3.out HB.out) | (with_reducible refine Kd.C_alloc ?_ _) | (with_reducible refine Kd.C_drewN ?_ _) | (with_reducible refine Kd.C_drew ?_))); (case side4 => exact HC0_3.out); rintro e w71 ⟨v459, v462, rfl, ho0, ho1, hb⟩; refine ⟨_, rfl, ?_⟩; have HO460 := Aside0.mk (Kd.S_lower (Kd.S_new' (Kd.S_new' (Kd.S_new' (Kd.S_new' ho0 (Kd.R_lt au77)) (Kd.R_lt au79)) (Kd.S_lt au68)) (Kd.S_lt au69)) (below_size au12)); have HO463 := Aside0.mk (Kd.S_lower (Kd.S_new' (Kd.S_new' (Kd.S_new' (Kd.S_new' ho1 (Kd.R_lt au77)) (Kd.R_lt au79)) (Kd.S_lt au68)) (Kd.S_lt au69)) (below_size au12)); replace HO_4 := Aside0.mk (Kd.R_below au77 hb); replace HO_7 := Aside0.mk (Kd.R_below au79 hb); replace HO_427002 := Aside0.mk (Kd.S_mono (Kd.S_told (Kd.S_told (Kd.S_old au68 hb) (Kd.S_base ho0)) (Kd.S_base ho1)) (fun _ h_ => h_.1)); replace HO_427003 := Aside0.mk (Kd.S_mono (Kd.S_told (Kd.S_told (Kd.S_old au69 hb) (Kd.S_base ho0)) (Kd.S_base ho1)) (fun _ h_ => h_.1)); replace BK384 := Aside0.mk (blk_below (g := gb384) au66 hb); replace BK426 := Aside0.mk (blk_below (g := gb426) au67 hb); replace HB := Aside0.mk (below_step au12 hb); (try clear hb); (try clear ho0); (try clear ho1); obtain ⟨Ao72, co72, eo72⟩ := Kd.S_slice HO460.out; subst eo72; obtain ⟨Ao73, co73, eo73⟩ := Kd.S_slice HO463.out; subst eo73) | ((with_reducible refine gate_callee (f := 7) rfl ?_); refine goesL_ (some 76) rfl rfl Tryz.func7 (by kernel_rfl) rfl #[.agg #[.string t456, .int .i64 t457, .slice Ao72 t458.length co72, .slice Ao73 t461.length co73, .string t464, .string t465, .string t466, .int .i64 t467, .int .i64 t468, .int .i64 t469, .bool t470, .int .i64 t471, .string t472, .string t473]] rfl au38 ?_; (with_reducible refine (impl_MissingFields.calls (hG := au3) kj38 t456 t457 _ _ t458 _ _ t461 t464 t465 t466 t467 t468 t469 t470 t471 t472 t473 t474 t477 _ ?side1 ?side2 ?side3 ?side4 A64.out).mono ?_); (case side1 => repeat (first | exact (Kd.S_reads' HO460.out).2.2 | (with_reducible refine Kd.C_alloc ?_ _) | (with_reducible refine Kd.C_drewN ?_ _) | (with_reducible refine Kd.C_drew ?_))); (case side2 => exact (Kd.S_reads' HO460.out).2.1); (case side3 => repeat (first | exact (Kd.S_reads' HO463.out).2.2 | (with_reducible refine Kd.C_alloc ?_ _) | (with_reducible refine Kd.C_drewN ?_ _) | (with_reducible refine Kd.C_drew ?_))); (case side4 => exact (Kd.S_reads' HO463.out).2.1); rintro e w74 ⟨v475, rfl, ho0, hb⟩; refine ⟨_, rfl, ?_⟩; replace HO_427002 := Aside0.mk (Kd.S_elder' au68 (Kd.R_base ho0) hb); replace HO_427003 := Aside0.mk (Kd.S_elder' au69 (Kd.R_base ho0) hb); replace HO460 := Aside0.mk (Kd.S_elder' (by (with_reducible repeat (first | apply Kd.S_alloc | apply Kd.S_drewN | apply Kd.S_drew)); exact HO460.out) (Kd.R_base ho0) hb); replace HO463 := Aside0.mk (Kd.S_elder' (by (with_reducible repeat (first | apply Kd.S_alloc | apply Kd.S_drewN | apply Kd.S_drew)); exact HO463.out) (Kd.R_base ho0) hb); have HO476 := Aside0.mk (Kd.R_lower (Kd.R_new' (Kd.R_new' ho0 (Kd.R_lt au77)) (Kd.R_lt au79)) (below_size au12)); replace HO_4 := Aside0.mk (Kd.R_elder' au77 (Kd.R_base ho0) hb); replace HO_7 := Aside0.mk (Kd.R_elder' au79 (Kd.R_base ho0) hb); replace BK384 := Aside0.mk (blk_below (g := gb384) au66 hb); replace BK426 := Aside0.mk (blk_below (g := gb426) au67 hb); replace HB := Aside0.mk (below_step au12 hb); (try clear hb); (try clear ho0)))
           (try simp only [Act.put, List.setIfInBounds_toArray, List.set_cons_zero, List.set_cons_succ])
           go_cut [87] (fun v87 wc => ∃ (kq : Nat) (x87_64 : Bool), v87 = .bool x87_64 ∧ Aside0 (laws_FnExactMissingFields.j2 kq t454 t453 x87_64 = some r) ∧ Aside0 (kq ≤ kj38) ∧ Aside0 (Kd.R Kd.string 9 wc w.heap.size (fun _ => True) (.slice Ao66 t427.length co66) t454) ∧ Aside0 (Kd.S k60 60 wc w.heap.size (fun k_ => some k_ ≠ ((.slice Ao66 t427.length co66) : Value).ownBlock ∧ some k_ ≠ ((.slice Ao26 t413.length co26) : Value).ownBlock) (.slice Ao25 t410.length co25) m0_) ∧ Aside0 (Kd.S k60 60 wc w.heap.size (fun k_ => some k_ ≠ ((.slice Ao66 t427.length co66) : Value).ownBlock ∧ some k_ ≠ ((.slice Ao25 t410.length co25) : Value).ownBlock) (.slice Ao26 t413.length co26) m1_) ∧ Aside0 (wc.heap[gb384]? = some (.cells #[.string a0_0, .int .i64 a0_1, (.slice A0_2 l0_2.length c0_2), (.slice A0_3 l0_3.length c0_3), .string a0_4, .string a0_5, .string a0_6, .int .i64 a0_7, .int .i64 a0_8, .int .i64 a0_9, .bool a0_10, .int .i64 a0_11, .string a0_12, .string a0_13] 26 (0, 0))) ∧ Aside0 (wc.heap[gb426]? = some (.cells #[.string t408, .int .i64 t409, (.slice Ao25 t410.length co25), (.slice Ao26 t413.length co26), .string t416, .string t417, .string t418, .int .i64 t419, .int .i64 t420, .int .i64 t421, .bool t422, .int .i64 t423, .string t424, .string t425] 34 (0, 0))) ∧ Aside0 (Below w.heap.size w wc))
           case first =>
            have H := HC65.out
            clear HC65
            replace H := Option.bind_eq_some_iff.mp H
            obtain ⟨t478, A750, H⟩ := H
            try dsimp only at H
            have A75 := Aside0.mk A750
            clear A750
            by_cases c76 : t478 = true
            ·
             subst c76
             replace H := (if_pos rfl).symm.trans H
             have H' := Aside0.mk H
             clear H
             obtain ⟨Ao77, co77, eo77⟩ := Kd.R_slice HO476.out
             subst eo77
             obtain ⟨Ao78, co78, eo78⟩ := Kd.R_slice HO_4.out
             subst eo78
             go_wp2_with (first | ((with_reducible refine gate_callee (f := 8) rfl ?_); refine goesL_ (some 81) rfl rfl Tryz.func8 (by kernel_rfl) rfl #[.slice Ao77 t474.length co77, .slice Ao78 t404.length co78] rfl au38 ?_; (with_reducible refine (laws_eqStringS.calls kj38 _ _ t474 _ _ t404 _ _ ?side1 ?side2 ?side3 ?side4 A75.out).mono ?_); (case side1 => repeat (first | exact (Kd.R_reads' HO476.out).2.2 | (with_reducible refine Kd.C_alloc ?_ _) | (with_reducible refine Kd.C_drewN ?_ _) | (with_reducible refine Kd.C_drew ?_))); (case side2 => exact (Kd.R_reads' HO476.out).2.1); (case side3 => repeat (first | exact (Kd.R_reads' HO_4.out).2.2 | (with_reducible refine Kd.C_alloc ?_ _) | (with_reducible refine Kd.C_drewN ?_ _) | (with_reducible refine Kd.C_drew ?_))); (case side4 => exact (Kd.R_reads' HO_4.out).2.1); rintro e w' ⟨rfl, ⟨nd, rfl⟩⟩; refine ⟨_, rfl, ?_⟩))
             go_meet
             case rel => exact ⟨_, ((t477 != t407)), au82, H', ⟨by have := HJ10.out; have := HJ38.out; first | omega | exact Nat.le_refl _⟩, ⟨by (with_reducible repeat (first | apply Kd.R_alloc | apply Kd.R_drewN | apply Kd.R_drew)); exact Kd.R_mono HO_7.out (fun _ hk => trivial)⟩, ⟨by (with_reducible repeat (first | apply Kd.S_alloc | apply Kd.S_drewN | apply Kd.S_drew)); exact Kd.S_mono HO_427002.out (fun _ hk => ⟨hk.1.1.1.2.1, hk.1.1.1.2.2⟩)⟩, ⟨by (with_reducible repeat (first | apply Kd.S_alloc | apply Kd.S_drewN | apply Kd.S_drew)); exact Kd.S_mono HO_427003.out (fun _ hk => ⟨hk.1.1.1.2.1, hk.1.1.1.2.2⟩)⟩, ⟨by (with_reducible repeat (first | refine blk_drewN ?_ _ | refine blk_drew ?_ | refine blk_alloc ?_ _)); exact BK384.out⟩, ⟨by (with_reducible repeat (first | refine blk_drewN ?_ _ | refine blk_drew ?_ | refine blk_alloc ?_ _)); exact BK426.out⟩, ⟨by repeat (first | (with_reducible first | exact HB.out | apply below_alloc | apply pw_below_drewN | apply below_drew1 | refine below_set ?_ GE384.out | refine below_set ?_ GE426.out) | exact HB.out)⟩⟩
            ·
             replace c76 := Bool.eq_false_iff.mpr c76
             subst c76
             replace H := (if_neg (show ¬ (false = true) by decide)).symm.trans H
             have H' := Aside0.mk H
             clear H
             obtain ⟨Ao79, co79, eo79⟩ := Kd.R_slice HO476.out
             subst eo79
             obtain ⟨Ao80, co80, eo80⟩ := Kd.R_slice HO_4.out
             subst eo80
             go_wp2_with (first | ((with_reducible refine gate_callee (f := 8) rfl ?_); refine goesL_ (some 81) rfl rfl Tryz.func8 (by kernel_rfl) rfl #[.slice Ao79 t474.length co79, .slice Ao80 t404.length co80] rfl au38 ?_; (with_reducible refine (laws_eqStringS.calls kj38 _ _ t474 _ _ t404 _ _ ?side1 ?side2 ?side3 ?side4 A75.out).mono ?_); (case side1 => repeat (first | exact (Kd.R_reads' HO476.out).2.2 | (with_reducible refine Kd.C_alloc ?_ _) | (with_reducible refine Kd.C_drewN ?_ _) | (with_reducible refine Kd.C_drew ?_))); (case side2 => exact (Kd.R_reads' HO476.out).2.1); (case side3 => repeat (first | exact (Kd.R_reads' HO_4.out).2.2 | (with_reducible refine Kd.C_alloc ?_ _) | (with_reducible refine Kd.C_drewN ?_ _) | (with_reducible refine Kd.C_drew ?_))); (case side4 => exact (Kd.R_reads' HO_4.out).2.1); rintro e w' ⟨rfl, ⟨nd, rfl⟩⟩; refine ⟨_, rfl, ?_⟩))
             go_meet
             case rel => exact ⟨_, (true), au82, H', ⟨by have := HJ10.out; have := HJ38.out; first | omega | exact Nat.le_refl _⟩, ⟨by (with_reducible repeat (first | apply Kd.R_alloc | apply Kd.R_drewN | apply Kd.R_drew)); exact Kd.R_mono HO_7.out (fun _ hk => trivial)⟩, ⟨by (with_reducible repeat (first | apply Kd.S_alloc | apply Kd.S_drewN | apply Kd.S_drew)); exact Kd.S_mono HO_427002.out (fun _ hk => ⟨hk.1.1.1.2.1, hk.1.1.1.2.2⟩)⟩, ⟨by (with_reducible repeat (first | apply Kd.S_alloc | apply Kd.S_drewN | apply Kd.S_drew)); exact Kd.S_mono HO_427003.out (fun _ hk => ⟨hk.1.1.1.2.1, hk.1.1.1.2.2⟩)⟩, ⟨by (with_reducible repeat (first | refine blk_drewN ?_ _ | refine blk_drew ?_ | refine blk_alloc ?_ _)); exact BK384.out⟩, ⟨by (with_reducible repeat (first | refine blk_drewN ?_ _ | refine blk_drew ?_ | refine blk_alloc ?_ _)); exact BK426.out⟩, ⟨by repeat (first | (with_reducible first | exact HB.out | apply below_alloc | apply pw_below_drewN | apply below_drew1 | refine below_set ?_ GE384.out | refine below_set ?_ GE426.out) | exact HB.out)⟩⟩
           case rest =>
            clear HC65
            try clear c1
            try clear c2
            try clear p2
            try clear c3
            try clear c3b0
            try clear c4
            try clear c5
            try clear c6
            try clear c7
            try clear c8
            try clear c9
            try clear c10
            try clear c11
            try clear c12
            try clear c23
            try clear c29
            try clear c34
            try clear c37
            try clear c45
            try clear c48
            try clear c48b0
            try clear c50
            try clear c55
            try clear c58
            try clear c58b0
            try clear c62
            try clear c62b0
            try clear c62b1
            try clear c69
            try clear c76
            try clear hcz13_0
            try clear hcz13_1
            try clear hcz13_10
            try clear hcz13_11
            try clear hcz13_12
            try clear hcz13_13
            try clear hcz13_2
            try clear hcz13_3
            try clear hcz13_4
            try clear hcz13_5
            try clear hcz13_6
            try clear hcz13_7
            try clear hcz13_8
            try clear hcz13_9
            try clear hcz15_0
            try clear hcz15_1
            try clear hcz15_10
            try clear hcz15_11
            try clear hcz15_12
            try clear hcz15_13
            try clear hcz15_2
            try clear hcz15_3
            try clear hcz15_4
            try clear hcz15_5
            try clear hcz15_6
            try clear hcz15_7
            try clear hcz15_8
            try clear hcz15_9
            try clear hcz20_0
            try clear hcz20_1
            try clear hcz20_10
            try clear hcz20_11
            try clear hcz20_12
            try clear hcz20_13
            try clear hcz20_2
            try clear hcz20_3
            try clear hcz20_4
            try clear hcz20_5
            try clear hcz20_6
            try clear hcz20_7
            try clear hcz20_8
            try clear hcz20_9
            try clear hcz24_0
            try clear hcz24_1
            try clear hcz24_10
            try clear hcz24_11
            try clear hcz24_12
            try clear hcz24_13
            try clear hcz24_2
            try clear hcz24_3
            try clear hcz24_4
            try clear hcz24_5
            try clear hcz24_6
            try clear hcz24_7
            try clear hcz24_8
            try clear hcz24_9
            try clear hcz46_0
            try clear hcz46_1
            try clear hcz46_10
            try clear hcz46_11
            try clear hcz46_12
            try clear hcz46_13
            try clear hcz46_2
            try clear hcz46_3
            try clear hcz46_4
            try clear hcz46_5
            try clear hcz46_6
            try clear hcz46_7
            try clear hcz46_8
            try clear hcz46_9
            try clear hcz5_0
            try clear hcz5_1
            try clear hcz5_10
            try clear hcz5_11
            try clear hcz5_12
            try clear hcz5_13
            try clear hcz5_2
            try clear hcz5_3
            try clear hcz5_4
            try clear hcz5_5
            try clear hcz5_6
            try clear hcz5_7
            try clear hcz5_8
            try clear hcz5_9
            try clear hcz70_0
            try clear hcz70_1
            try clear hcz70_10
            try clear hcz70_11
            try clear hcz70_12
            try clear hcz70_13
            try clear hcz70_2
            try clear hcz70_3
            try clear hcz70_4
            try clear hcz70_5
            try clear hcz70_6
            try clear hcz70_7
            try clear hcz70_8
            try clear hcz70_9
            try clear hfz13_0
            try clear hfz13_1
            try clear hfz13_10
            try clear hfz13_11
            try clear hfz13_12
            try clear hfz13_13
            try clear hfz13_2
            try clear hfz13_3
            try clear hfz13_4
            try clear hfz13_5
            try clear hfz13_6
            try clear hfz13_7
            try clear hfz13_8
            try clear hfz13_9
            try clear hfz15_0
            try clear hfz15_1
            try clear hfz15_10
            try clear hfz15_11
            try clear hfz15_12
            try clear hfz15_13
            try clear hfz15_2
            try clear hfz15_3
            try clear hfz15_4
            try clear hfz15_5
            try clear hfz15_6
            try clear hfz15_7
            try clear hfz15_8
            try clear hfz15_9
            try clear hfz20_0
            try clear hfz20_1
            try clear hfz20_10
            try clear hfz20_11
            try clear hfz20_12
            try clear hfz20_13
            try clear hfz20_2
            try clear hfz20_3
            try clear hfz20_4
            try clear hfz20_5
            try clear hfz20_6
            try clear hfz20_7
            try clear hfz20_8
            try clear hfz20_9
            try clear hfz24_0
            try clear hfz24_1
            try clear hfz24_10
            try clear hfz24_11
            try clear hfz24_12
            try clear hfz24_13
            try clear hfz24_2
            try clear hfz24_3
            try clear hfz24_4
            try clear hfz24_5
            try clear hfz24_6
            try clear hfz24_7
            try clear hfz24_8
            try clear hfz24_9
            try clear hfz46_0
            try clear hfz46_1
            try clear hfz46_10
            try clear hfz46_11
            try clear hfz46_12
            try clear hfz46_13
            try clear hfz46_2
            try clear hfz46_3
            try clear hfz46_4
            try clear hfz46_5
            try clear hfz46_6
            try clear hfz46_7
            try clear hfz46_8
            try clear hfz46_9
            try clear hfz5_0
            try clear hfz5_1
            try clear hfz5_10
            try clear hfz5_11
            try clear hfz5_12
            try clear hfz5_13
            try clear hfz5_2
            try clear hfz5_3
            try clear hfz5_4
            try clear hfz5_5
            try clear hfz5_6
            try clear hfz5_7
            try clear hfz5_8
            try clear hfz5_9
            try clear hfz70_0
            try clear hfz70_1
            try clear hfz70_10
            try clear hfz70_11
            try clear hfz70_12
            try clear hfz70_13
            try clear hfz70_2
            try clear hfz70_3
            try clear hfz70_4
            try clear hfz70_5
            try clear hfz70_6
            try clear hfz70_7
            try clear hfz70_8
            try clear hfz70_9
            try clear p2
            obtain ⟨kq, x87_64, rfl, HA, HJ64, HO_7, HO_427002, HO_427003, BK384, BK426, HB⟩ := hcut
            have hl7_64 := (Kd.R_reads' HO_7.out).1
            rw [hl7_64] at HO_7
            (try simp only [hl7_64])
            (try simp only [hl7_64] at BK384)
            (try simp only [hl7_64] at BK426)
            (try simp only [hl7_64] at HO_427002)
            (try simp only [hl7_64] at HO_427003)
            cases kq with
            | zero => exact absurd HA.out (by simp [laws_FnExactMissingFields.j2])
            | succ kj64 =>
             have H := HA.out
             clear HA
             simp only [laws_FnExactMissingFields.j2] at H
             by_cases c81 : x87_64 = true
             ·
              subst c81
              replace H := (if_pos rfl).symm.trans H
              exact absurd ((Option.some.inj H).trans HRT.out) (by simp)
             ·
              replace c81 := Bool.eq_false_iff.mpr c81
              subst c81
              replace H := (if_neg (show ¬ (false = true) by decide)).symm.trans H
              replace H := Option.bind_eq_some_iff.mp H
              obtain ⟨t479, A820, H⟩ := H
              try dsimp only at H
              have A82 := Aside0.mk A820
              clear A820
              by_cases c83 : t479 < 0
              ·
               rw [if_pos c83] at H
               have c83b0 : decide (t479 < 0) = true := decide_eq_true c83
               clear c83
               exact absurd ((Option.some.inj H).trans HRT.out) (by simp)
              ·
               rw [if_neg c83] at H
               have c83b0 : decide (t479 < 0) = false := decide_eq_false c83
               clear c83
               by_cases c85 : t479 = t453
               ·
                rw [if_pos c85] at H
                have c85b0 : (t479 == t453) = true := beq_iff_eq.mpr c85
                have c85b1 : (t479 != t453) = false := bne_eq_false_iff_eq.mpr c85
                clear c85
                obtain rfl := Option.some.inj H
                exact laws_FnExactMissingFields.L1
               ·
                rw [if_neg c85] at H
                have c85b0 : (t479 == t453) = false := beq_eq_false_iff_ne.mpr c85
                have c85b1 : (t479 != t453) = true := bne_iff_ne.mpr c85
                obtain rfl := Option.some.inj H
                exact laws_FnExactMissingFields.L1
          ·
           rw [if_neg c62] at H
           have c62b0 : (t455 == t453) = false := beq_eq_false_iff_ne.mpr c62
           have c62b1 : (t455 != t453) = true := bne_iff_ne.mpr c62
           obtain rfl := Option.some.inj H
           obtain ⟨Ao88, co88, eo88⟩ := Kd.R_slice HO_7.out
           subst eo88
           go_wp2_with (first | ((with_reducible refine gate_callee (f := 11) rfl ?_); refine goesL_ (some 64) rfl rfl Tryz.func11 (by kernel_rfl) rfl #[.slice Ao88 t427.length co88, .int .i64 1] rfl au38 ?_; (with_reducible refine (laws_markStringS.calls kj38 (fun k_ => some k_ = (.slice Ao88 t427.length co88 : Value).ownBlock) (.slice Ao88 t427.length co88) t427 1 t453 t454 w _ ?side1 ?side2 A56.out).mono ?_); (case side1 => repeat (first | (with_reducible first | exact HB.out | apply below_alloc | apply pw_below_drewN | apply below_drew1 | refine below_set ?_ GE384.out | refine below_set ?_ GE426.out) | exact HB.out)); (case side2 => exact Kd.R_tight rfl HO_7.out); rintro e w89 ⟨rfl, hy0, hb, hkp⟩; refine ⟨_, rfl, ?_⟩; replace HO_4 := Aside0.mk (Kd.R_mono (ok' := fun k_ => some k_ ≠ (.slice Ao88 t427.length co88 : Value).ownBlock) (Kd.R_keptB (HO_4.out) hkp (fun k_ hk_ hs_ => (hk_) hs_)) (fun k_ hk_ => hk_.1)); replace HO_427002 := Aside0.mk (Kd.S_mono (ok' := fun k_ => some k_ ≠ (v405 : Value).ownBlock ∧ some k_ ≠ (.slice Ao88 t427.length co88 : Value).ownBlock ∧ some k_ ≠ (.slice Ao26 t413.length co26 : Value).ownBlock) (Kd.S_keptB (HO_427002.out) hkp (fun k_ hk_ hs_ => (hk_.2.1) hs_)) (fun k_ hk_ => ⟨hk_.1.1, hk_.1.2.1, hk_.1.2.2⟩)); replace HO_427003 := Aside0.mk (Kd.S_mono (ok' := fun k_ => some k_ ≠ (v405 : Value).ownBlock ∧ some k_ ≠ (.slice Ao88 t427.length co88 : Value).ownBlock ∧ some k_ ≠ (.slice Ao25 t410.length co25 : Value).ownBlock) (Kd.S_keptB (HO_427003.out) hkp (fun k_ hk_ hs_ => (hk_.2.1) hs_)) (fun k_ hk_ => ⟨hk_.1.1, hk_.1.2.1, hk_.1.2.2⟩)); replace BK384 := Aside0.mk (blk_kept au66 hkp (fun hs_ => (fun e_ => (Kd.R_ne HO_7.out BK384.out (by decide)) e_) hs_)); replace BK426 := Aside0.mk (blk_kept au67 hkp (fun hs_ => (fun e_ => (Kd.R_ne HO_7.out BK426.out (by decide)) e_) hs_)); replace HO_7 := Aside0.mk (Kd.R_reok rfl hy0 (fun k_ e_ => HO_7.out.1 k_ e_)); replace HB := Aside0.mk (hb); (try clear hb); (try clear hkp); (try clear hy0)) | ((with_reducible refine gate_callee (f := 12) rfl ?_); refine goesL_ (some 67) rfl rfl Tryz.func12 (by kernel_rfl) rfl #[.slice Ao88 t454.length co88, .int .i64 1] rfl au7 ?_; (with_reducible refine (laws_heldStringS.calls kj38 _ _ t454 1 t455 _ ?side1 ?side2 A57.out).mono ?_); (case side1 => repeat (first | exact (Kd.R_reads' HO_7.out).2.2 | (with_reducible refine Kd.C_alloc ?_ _) | (with_reducible refine Kd.C_drewN ?_ _) | (with_reducible refine Kd.C_drew ?_))); (case side2 => rw [show t454.length = t427.length from (Kd.R_reads' HO_7.out).1.symm]; exact (Kd.R_reads' HO_7.out).2.1); rintro e w90 ⟨rfl, hb⟩; refine ⟨_, rfl, ?_⟩; replace HO_4 := Aside0.mk (Kd.R_below au77 hb); replace HO_7 := Aside0.mk (Kd.R_below au79 hb); replace HO_427002 := Aside0.mk (Kd.S_below au68 hb); replace HO_427003 := Aside0.mk (Kd.S_below au69 hb); replace BK384 := Aside0.mk (blk_below (g := gb384) au66 hb); replace BK426 := Aside0.mk (blk_below (g := gb426) au67 hb); replace HB := Aside0.mk (below_step au12 hb); (try clear hb)))
           go_ret
           exact ⟨by first | rfl | (simp [errW_none, errW_some] <;> rfl) | (simp [*, errW_none, errW_some] <;> rfl), by repeat (first | (with_reducible first | exact HB.out | apply below_alloc | apply pw_below_drewN | apply below_drew1 | refine below_set ?_ GE384.out | refine below_set ?_ GE426.out) | exact HB.out)⟩
     ·
      replace c37 := Bool.eq_false_iff.mpr c37
      subst c37
      replace H := (if_neg (show ¬ (false = true) by decide)).symm.trans H
      exact absurd ((Option.some.inj H).trans HRT.out) (by simp)
end Go.Proofs.YtdaofafeigdicaaGreatDoor.G

namespace Go.Proofs.YtdaofafeigdicaaGreatDoor.Opn
open Go.RowKit Go.Proofs.YtdaofafeigdicaaGreatDoorW.PrintWords
set_option linter.unusedVariables false
set_option linter.unusedSimpArgs false
variable {H : Type} {enc : TypeId × Value → H} {P : Program} {w : World} {base : Nat} {spare : Nat → Bool} {held : Bool}
def okInt (k : IntKind) (n : Int) : Prop := (Lit.int k n).wf = true
def okBool (_ : Bool) : Prop := True
def okStr (s : ByteArray) : Prop := s.size ≤ 9223372036854775807
def okList {α : Type} (p : α → Prop) (xs : List α) : Prop := xs.length ≤ 9223372036854775807 ∧ ∀ x ∈ xs, p x
theorem of_int {t : TypeId} {k : IntKind} {fuel : Nat} {cs : List Value} {x : DataW H × List MemPlace} (ht : P.underlying t = some (.int k)) (h : DataW.trod enc P w base spare held fuel t cs = some x) :
    ∃ n, (Kd.int k).K w n cs ∧ okInt k n := by
  obtain ⟨n, rfl, rfl, hw⟩ := DataW.trod_int ht h
  exact ⟨n, rfl, hw⟩
theorem of_bool {t : TypeId} {fuel : Nat} {cs : List Value} {x : DataW H × List MemPlace} (ht : P.underlying t = some .bool) (h : DataW.trod enc P w base spare held fuel t cs = some x) :
    ∃ n, Kd.bool.K w n cs ∧ okBool n := by
  cases fuel with
  | zero => simp [DataW.trod] at h
  | succ fuel =>
    match cs with
    | [] => simp [DataW.trod, ht] at h
    | [v] => cases v <;> simp [DataW.trod, ht] at h; exact ⟨_, rfl, trivial⟩
    | _ :: _ :: _ => simp [DataW.trod, ht] at h
theorem of_string {t : TypeId} {fuel : Nat} {cs : List Value} {x : DataW H × List MemPlace} (ht : P.underlying t = some .string) (h : DataW.trod enc P w base spare held fuel t cs = some x) :
    ∃ n, Kd.string.K w n cs ∧ okStr n := by
  cases fuel with
  | zero => simp [DataW.trod] at h
  | succ fuel =>
    match cs with
    | [] => simp [DataW.trod, ht] at h
    | [v] => cases v <;> simp [DataW.trod, ht] at h; exact ⟨_, rfl, h.1⟩
    | _ :: _ :: _ => simp [DataW.trod, ht] at h
theorem add_add (a : Addr) (k i : Nat) : (a.add k).add i = a.add (k + i) := by
  unfold Addr.add
  by_cases hk : k = 0 <;> by_cases hi : i = 0 <;> simp [hk, hi, Nat.add_assoc]
theorem of_slice {α : Type} {d : Kd α} {ok : α → Prop} {t e : TypeId} {fuel : Nat} {cs : List Value} {x : DataW H × List MemPlace} (ht : P.underlying t = some (.slice e)) (hc : P.cellsOf e = d.sz)
    (ih : ∀ n cs x, DataW.trod enc P w base spare held n e cs = some x → ∃ y, d.K w y cs ∧ ok y) (h : DataW.trod enc P w base spare held fuel t cs = some x) :
    ∃ ys, (Kd.slice e d).K w ys cs ∧ okList ok ys := by
  rcases Go.Deep.open_slice ht h with ⟨rfl, _⟩ | ⟨a, len, cap, m, n, D, Pl, rfl, hb, hl, hm, hmm, hxe, hel⟩
  · exact ⟨[], ⟨none, 0, rfl, by simp, rfl, by simp, fun h => absurd h (by simp)⟩, by simp, fun x hx => by simp at hx⟩
  · have hlm : len ≤ m := by rw [hmm]; split <;> omega
    have hm' : len ≤ 9223372036854775807 := by unfold maxLen at hm; omega
    have key : ∀ i, i < len → ∃ cs' y, w.cells? base (a.add (i * P.cellsOf e)) (P.cellsOf e) = some cs' ∧ d.K w y cs' ∧ ok y := by
      intro i hi
      obtain ⟨cs', h1, h2⟩ := hel i (by omega)
      obtain ⟨y, hy, ho⟩ := ih _ _ _ h2
      exact ⟨cs', y, h1, hy, ho⟩
    obtain ⟨ys, hlen, hys⟩ : ∃ ys : List α, ys.length = len ∧ ∀ i (hi : i < ys.length), ∃ cs', w.cells? base (a.add (i * P.cellsOf e)) (P.cellsOf e) = some cs' ∧ d.K w ys[i] cs' ∧ ok ys[i] := by
      clear h hxe hel hmm hlm hl hm hm'
      induction len with
      | zero => exact ⟨[], rfl, fun i hi => by simp at hi⟩
      | succ len ihl =>
        obtain ⟨ys, h1, h2⟩ := ihl (fun i hi => key i (by omega))
        obtain ⟨cs', y, h3, h4, h5⟩ := key len (by omega)
        refine ⟨ys ++ [y], by simp [h1], fun i hi => ?_⟩
        by_cases hi' : i < ys.length
        · rw [List.getElem_append_left hi']; exact h2 i hi'
        · have : i = len := by simp at hi; omega
          subst this
          refine ⟨cs', h3, ?_, ?_⟩ <;> rw [List.getElem_append_right (by omega)] <;> simpa [h1]
    refine ⟨ys, ⟨some a, cap, by rw [hlen], by omega, rfl, by omega, fun _ => ⟨a, rfl, fun j p hj => ?_⟩⟩, by omega, fun y hy => ?_⟩
    · obtain ⟨hj', rfl⟩ := List.getElem?_eq_some_iff.1 hj
      obtain ⟨cs', h1, h2, _⟩ := hys j hj'
      rw [hc] at h1
      refine ⟨cs', d.K_len h2, h2, fun i u hu => ?_⟩
      obtain ⟨_, hl', hcell⟩ := World.cells?_some h1
      have hi : i < d.sz := by have := (List.getElem?_eq_some_iff.1 hu).1; omega
      have := hcell i hi
      rw [hu, add_add] at this
      exact this
    · obtain ⟨i, hi, rfl⟩ := List.getElem_of_mem hy
      obtain ⟨_, _, _, h3⟩ := hys i hi
      exact h3
theorem mapM_all {α β : Type} {f : α → Option β} : ∀ {l : List α} {ys : List β}, l.mapM f = some ys → ∀ x ∈ l, ∃ y, f x = some y
  | [], _, _, x, hx => by simp at hx
  | a :: l, ys, h, x, hx => by
    rw [List.mapM_cons] at h
    simp only [Option.bind_eq_bind, Option.bind_eq_some_iff] at h
    obtain ⟨y, h1, ys', h2, _⟩ := h
    rcases List.mem_cons.1 hx with rfl | hx
    · exact ⟨y, h1⟩
    · exact mapM_all h2 x hx
theorem of_fields {t : TypeId} {fs : Array Field} {fuel : Nat} {cs : List Value} {x : DataW H × List MemPlace} (ht : P.underlying t = some (.struct fs)) (h : DataW.trod enc P w base spare held fuel t cs = some x) :
    cs.length = P.cellsOf t ∧ ∃ n, ∀ f ∈ fs.toList, ∃ y, DataW.trod enc P w base spare held n f.type ((cs.drop f.offset).take (P.cellsOf f.type)) = some y := by
  cases fuel with
  | zero => simp [DataW.trod] at h
  | succ fuel =>
    simp only [DataW.trod, ht] at h
    split at h
    · rename_i hl
      refine ⟨hl, fuel, ?_⟩
      simp only [Option.map_eq_some_iff] at h
      obtain ⟨ys, h1, _⟩ := h
      exact mapM_all h1
    · simp at h
theorem pair_K {α β : Type} {a : Kd α} {b : Kd β} {x : α} {y : β} {cs : List Value} {n : Nat} (off : Nat) (hn : a.sz = n) (h0 : a.K w x ((cs.drop off).take n)) (h1 : b.K w y (cs.drop (off + n))) : (Kd.pair a b).K w (x, y) (cs.drop off) :=
  ⟨_, _, by rw [← List.drop_drop]; exact (List.take_append_drop n (cs.drop off)).symm, h0, h1⟩
theorem last_K {α : Type} {a : Kd α} {x : α} {cs : List Value} {n : Nat} (off : Nat) (hl : cs.length = off + n) (h0 : a.K w x ((cs.drop off).take n)) : a.K w x (cs.drop off) := by
  rwa [List.take_of_length_le (by rw [List.length_drop]; omega)] at h0
end Go.Proofs.YtdaofafeigdicaaGreatDoor.Opn

namespace Go.Proofs.YtdaofafeigdicaaGreatDoor.G
open Go.Proofs.YtdaofafeigdicaaGreatDoor.Opn
open Go.RowKit Go.Proofs.YtdaofafeigdicaaGreatDoorW.PrintWords Go.Proofs.YtdaofafeigdicaaGreatDoorW.PrintLast Go.Proofs.YtdaofafeigdicaaGreatDoorW.PrintMore
open Go.Proofs.YtdaofafeigdicaaGreatDoor.Gl Go.Proofs.YtdaofafeigdicaaGreatDoor.Ext
attribute [local go_sem] max2_int min2_int max_two min_two max_three min_three max_four min_four   -- for this text's walks alone
set_option linter.unusedVariables false
set_option linter.unusedSimpArgs false
theorem cells3 : Tryz.prog.cellsOf 3 = 1 := by kernel_rfl
theorem cells4 : Tryz.prog.cellsOf 4 = 1 := by kernel_rfl
theorem cells9 : Tryz.prog.cellsOf 9 = 1 := by kernel_rfl
theorem cells22 : Tryz.prog.cellsOf 22 = 1 := by kernel_rfl
theorem cells24 : Tryz.prog.cellsOf 24 = 4 := by kernel_rfl
theorem cells26 : Tryz.prog.cellsOf 26 = 14 := by kernel_rfl
theorem cells28 : Tryz.prog.cellsOf 28 = 1 := by kernel_rfl
theorem cells52 : Tryz.prog.cellsOf 52 = 4 := by kernel_rfl
def ok52 (y : S52) : Prop := okList (okStr) y.f0 ∧ okStr y.f1 ∧ okStr y.f2 ∧ okStr y.f3
theorem of_T52 {H : Type} {enc : TypeId × Value → H} {w : World} {base : Nat} {spare : Nat → Bool} {held : Bool} {fuel : Nat} {cs : List Value} {x : DataW H × List MemPlace} (h : DataW.trod enc Tryz.prog w base spare held fuel 52 cs = some x) : ∃ y : S52, k52.K w y cs ∧ ok52 y := by
  obtain ⟨hl, n, hf⟩ := of_fields Tryz.underlying52 h
  rw [cells52] at hl
  simp only [List.mem_cons, List.not_mem_nil, or_false, forall_eq_or_imp, forall_eq] at hf
  obtain ⟨⟨y0, f0⟩, ⟨y1, f1⟩, ⟨y2, f2⟩, ⟨y3, f3⟩⟩ := hf
  rw [cells28] at f0
  obtain ⟨x0, g0, b0⟩ := of_slice (ok := okStr) Tryz.underlying28 cells9 (fun _ _ _ h_ => of_string Tryz.underlying9 h_) f0
  rw [cells9] at f1
  obtain ⟨x1, g1, b1⟩ := of_string Tryz.underlying9 f1
  rw [cells9] at f2
  obtain ⟨x2, g2, b2⟩ := of_string Tryz.underlying9 f2
  rw [cells9] at f3
  obtain ⟨x3, g3, b3⟩ := of_string Tryz.underlying9 f3
  exact ⟨⟨x0, x1, x2, x3⟩, (pair_K (n := 1) 0 rfl g0 (pair_K (n := 1) 1 rfl g1 (pair_K (n := 1) 2 rfl g2 (last_K (n := 1) 3 hl g3)))), ⟨b0, b1, b2, b3⟩⟩
def ok24 (y : S24) : Prop := okInt .i64 y.f0 ∧ okInt .i64 y.f1 ∧ okInt .i64 y.f2 ∧ okBool y.f3
theorem of_T24 {H : Type} {enc : TypeId × Value → H} {w : World} {base : Nat} {spare : Nat → Bool} {held : Bool} {fuel : Nat} {cs : List Value} {x : DataW H × List MemPlace} (h : DataW.trod enc Tryz.prog w base spare held fuel 24 cs = some x) : ∃ y : S24, k24.K w y cs ∧ ok24 y := by
  obtain ⟨hl, n, hf⟩ := of_fields Tryz.underlying24 h
  rw [cells24] at hl
  simp only [List.mem_cons, List.not_mem_nil, or_false, forall_eq_or_imp, forall_eq] at hf
  obtain ⟨⟨y0, f0⟩, ⟨y1, f1⟩, ⟨y2, f2⟩, ⟨y3, f3⟩⟩ := hf
  rw [cells3] at f0
  obtain ⟨x0, g0, b0⟩ := of_int Tryz.underlying3 f0
  rw [cells3] at f1
  obtain ⟨x1, g1, b1⟩ := of_int Tryz.underlying3 f1
  rw [cells3] at f2
  obtain ⟨x2, g2, b2⟩ := of_int Tryz.underlying3 f2
  rw [cells4] at f3
  obtain ⟨x3, g3, b3⟩ := of_bool Tryz.underlying4 f3
  exact ⟨⟨x0, x1, x2, x3⟩, (pair_K (n := 1) 0 rfl g0 (pair_K (n := 1) 1 rfl g1 (pair_K (n := 1) 2 rfl g2 (last_K (n := 1) 3 hl g3)))), ⟨b0, b1, b2, b3⟩⟩
def ok26 (y : S26) : Prop := okStr y.f0 ∧ okInt .i64 y.f1 ∧ okList (ok52) y.f2 ∧ okList (ok52) y.f3 ∧ okStr y.f4 ∧ okStr y.f5 ∧ okStr y.f6 ∧ ok24 y.f7 ∧ okInt .i64 y.f8 ∧ okStr y.f9 ∧ okStr y.f10
theorem of_T26 {H : Type} {enc : TypeId × Value → H} {w : World} {base : Nat} {spare : Nat → Bool} {held : Bool} {fuel : Nat} {cs : List Value} {x : DataW H × List MemPlace} (h : DataW.trod enc Tryz.prog w base spare held fuel 26 cs = some x) : ∃ y : S26, k26.K w y cs ∧ ok26 y := by
  obtain ⟨hl, n, hf⟩ := of_fields Tryz.underlying26 h
  rw [cells26] at hl
  simp only [List.mem_cons, List.not_mem_nil, or_false, forall_eq_or_imp, forall_eq] at hf
  obtain ⟨⟨y0, f0⟩, ⟨y1, f1⟩, ⟨y2, f2⟩, ⟨y3, f3⟩, ⟨y4, f4⟩, ⟨y5, f5⟩, ⟨y6, f6⟩, ⟨y7, f7⟩, ⟨y8, f8⟩, ⟨y9, f9⟩, ⟨y10, f10⟩⟩ := hf
  rw [cells9] at f0
  obtain ⟨x0, g0, b0⟩ := of_string Tryz.underlying9 f0
  rw [cells3] at f1
  obtain ⟨x1, g1, b1⟩ := of_int Tryz.underlying3 f1
  rw [cells22] at f2
  obtain ⟨x2, g2, b2⟩ := of_slice (ok := ok52) Tryz.underlying22 cells52 (fun _ _ _ h_ => of_T52 h_) f2
  rw [cells22] at f3
  obtain ⟨x3, g3, b3⟩ := of_slice (ok := ok52) Tryz.underlying22 cells52 (fun _ _ _ h_ => of_T52 h_) f3
  rw [cells9] at f4
  obtain ⟨x4, g4, b4⟩ := of_string Tryz.underlying9 f4
  rw [cells9] at f5
  obtain ⟨x5, g5, b5⟩ := of_string Tryz.underlying9 f5
  rw [cells9] at f6
  obtain ⟨x6, g6, b6⟩ := of_string Tryz.underlying9 f6
  rw [cells24] at f7
  obtain ⟨x7, g7, b7⟩ := of_T24 f7
  rw [cells3] at f8
  obtain ⟨x8, g8, b8⟩ := of_int Tryz.underlying3 f8
  rw [cells9] at f9
  obtain ⟨x9, g9, b9⟩ := of_string Tryz.underlying9 f9
  rw [cells9] at f10
  obtain ⟨x10, g10, b10⟩ := of_string Tryz.underlying9 f10
  exact ⟨⟨x0, x1, x2, x3, x4, x5, x6, x7, x8, x9, x10⟩, (pair_K (n := 1) 0 rfl g0 (pair_K (n := 1) 1 rfl g1 (pair_K (n := 1) 2 rfl g2 (pair_K (n := 1) 3 rfl g3 (pair_K (n := 1) 4 rfl g4 (pair_K (n := 1) 5 rfl g5 (pair_K (n := 1) 6 rfl g6 (pair_K (n := 4) 7 rfl g7 (pair_K (n := 1) 11 rfl g8 (pair_K (n := 1) 12 rfl g9 (last_K (n := 1) 13 hl g10))))))))))), ⟨b0, b1, b2, b3, b4, b5, b6, b7, b8, b9, b10⟩⟩
def laws_FnExactMissingFields.Pur : Prop := ∀ (a0_0 : ByteArray) (a0_1 : Int) (l0_2 : List (S52)) (l0_3 : List (S52)) (a0_4 : ByteArray) (a0_5 : ByteArray) (a0_6 : ByteArray) (a0_7 : Int) (a0_8 : Int) (a0_9 : Int) (a0_10 : Bool) (a0_11 : Int) (a0_12 : ByteArray) (a0_13 : ByteArray), okStr a0_0 → okInt .i64 a0_1 → okList (ok52) l0_2 → okList (ok52) l0_3 → okStr a0_4 → okStr a0_5 → okStr a0_6 → okInt .i64 a0_7 → okInt .i64 a0_8 → okInt .i64 a0_9 → okInt .i64 a0_11 → okStr a0_12 → okStr a0_13 → ∃ k, laws_FnExactMissingFields.f k a0_0 a0_1 l0_2 l0_3 a0_4 a0_5 a0_6 a0_7 a0_8 a0_9 a0_10 a0_11 a0_12 a0_13 = some true
theorem laws_FnExactMissingFields.wlk (P : laws_FnExactMissingFields.Pur) (a0_0 : ByteArray) (a0_1 : Int) (A0_2 : Option Addr) (c0_2 : Nat) (l0_2 : List (S52)) (A0_3 : Option Addr) (c0_3 : Nat) (l0_3 : List (S52)) (a0_4 : ByteArray) (a0_5 : ByteArray) (a0_6 : ByteArray) (a0_7 : Int) (a0_8 : Int) (a0_9 : Int) (a0_10 : Bool) (a0_11 : Int) (a0_12 : ByteArray) (a0_13 : ByteArray) (w : World) (hr0_2 : Kd.C k52 w A0_2 l0_2.length l0_2) (hc0_2 : l0_2.length ≤ c0_2) (hr0_3 : Kd.C k52 w A0_3 l0_3.length l0_3) (hc0_3 : l0_3.length ≤ c0_3) {gF2 gF3 : Bool} (hG : GL true gF2 gF3 w) (ba0_0 : okStr a0_0) (ba0_1 : okInt .i64 a0_1) (bl0_2 : okList (ok52) l0_2) (bl0_3 : okList (ok52) l0_3) (ba0_4 : okStr a0_4) (ba0_5 : okStr a0_5) (ba0_6 : okStr a0_6) (ba0_7 : okInt .i64 a0_7) (ba0_8 : okInt .i64 a0_8) (ba0_9 : okInt .i64 a0_9) (ba0_11 : okInt .i64 a0_11) (ba0_12 : okStr a0_12) (ba0_13 : okStr a0_13) :
    Calls Tryz.prog 3 #[.agg #[.string a0_0, .int .i64 a0_1, .slice A0_2 l0_2.length c0_2, .slice A0_3 l0_3.length c0_3, .string a0_4, .string a0_5, .string a0_6, .int .i64 a0_7, .int .i64 a0_8, .int .i64 a0_9, .bool a0_10, .int .i64 a0_11, .string a0_12, .string a0_13]] w fun e w' => e = .returned (.bool true) ∧ Below w.heap.size w w' := by
  obtain ⟨k, h⟩ := P a0_0 a0_1 l0_2 l0_3 a0_4 a0_5 a0_6 a0_7 a0_8 a0_9 a0_10 a0_11 a0_12 a0_13 ba0_0 ba0_1 bl0_2 bl0_3 ba0_4 ba0_5 ba0_6 ba0_7 ba0_8 ba0_9 ba0_11 ba0_12 ba0_13
  refine (laws_FnExactMissingFields.calls k a0_0 a0_1 A0_2 c0_2 l0_2 A0_3 c0_3 l0_3 a0_4 a0_5 a0_6 a0_7 a0_8 a0_9 a0_10 a0_11 a0_12 a0_13 w hG hr0_2 hc0_2 hr0_3 hc0_3 h).mono ?_
  rintro e w' ⟨rfl, hd⟩
  exact ⟨rfl, hd⟩
end Go.Proofs.YtdaofafeigdicaaGreatDoor.G

namespace Go.Proofs.YtdaofafeigdicaaGreatDoor.B
open Go.RowKit Go.Proofs.YtdaofafeigdicaaGreatDoorW.PrintWords Go.Proofs.YtdaofafeigdicaaGreatDoorW.PrintLast
set_option linter.unusedVariables false
set_option linter.unusedSimpArgs false
def ahd (seg : List UInt8) : List (List UInt8) → List (List UInt8)
  | [] => [seg]
  | h :: t => (seg ++ h) :: t
def spl (b : UInt8) : List UInt8 → List (List UInt8)
  | [] => [[]]
  | c :: cs => if c = b then [] :: spl b cs else ahd [c] (spl b cs)
theorem spl_cons (b c : UInt8) (cs : List UInt8) : spl b (c :: cs) = if c = b then [] :: spl b cs else ahd [c] (spl b cs) := rfl
theorem spl_ne (b : UInt8) (l : List UInt8) : spl b l ≠ [] := by
  cases l with
  | nil => simp [spl]
  | cons c cs => unfold spl; split <;> simp; unfold ahd; split <;> simp
theorem ahd_nil (p : List (List UInt8)) (h : p ≠ []) : ahd [] p = p := by cases p <;> simp_all [ahd]
theorem ahd_ahd (a b : List UInt8) (p : List (List UInt8)) : ahd a (ahd b p) = ahd (a ++ b) p := by cases p <;> simp [ahd]
theorem spl_length (b : UInt8) (l : List UInt8) : (spl b l).length ≤ l.length + 1 := by
  induction l with
  | nil => simp [spl]
  | cons c cs ih =>
    unfold spl
    split
    · simp; omega
    · cases h : spl b cs with
      | nil => exact absurd h (spl_ne b cs)
      | cons p q => rw [h] at ih; simp [ahd] at ih ⊢; omega
theorem spl_step (b : UInt8) (l : List UInt8) (from_ i : Nat) (hi : i < l.length) (hf : from_ ≤ i) :
    ahd ((l.drop from_).take (i - from_)) (spl b (l.drop i)) =
      if l[i] = b then ((l.drop from_).take (i - from_)) :: spl b (l.drop (i + 1)) else ahd ((l.drop from_).take (i + 1 - from_)) (spl b (l.drop (i + 1))) := by
  rw [List.drop_eq_getElem_cons hi, spl_cons]
  by_cases h : l[i] = b
  · rw [if_pos h, if_pos h]
    simp [ahd]
  · rw [if_neg h, if_neg h]
    have e : (l.drop from_).take (i + 1 - from_) = (l.drop from_).take (i - from_) ++ [l[i]] := by
      rw [show i + 1 - from_ = (i - from_) + 1 by omega, List.take_succ_eq_append_getElem (by rw [List.length_drop]; omega)]
      congr 2
      rw [List.getElem_drop]
      congr 1
      omega
    rw [e]
    exact ahd_ahd _ _ _
theorem spl_none (c : UInt8) : ∀ l : List UInt8, (∀ k : Nat, l[k]? ≠ some c) → spl c l = [l]
  | [], _ => rfl
  | a :: l, h => by
    have h0 : a ≠ c := fun e => h 0 (by simp [e])
    rw [spl_cons, if_neg h0, spl_none c l (fun k => by simpa using h (k + 1))]; rfl
theorem spl_first (c : UInt8) : ∀ (i : Nat) (l : List UInt8), l[i]? = some c → (∀ k : Nat, k < i → l[k]? ≠ some c) → spl c l = l.take i :: spl c (l.drop (i + 1))
  | 0, [], h, _ => by simp at h
  | 0, a :: l, h, _ => by
    have h0 : a = c := by simpa using h
    rw [spl_cons, if_pos h0]; rfl
  | i + 1, [], h, _ => by simp at h
  | i + 1, a :: l, h, hk => by
    have h0 : a ≠ c := fun e => hk 0 (by omega) (by simp [e])
    rw [spl_cons, if_neg h0, spl_first c i l (by simpa using h) (fun k hk' => by simpa using hk (k + 1) (by omega))]
    rfl
theorem indexB_one (s : ByteArray) (c : UInt8) : Lib.indexB s (mkB [c]) = Lib.indexByte (L s) c := by
  unfold Lib.indexB
  have : (mkB [c]).data.toList = [c] := L_mk [c]
  rw [this]
  exact Lib.index_one _ _
theorem splitB_spl (c : UInt8) (n : Nat) : ∀ s : ByteArray, s.size ≤ n → (Lib.splitB (mkB [c]) 0 (Lib.countB s (mkB [c])) s).map L = spl c (L s) := by
  have h1 : (mkB [c]).size = 1 := by rw [size_mk]; rfl
  induction n with
  | zero =>
    intro s hs
    rcases Lib.indexB_cases s (mkB [c]) with hm | ⟨i, hi, hr⟩
    · rw [Lib.splitB_miss _ _ _ _ hm]
      have := Lib.indexByte_none (by rw [← indexB_one]; exact hm : Lib.indexByte (L s) c = -1)
      rw [spl_none c (L s) this]; rfl
    · omega
  | succ n ih =>
    intro s hs
    rcases Lib.indexB_cases s (mkB [c]) with hm | ⟨i, hi, hr⟩
    · rw [Lib.splitB_miss _ _ _ _ hm]
      have := Lib.indexByte_none (by rw [← indexB_one]; exact hm : Lib.indexByte (L s) c = -1)
      rw [spl_none c (L s) this]; rfl
    · rw [h1] at hr
      have hc := Lib.countB_hit s (mkB [c]) i (by omega) hi
      rw [h1] at hc
      rw [hc, Nat.add_comm 1, Lib.splitB_hit _ _ _ _ i hi, h1, List.map_cons, ih (s.extract (i + 1) s.size) (by rw [ByteArray.size_extract]; omega)]
      obtain ⟨a, b⟩ := Lib.indexByte_some (by rw [← indexB_one]; exact hi : Lib.indexByte (L s) c = i)
      rw [spl_first c i (L s) a b, L_extract, L_extract]
      congr 1
      congr 1
      rw [List.take_of_length_le (by rw [List.length_drop, L_len]; omega)]
theorem splitB_eq (c : UInt8) (s : ByteArray) : Lib.splitB (mkB [c]) 0 (Lib.countB s (mkB [c])) s = (spl c (L s)).map mkB := by
  rw [← splitB_spl c s.size s (Nat.le_refl _), List.map_map]
  have : (mkB ∘ L) = id := by funext x; exact mk_L x
  rw [this, List.map_id]
end Go.Proofs.YtdaofafeigdicaaGreatDoor.B

namespace Go.Proofs.YtdaofafeigdicaaGreatDoor.G
open Go.RowKit Go.Proofs.YtdaofafeigdicaaGreatDoorW.PrintWords Go.Proofs.YtdaofafeigdicaaGreatDoorW.PrintLast Go.Proofs.YtdaofafeigdicaaGreatDoor.B
set_option linter.unusedVariables false
set_option linter.unusedSimpArgs false
theorem split_loop (s : ByteArray) (b : UInt8) (hs : s.size ≤ 8796093022000) (d : Nat) : ∀ (out : List ByteArray) (f i : Nat), out.length ≤ i → f ≤ i → i ≤ s.size → s.size - i = d →
    Ev (fun k => spec_l1Split.l0 k s (b.toNat : Int) out f i) (out ++ (ahd (((L s).drop f).take (i - f)) (spl b ((L s).drop i))).map mkB) := by
  have hL : (L s).length = s.size := L_len s
  induction d with
  | zero =>
    intro out f i h0 h1 h2 hd
    have e : i = s.size := by omega
    refine Ev.step (f := fun _ => some (out ++ [s.extract f s.size])) (fun k => ?_) (ev_eq (Ev.now _) ?_)
    · simp only [spec_l1Split.l0]
      rw [if_neg (by omega), if_pos (by omega), if_pos (by omega), if_pos (by omega)]
      simp
    · rw [List.drop_of_length_le (l := L s) (i := i) (by omega)]
      simp [spl, ahd]
      apply L_inj
      rw [L_extract, L_mk, e]
  | succ d ih =>
    intro out f i h0 h1 h2 hd
    have hlt : i < s.size := by omega
    have hlt' : i < (L s).length := by omega
    rw [spl_step b (L s) f i hlt' h1]
    have hw : wrap64 ((i : Int) + 1) = ((i + 1 : Nat) : Int) := by rw [w64 (by omega) (by omega)]; rfl
    by_cases e : (L s)[i] = b
    · rw [if_pos e]
      refine Ev.step (f := fun k => spec_l1Split.l0 k s (b.toNat : Int) (out ++ [s.extract f i]) ((i + 1 : Nat) : Int) ((i + 1 : Nat) : Int)) (fun k => ?_) (ev_eq (ih (out ++ [s.extract f i]) (i + 1) (i + 1) (by simp; omega) (by omega) (by omega) (by omega)) ?_)
      · simp only [spec_l1Split.l0]
        rw [if_pos (by omega), if_pos (by omega), if_pos (by rw [bt_get s i hlt, e]), if_pos (by omega), if_pos (by omega), if_pos (by omega), if_pos (by omega), hw]
        simp
      · rw [Nat.sub_self, List.take_zero, ahd_nil _ (spl_ne b _), List.append_assoc]
        congr 1
        simp
        apply L_inj
        rw [L_extract, L_mk]
    · rw [if_neg e]
      refine Ev.step (f := fun k => spec_l1Split.l0 k s (b.toNat : Int) out f ((i + 1 : Nat) : Int)) (fun k => ?_) (ih out f (i + 1) (by omega) (by omega) (by omega) (by omega))
      simp only [spec_l1Split.l0]
      rw [if_pos (by omega), if_pos (by omega), if_neg (by rw [bt_get s i hlt]; exact fun h => e (u8_inj h)), hw]
theorem split_ev (s : ByteArray) (b : UInt8) (hs : s.size ≤ 8796093022000) : Ev (fun k => spec_l1Split.f k s (b.toNat : Int)) ((spl b (L s)).map mkB) := by
  have := split_loop s b hs s.size [] 0 0 (by simp) (by omega) (by omega) (by omega)
  unfold spec_l1Split.f
  simpa [ahd_nil _ (spl_ne b _)] using this
def upD (c : Int) : Bool := decide (65 ≤ c) && decide (c ≤ 90)
def loD (c : Int) : Bool := decide (97 ≤ c) && decide (c ≤ 122)
def leD (c : Int) : Bool := upD c || loD c
def inD (n : Nat) : Bool := decide (1 ≤ n) && decide (n ≤ 12)
theorem spec_up (c : Int) : spec_l2Upper.f c = some (upD c) := by unfold spec_l2Upper.f upD; by_cases h : 65 ≤ c <;> simp [h]
theorem spec_lo (c : Int) : spec_l2Lower.f c = some (loD c) := by unfold spec_l2Lower.f loD; by_cases h : 97 ≤ c <;> simp [h]
theorem impl_up (c : Int) : impl_isUpper.f c = some (upD c) := by unfold impl_isUpper.f upD; by_cases h : 65 ≤ c <;> simp [h]
theorem impl_lo (c : Int) : impl_isLower.f c = some (loD c) := by unfold impl_isLower.f loD; by_cases h : 97 ≤ c <;> simp [h]
theorem spec_le (c : Int) : spec_l2Letter.f c = some (leD c) := by unfold spec_l2Letter.f leD; rw [spec_up, spec_lo]; cases upD c <;> simp
theorem impl_le (c : Int) : impl_isLetter.f c = some (leD c) := by unfold impl_isLetter.f leD; rw [impl_up, impl_lo]; cases upD c <;> simp
theorem in12 (n : Nat) : (if (n : Int) ≥ 1 then some (decide ((n : Int) ≤ 12)) else some false) = some (inD n) := by
  unfold inD
  by_cases h : 1 ≤ n
  · rw [if_pos (by omega)]
    congr 1
    rw [decide_eq_true h, Bool.true_and, decide_eq_decide]; omega
  · rw [if_neg (by omega)]; simp [h]
theorem spec_in (s : ByteArray) : spec_l1In.f (s.size : Int) 1 12 = some (inD s.size) := in12 s.size
theorem impl_in (s : ByteArray) : impl_inside.f (s.size : Int) 1 12 = some (inD s.size) := in12 s.size
theorem inD_iff {n : Nat} : inD n = true ↔ 1 ≤ n ∧ n ≤ 12 := by simp [inD]
def okD (s : ByteArray) (i : Nat) : Bool := leD (bt s i) || ((decide (bt s i = 45) || decide (bt s i = 39)) && leD (bt s ((i : Int) - 1)))
def wlD (s : ByteArray) : Nat → Nat → Bool
  | 0, _ => true
  | d + 1, i => okD s i && wlD s d (i + 1)
def wordD (s : ByteArray) : Bool := inD s.size && ((leD (bt s 0) && leD (bt s ((s.size : Int) - 1))) && wlD s (s.size - 1) 1)
def greatD (s : ByteArray) : Bool := wordD s && upD (bt s 0)
theorem word_step (s : ByteArray) (i k : Nat) (h1 : 1 ≤ i) (h2 : i < s.size) (h3 : s.size ≤ 12) : spec_l2Word.l0 (k + 1) s (i : Int) = if okD s i = true then spec_l2Word.l0 k s ((i + 1 : Nat) : Int) else some false := by
  have hw : wrap64 ((i : Int) + 1) = ((i + 1 : Nat) : Int) := by rw [w64 (by omega) (by omega)]; rfl
  have hw' : wrap64 ((i : Int) - 1) = (i : Int) - 1 := w64 (by omega) (by omega)
  have a1 : (0 : Int) ≤ (i : Int) - 1 := by omega
  have a2 : (i : Int) - 1 < (s.size : Int) := by omega
  simp only [spec_l2Word.l0]
  rw [if_pos (show (i : Int) < (s.size : Int) by omega), if_pos (show (0 : Int) ≤ (i : Int) by omega), spec_le, hw, hw']
  simp only [Option.bind_some, if_pos a1, if_pos a2, spec_le]
  unfold okD
  generalize ((i + 1 : Nat) : Int) = j
  cases leD (bt s i) <;> cases leD (bt s ((i : Int) - 1)) <;> by_cases c : bt s i = 45 <;> by_cases d : bt s i = 39 <;> simp [c, d]
theorem word_loop (s : ByteArray) (hs : s.size ≤ 12) (d : Nat) : ∀ i : Nat, 1 ≤ i → i ≤ s.size → s.size - i = d → Ev (fun k => spec_l2Word.l0 k s (i : Int)) (wlD s d i) := by
  induction d with
  | zero =>
    intro i h1 h2 hd
    refine Ev.step (f := fun _ => some true) (fun k => ?_) (Ev.now _)
    simp only [spec_l2Word.l0]; rw [if_neg (by omega)]
  | succ d ih =>
    intro i h1 h2 hd
    refine Ev.step (f := fun k => if okD s i = true then spec_l2Word.l0 k s ((i + 1 : Nat) : Int) else some false) (fun k => word_step s i k h1 (by omega) hs) ?_
    unfold wlD
    cases h : okD s i with
    | true => exact ev_pos rfl (ev_eq (ih (i + 1) (by omega) (by omega) (by omega)) (by simp))
    | false => exact ev_neg (by simp) (ev_eq (Ev.now _) (by simp))
theorem loops_eq (s : ByteArray) (k : Nat) : ∀ i : Int, impl_isNameWord.l0 k s i = spec_l2Word.l0 k s i := by
  induction k with
  | zero => intro i; simp [impl_isNameWord.l0, spec_l2Word.l0]
  | succ k ih => intro i; simp only [impl_isNameWord.l0, spec_l2Word.l0, impl_le, spec_le, ih]
theorem spec_word (s : ByteArray) : Ev (fun k => spec_l2Word.f k s) (wordD s) := by
  unfold spec_l2Word.f wordD
  cases h : inD s.size with
  | false =>
    refine Ev.step (f := fun _ => some false) (fun k => ?_) (ev_eq (Ev.now _) (by simp))
    simp only [spec_in, h, Option.bind_some, spec_l2Word.j0]; simp
  | true =>
    obtain ⟨h1, h2⟩ := inD_iff.1 h
    have hw : wrap64 ((s.size : Int) - 1) = (s.size : Int) - 1 := w64 (by omega) (by omega)
    refine Ev.step (f := fun k => if (leD (bt s 0) && leD (bt s ((s.size : Int) - 1))) = true then spec_l2Word.l0 k s ((1 : Nat) : Int) else some false) (fun k => ?_) ?_
    · have a1 : (0 : Int) < (s.size : Int) := by omega
      have a2 : (0 : Int) ≤ (s.size : Int) - 1 := by omega
      have a3 : (s.size : Int) - 1 < (s.size : Int) := by omega
      simp only [spec_in, h, Option.bind_some, if_pos a1, if_pos a2, if_pos a3, hw, spec_le, spec_l2Word.j0]
      cases leD (bt s 0) <;> cases leD (bt s ((s.size : Int) - 1)) <;> simp
    · cases h3 : (leD (bt s 0) && leD (bt s ((s.size : Int) - 1))) with
      | true => exact ev_pos rfl (ev_eq (word_loop s h2 (s.size - 1) 1 (by omega) (by omega) rfl) (by simp))
      | false => exact ev_neg (by simp) (ev_eq (Ev.now _) (by simp))
theorem impl_word (s : ByteArray) : Ev (fun k => impl_isNameWord.f k s) (wordD s) := by
  unfold impl_isNameWord.f wordD
  cases h : inD s.size with
  | false =>
    refine Ev.step (f := fun _ => some false) (fun k => ?_) (ev_eq (Ev.now _) (by simp))
    simp only [impl_in, h, Option.bind_some, impl_isNameWord.j0]; simp
  | true =>
    obtain ⟨h1, h2⟩ := inD_iff.1 h
    have hw : wrap64 ((s.size : Int) - 1) = (s.size : Int) - 1 := w64 (by omega) (by omega)
    refine Ev.step (f := fun k => if (leD (bt s 0) && leD (bt s ((s.size : Int) - 1))) = true then spec_l2Word.l0 k s ((0 : Nat) : Int) else some false) (fun k => ?_) ?_
    · have a1 : (0 : Int) < (s.size : Int) := by omega
      have a2 : (0 : Int) ≤ (s.size : Int) - 1 := by omega
      have a3 : (s.size : Int) - 1 < (s.size : Int) := by omega
      simp only [impl_in, h, Option.bind_some, if_pos a1, if_pos a2, if_pos a3, hw, impl_le, impl_isNameWord.j0, loops_eq]
      cases leD (bt s 0) <;> cases leD (bt s ((s.size : Int) - 1)) <;> simp
    · cases h3 : (leD (bt s 0) && leD (bt s ((s.size : Int) - 1))) with
      | true =>
        refine ev_pos rfl (Ev.step (f := fun k => spec_l2Word.l0 k s ((1 : Nat) : Int)) (fun k => ?_) (ev_eq (word_loop s h2 (s.size - 1) 1 (by omega) (by omega) rfl) (by simp)))
        have h0 : leD (bt s 0) = true := by simp at h3; exact h3.1
        simp only [spec_l2Word.l0]
        rw [if_pos (by omega), if_pos (by omega), spec_le, show ((0 : Nat) : Int) = 0 from rfl, h0, w64 (by omega) (by omega)]
        simp
      | false => exact ev_neg (by simp) (ev_eq (Ev.now _) (by simp))
theorem word_in {s : ByteArray} (h : wordD s = true) : 1 ≤ s.size ∧ s.size ≤ 12 := by
  unfold wordD at h
  cases hi : inD s.size with
  | true => exact inD_iff.1 hi
  | false => rw [hi] at h; simp at h
theorem impl_great (s : ByteArray) : Ev (fun k => impl_isGreatWord.f k s) (greatD s) := by
  unfold impl_isGreatWord.f greatD
  refine Ev.bind (impl_word s) ?_
  cases h : wordD s with
  | true =>
    have := word_in h
    refine ev_pos rfl (ev_pos (by omega) (ev_eq (Ev.congr (f := fun _ => some (upD (bt s 0))) (fun k => by rw [impl_up]; rfl) (Ev.now _)) (by simp)))
  | false => exact ev_neg (by simp) (ev_eq (Ev.now _) (by simp))
def lowF (s : ByteArray) (j : Nat) : Bool := ((L s).drop j).all fun b => loD (b.toNat : Int)
def lowD (s : ByteArray) : Bool := lowF s 0
def wsD (l : List ByteArray) : Bool := l.all fun w => inD w.size && lowD w
theorem lowF_step (s : ByteArray) (j : Nat) (h : j < s.size) : lowF s j = (loD (bt s j) && lowF s (j + 1)) := by
  unfold lowF
  have hl : j < (L s).length := by rw [L_len]; exact h
  rw [List.drop_eq_getElem_cons hl, List.all_cons, bt_get s j h]
theorem lowF_end (s : ByteArray) (j : Nat) (h : s.size ≤ j) : lowF s j = true := by
  unfold lowF
  rw [List.drop_of_length_le (by rw [L_len]; exact h)]; rfl
theorem low_all (s : ByteArray) (h : lowD s = true) (j : Nat) (hj : j < s.size) : leD (bt s j) = true := by
  have hl : j < (L s).length := by rw [L_len]; exact hj
  have := List.all_eq_true.1 h _ (by rw [List.drop_zero]; exact List.getElem_mem hl)
  rw [bt_get s j hj]
  unfold leD
  rw [this]; simp
theorem wl_low (s : ByteArray) (h : lowD s = true) (d : Nat) : ∀ i, i + d ≤ s.size → wlD s d i = true := by
  induction d with
  | zero => intro i _; rfl
  | succ d ih =>
    intro i hi
    unfold wlD okD
    rw [low_all s h i (by omega), ih (i + 1) (by omega)]; rfl
theorem word_low (s : ByteArray) : (wordD s && lowD s) = (inD s.size && lowD s) := by
  cases h : lowD s with
  | false => simp
  | true =>
    unfold wordD
    cases hi : inD s.size with
    | false => simp
    | true =>
      obtain ⟨h1, h2⟩ := inD_iff.1 hi
      have e1 := low_all s h 0 (by omega)
      have e2 := low_all s h (s.size - 1) (by omega)
      rw [show ((s.size - 1 : Nat) : Int) = (s.size : Int) - 1 by omega] at e2
      rw [show ((0 : Nat) : Int) = 0 from rfl] at e1
      rw [e1, e2, wl_low s h (s.size - 1) 1 (by omega)]; rfl
theorem rd_get (l : List ByteArray) (i : Nat) (h : i < l.length) : rdOf ByteArray.empty l (i : Int) = l[i] := by simp [rdOf, h]
theorem spec_inner (ws : List ByteArray) (i : Nat) (hi : i < ws.length) (hs : (ws[i]).size ≤ 12) (hl : ws.length ≤ 4611686018427387904) (T : Bool) (hT : Ev (fun k => spec_l2Particle.l0 k ws ((i + 1 : Nat) : Int)) T) (d : Nat) : ∀ j : Nat, j ≤ (ws[i]).size → (ws[i]).size - j = d →
    Ev (fun k => spec_l2Particle.l1 k ws (i : Int) (j : Int)) (lowF ws[i] j && T) := by
  have hw : wrap64 ((i : Int) + 1) = ((i + 1 : Nat) : Int) := by rw [w64 (by omega) (by omega)]; rfl
  induction d with
  | zero =>
    intro j h1 hd
    refine Ev.step (f := fun k => spec_l2Particle.l0 k ws ((i + 1 : Nat) : Int)) (fun k => ?_) (ev_eq hT (by rw [lowF_end _ _ (by omega)]; simp))
    simp only [spec_l2Particle.l1, rd_get ws i hi]
    rw [if_pos (by omega), if_pos (by omega), if_neg (by omega), hw]
  | succ d ih =>
    intro j h1 hd
    rw [lowF_step _ j (by omega)]
    have hw' : wrap64 ((j : Int) + 1) = ((j + 1 : Nat) : Int) := by rw [w64 (by omega) (by omega)]; rfl
    refine Ev.step (f := fun k => if loD (bt ws[i] (j : Int)) = true then spec_l2Particle.l1 k ws (i : Int) ((j + 1 : Nat) : Int) else some false) (fun k => ?_) ?_
    · simp only [spec_l2Particle.l1, rd_get ws i hi]
      rw [if_pos (by omega), if_pos (by omega), if_pos (by omega), if_pos (by omega), hw', spec_lo]; rfl
    · cases h : loD (bt ws[i] (j : Int)) with
      | true => exact ev_pos rfl (ev_eq (ih (j + 1) (by omega) (by omega)) (by simp))
      | false => exact ev_neg (by simp) (ev_eq (Ev.now _) (by simp))
theorem spec_outer (ws : List ByteArray) (hl : ws.length ≤ 4611686018427387904) (d : Nat) : ∀ i : Nat, i ≤ ws.length → ws.length - i = d →
    Ev (fun k => spec_l2Particle.l0 k ws (i : Int)) (wsD (ws.drop i) && decide (ws.length ≤ 2)) := by
  induction d with
  | zero =>
    intro i h1 hd
    refine Ev.step (f := fun k => some (decide ((ws.length : Int) ≤ 2))) (fun k => ?_) (ev_eq (Ev.now _) ?_)
    · simp only [spec_l2Particle.l0]; rw [if_neg (by omega)]
    · rw [List.drop_of_length_le (by omega)]
      show decide _ = (true && decide _)
      rw [Bool.true_and, decide_eq_decide]; omega
  | succ d ih =>
    intro i h1 hd
    have hi : i < ws.length := by omega
    refine Ev.step (f := fun k => (spec_l2Word.f k ws[i]).bind fun t => if t = true then spec_l2Particle.l1 k ws (i : Int) ((0 : Nat) : Int) else some false) (fun k => ?_) ?_
    · simp only [spec_l2Particle.l0, rd_get ws i hi]
      rw [if_pos (by omega), if_pos (by omega)]; rfl
    · refine Ev.bind (spec_word _) ?_
      have e : (wsD (ws.drop i) && decide (ws.length ≤ 2)) = ((wordD ws[i] && lowD ws[i]) && (wsD (ws.drop (i + 1)) && decide (ws.length ≤ 2))) := by
        rw [word_low, List.drop_eq_getElem_cons hi]
        simp only [wsD, List.all_cons, Bool.and_assoc]
      rw [e]
      cases h : wordD ws[i] with
      | true => exact ev_pos rfl (ev_eq (spec_inner ws i hi (word_in h).2 hl _ (ih (i + 1) (by omega) (by omega)) _ 0 (by omega) rfl) (by simp [lowD]))
      | false => exact ev_neg (by simp) (ev_eq (Ev.now _) (by simp))
theorem impl_inner (ws ws' : List ByteArray) (n i : Nat) (w : ByteArray) (hi : i < 4611686018427387904) (hs : w.size ≤ 12) (T : Bool) (hT : Ev (fun k => impl_isParticle.l0 k ws ws' (n : Int) ((i + 1 : Nat) : Int)) T) (d : Nat) : ∀ j : Nat, j ≤ w.size → w.size - j = d →
    Ev (fun k => impl_isParticle.l1 k ws w (j : Int) ws' (n : Int) (i : Int)) (lowF w j && T) := by
  have hw : wrap64 ((i : Int) + 1) = ((i + 1 : Nat) : Int) := by rw [w64 (by omega) (by omega)]; rfl
  induction d with
  | zero =>
    intro j h1 hd
    refine Ev.step (f := fun k => impl_isParticle.l0 k ws ws' (n : Int) ((i + 1 : Nat) : Int)) (fun k => ?_) (ev_eq hT (by rw [lowF_end _ _ (by omega)]; simp))
    simp only [impl_isParticle.l1]
    rw [if_neg (by omega), hw]
  | succ d ih =>
    intro j h1 hd
    rw [lowF_step _ j (by omega)]
    have hw' : wrap64 ((j : Int) + 1) = ((j + 1 : Nat) : Int) := by rw [w64 (by omega) (by omega)]; rfl
    refine Ev.step (f := fun k => if loD (bt w (j : Int)) = true then impl_isParticle.l1 k ws w ((j + 1 : Nat) : Int) ws' (n : Int) (i : Int) else some false) (fun k => ?_) ?_
    · simp only [impl_isParticle.l1]
      rw [if_pos (by omega), if_pos (by omega), hw', impl_lo]; rfl
    · cases h : loD (bt w (j : Int)) with
      | true => exact ev_pos rfl (ev_eq (ih (j + 1) (by omega) (by omega)) (by simp))
      | false => exact ev_neg (by simp) (ev_eq (Ev.now _) (by simp))
theorem impl_outer (ws : List ByteArray) (hl : ws.length ≤ 4611686018427387904) (d : Nat) : ∀ i : Nat, i ≤ ws.length → ws.length - i = d →
    Ev (fun k => impl_isParticle.l0 k ws ws (ws.length : Int) (i : Int)) (wsD (ws.drop i) && decide (ws.length ≤ 2)) := by
  induction d with
  | zero =>
    intro i h1 hd
    refine Ev.step (f := fun k => some (decide ((ws.length : Int) ≤ 2))) (fun k => ?_) (ev_eq (Ev.now _) ?_)
    · simp only [impl_isParticle.l0]; rw [if_neg (by omega)]
    · rw [List.drop_of_length_le (by omega)]
      show decide _ = (true && decide _)
      rw [Bool.true_and, decide_eq_decide]; omega
  | succ d ih =>
    intro i h1 hd
    have hi : i < ws.length := by omega
    have e : (wsD (ws.drop i) && decide (ws.length ≤ 2)) = (inD (ws[i]).size && (lowD ws[i] && (wsD (ws.drop (i + 1)) && decide (ws.length ≤ 2)))) := by
      rw [List.drop_eq_getElem_cons hi]
      simp only [wsD, List.all_cons, Bool.and_assoc]
    rw [e]
    refine Ev.step (f := fun k => if inD (ws[i]).size = true then impl_isParticle.l1 k ws ws[i] ((0 : Nat) : Int) ws (ws.length : Int) (i : Int) else some false) (fun k => ?_) ?_
    · simp only [impl_isParticle.l0, rd_get ws i hi]
      rw [if_pos (by omega), if_pos (by omega), if_pos (by omega), impl_in]; rfl
    · cases h : inD (ws[i]).size with
      | true => exact ev_pos rfl (ev_eq (impl_inner ws ws ws.length i ws[i] (by omega) (inD_iff.1 h).2 _ (ih (i + 1) (by omega) (by omega)) _ 0 (by omega) rfl) (by simp [lowD]))
      | false => exact ev_neg (by simp) (ev_eq (Ev.now _) (by simp))
def wordsOf (s : ByteArray) : List ByteArray := (spl 32 (L s)).map mkB
def partD (s : ByteArray) : Bool := decide (s.size = 0) || (wsD (wordsOf s) && decide ((wordsOf s).length ≤ 2))
theorem wordsOf_len (s : ByteArray) : (wordsOf s).length ≤ s.size + 1 := by
  have := spl_length 32 (L s)
  rw [L_len] at this
  unfold wordsOf
  rw [List.length_map]; exact this
theorem nil_iff (s : ByteArray) : s.toList = ([] : List UInt8) ↔ s.size = 0 := by rw [toList_L, size_pos_iff]
theorem split_sp (s : ByteArray) (c : UInt8) (hs : s.size ≤ 4294967280) : strings_Split.f s (⟨#[c]⟩ : ByteArray) = some ((spl c (L s)).map mkB) := by
  have e : (⟨#[c]⟩ : ByteArray) = mkB [c] := rfl
  have h1 : (mkB [c]).size = 1 := by rw [size_mk]; rfl
  have hc := Lib.countB_le (mkB [c]) (by omega) s.size s (Nat.le_refl _)
  unfold strings_Split.f
  rw [e, if_pos ⟨by omega, by omega, Lib.splitB_all (mkB [c]) (by omega) 0 _ s rfl, by omega⟩, splitB_eq]
theorem spec_part (s : ByteArray) (hs : s.size ≤ 4294967280) : Ev (fun k => spec_l2Particle.f k s) (partD s) := by
  unfold spec_l2Particle.f partD
  by_cases h : s.size = 0
  · exact ev_pos ((nil_iff s).2 h) (ev_eq (Ev.now _) (by simp [h]))
  · refine ev_neg (fun e => h ((nil_iff s).1 e)) (Ev.bind (split_ev s 32 (by omega)) (ev_eq (spec_outer (wordsOf s) (by have := wordsOf_len s; omega) _ 0 (by omega) rfl) ?_))
    simp [h]
theorem impl_part (s : ByteArray) (hs : s.size ≤ 4294967280) : Ev (fun k => impl_isParticle.f k s) (partD s) := by
  unfold impl_isParticle.f partD
  by_cases h : s.size = 0
  · exact ev_pos ((nil_iff s).2 h) (ev_eq (Ev.now _) (by simp [h]))
  · refine ev_neg (fun e => h ((nil_iff s).1 e)) (ev_bind0 (split_sp s 32 hs) (ev_eq (impl_outer (wordsOf s) (by have := wordsOf_len s; omega) _ 0 (by omega) rfl) ?_))
    simp [h]
def rngD (c : Int) : Bool := decide (32 ≤ c) && decide (c ≤ 126)
def rngF (s : ByteArray) : Nat → Nat → Bool
  | 0, _ => true
  | d + 1, i => rngD (bt s (i : Int)) && rngF s d (i + 1)
def edgeD (s : ByteArray) : Bool := !decide (bt s 0 = 32) && !decide (bt s ((s.size : Int) - 1) = 32)
theorem trimR (n : Nat) : ∀ s : ByteArray, s.size = n → n ≤ 4611686018427387904 → ∃ t, Ev (fun k => strings_trimRightByte.f k s 32) t ∧ t.size ≤ n ∧ (1 ≤ n → bt s ((n : Int) - 1) = 32 → t.size < n) ∧ ((n = 0 ∨ bt s ((n : Int) - 1) ≠ 32) → t = s) := by
  induction n with
  | zero =>
    intro s hs hb
    refine ⟨s, Ev.step (f := fun _ => some s) (fun k => ?_) (Ev.now _), by omega, fun h => by omega, fun _ => rfl⟩
    simp only [strings_trimRightByte.f, strings_trimRightByte.l0]; rw [if_neg (by omega)]
  | succ n ih =>
    intro s hs hb
    have hw : wrap64 ((s.size : Int) - 1) = (n : Int) := by rw [w64 (by omega) (by omega)]; omega
    have e0 : ((n + 1 : Nat) : Int) - 1 = (n : Int) := by omega
    rw [e0]
    by_cases c : bt s (n : Int) = 32
    · have hs' : (s.extract 0 n).size = n := by rw [ByteArray.size_extract]; omega
      obtain ⟨t, ht, h1, _, _⟩ := ih (s.extract 0 n) hs' (by omega)
      refine ⟨t, Ev.step (f := fun k => strings_trimRightByte.f k (s.extract 0 n) 32) (fun k => ?_) ht, by omega, fun _ _ => by omega, fun h => ?_⟩
      · simp only [strings_trimRightByte.f, strings_trimRightByte.l0, hw]
        rw [if_pos (by omega), if_pos (by omega), if_pos (by omega), if_pos c, if_pos (by omega), Int.toNat_natCast]
      · rcases h with h | h
        · omega
        · exact absurd c h
    · refine ⟨s, Ev.step (f := fun _ => some s) (fun k => ?_) (Ev.now _), by omega, fun _ h => absurd h c, fun _ => rfl⟩
      simp only [strings_trimRightByte.f, strings_trimRightByte.l0, hw]
      rw [if_pos (by omega), if_pos (by omega), if_pos (by omega), if_neg c]
theorem trimL (n : Nat) : ∀ s : ByteArray, s.size = n → n ≤ 4611686018427387904 → ∃ t, Ev (fun k => strings_trimLeftByte.f k s 32) t ∧ t.size ≤ n ∧ (1 ≤ n → bt s 0 = 32 → t.size < n) ∧ ((n = 0 ∨ bt s 0 ≠ 32) → t = s) := by
  induction n with
  | zero =>
    intro s hs hb
    refine ⟨s, Ev.step (f := fun _ => some s) (fun k => ?_) (Ev.now _), by omega, fun h => by omega, fun _ => rfl⟩
    simp only [strings_trimLeftByte.f, strings_trimLeftByte.l0]; rw [if_neg (by omega)]
  | succ n ih =>
    intro s hs hb
    by_cases c : bt s 0 = 32
    · have hs' : (s.extract 1 s.size).size = n := by rw [ByteArray.size_extract]; omega
      obtain ⟨t, ht, h1, _, _⟩ := ih (s.extract 1 s.size) hs' (by omega)
      refine ⟨t, Ev.step (f := fun k => strings_trimLeftByte.f k (s.extract 1 s.size) 32) (fun k => ?_) ht, by omega, fun _ _ => by omega, fun h => ?_⟩
      · simp only [strings_trimLeftByte.f, strings_trimLeftByte.l0]
        rw [if_pos (by omega), if_pos (by omega), if_pos c, if_pos (by omega)]
      · rcases h with h | h
        · omega
        · exact absurd c h
    · refine ⟨s, Ev.step (f := fun _ => some s) (fun k => ?_) (Ev.now _), by omega, fun _ h => absurd h c, fun _ => rfl⟩
      simp only [strings_trimLeftByte.f, strings_trimLeftByte.l0]
      rw [if_pos (by omega), if_pos (by omega), if_neg c]
theorem trim_ev (s : ByteArray) (h1 : 1 ≤ s.size) (h2 : s.size ≤ 4611686018427387904) : ∃ t, Ev (fun k => strings_Trim.f k s (⟨#[32]⟩ : ByteArray)) t ∧ (t.toList == s.toList) = edgeD s := by
  obtain ⟨t1, ht1, ha, hb, hc⟩ := trimR s.size s rfl h2
  obtain ⟨t2, ht2, ha', hb', hc'⟩ := trimL t1.size t1 rfl (by omega)
  refine ⟨t2, ?_, ?_⟩
  · unfold strings_Trim.f
    have hz : ¬ s.toList = ([] : List UInt8) := fun e => by rw [toList_L] at e; have := (size_pos_iff s).2 e; omega
    refine ev_neg hz ?_
    have e1 : ((⟨#[32]⟩ : ByteArray).toList == ([] : List UInt8)) = false := by rw [toList_L]; rfl
    have e2 : ((⟨#[32]⟩ : ByteArray).size : Int) = 1 := rfl
    have e3 : bt (⟨#[32]⟩ : ByteArray) 0 = 32 := rfl
    rw [e1]
    refine Ev.step (f := fun k => strings_Trim.j1 k s (⟨#[32]⟩ : ByteArray) true) (fun k => ?_) (Ev.step (f := fun k => (strings_trimRightByte.f k s 32).bind fun t => (strings_trimLeftByte.f k t 32).bind fun u => some u) (fun k => ?_) (Ev.bind ht1 (Ev.bind ht2 (Ev.now _))))
    · simp only [strings_Trim.j0]
      rw [if_neg (by simp), e2, if_pos rfl, if_pos (by omega), e3]; rfl
    · simp only [strings_Trim.j1]
      rw [if_pos trivial, e2, if_pos (by omega), e3]
  · unfold edgeD
    by_cases c : bt s ((s.size : Int) - 1) = 32
    · have : t2.size < s.size := by have := hb h1 c; omega
      have ne : ¬ t2.toList = s.toList := fun e => by have := toList_eq_iff.1 e; subst this; omega
      rw [show (t2.toList == s.toList) = false by simpa using ne]; simp [c]
    · have e := hc (Or.inr c)
      subst e
      by_cases c0 : bt t1 0 = 32
      · have h3 := hb' h1 c0
        have ne : ¬ t2.toList = t1.toList := fun e => by have := toList_eq_iff.1 e; subst this; omega
        rw [show (t2.toList == t1.toList) = false by simpa using ne]; simp [c0]
      · have e := hc' (Or.inr c0)
        subst e
        simp [c, c0]
theorem print_loop (s : ByteArray) (h1 : 1 ≤ s.size) (h2 : s.size ≤ 100) (d : Nat) : ∀ i : Nat, i ≤ s.size → s.size - i = d →
    Ev (fun k => impl_isPrintable.l0 k s (i : Int)) (rngF s d i && edgeD s) := by
  induction d with
  | zero =>
    intro i hi hd
    obtain ⟨t, ht, e⟩ := trim_ev s h1 (by omega)
    refine Ev.step (f := fun k => (strings_Trim.f k s (⟨#[32]⟩ : ByteArray)).bind fun t231 => (some (t231.toList == s.toList))) (fun k => ?_) (Ev.bind ht (ev_eq (Ev.now _) (by rw [e]; simp [rngF])))
    simp only [impl_isPrintable.l0]; rw [if_neg (by omega)]
  | succ d ih =>
    intro i hi hd
    have hw : wrap64 ((i : Int) + 1) = ((i + 1 : Nat) : Int) := by rw [w64 (by omega) (by omega)]; rfl
    refine Ev.step (f := fun k => if rngD (bt s (i : Int)) = true then impl_isPrintable.l0 k s ((i + 1 : Nat) : Int) else some false) (fun k => ?_) ?_
    · simp only [impl_isPrintable.l0]
      rw [if_pos (by omega), if_pos (by omega), hw]
      unfold rngD
      by_cases c1 : bt s (i : Int) < 32
      · rw [if_pos c1, if_neg (by simp; omega)]
      · rw [if_neg c1]
        by_cases c2 : bt s (i : Int) > 126
        · rw [if_pos c2, if_neg (by simp; omega)]
        · rw [if_neg c2, if_pos (by simp; omega)]
    · unfold rngF
      cases h : rngD (bt s (i : Int)) with
      | true => exact ev_pos rfl (ev_eq (ih (i + 1) (by omega) (by omega)) (by simp))
      | false => exact ev_neg (by simp) (ev_eq (Ev.now _) (by simp))
theorem trim_nil (s : ByteArray) (h : s.size = 0) : Ev (fun k => strings_Trim.f k s (⟨#[32]⟩ : ByteArray)) s := by
  unfold strings_Trim.f
  refine ev_pos ((nil_iff s).2 h) (Ev.step (f := fun _ => some s) (fun k => ?_) (Ev.now _))
  simp only [strings_Trim.j0]
  rw [if_pos trivial]
def textD (s : ByteArray) : Bool := decide (s.size ≤ 40) && (decide (s.size = 0) || (rngF s s.size 0 && edgeD s))
theorem impl_text (s : ByteArray) : Ev (fun k => impl_isText.f k s) (textD s) := by
  unfold impl_isText.f textD
  by_cases h : s.size ≤ 40
  · refine ev_pos (by omega) ?_
    unfold impl_isPrintable.f
    by_cases h0 : s.size = 0
    · refine Ev.bind (a := true) ?_ (ev_eq (Ev.now _) (by simp [h, h0]))
      refine Ev.step (f := fun k => (strings_Trim.f k s (⟨#[32]⟩ : ByteArray)).bind fun t231 => (some (t231.toList == s.toList))) (fun k => ?_) (Ev.bind (trim_nil s h0) (ev_eq (Ev.now _) (by simp)))
      simp only [impl_isPrintable.l0]; rw [if_neg (by omega)]
    · exact Ev.bind (print_loop s (by omega) (by omega) _ 0 (by omega) rfl) (ev_eq (Ev.now _) (by simp [h, h0]))
  · exact ev_neg (by omega) (ev_eq (Ev.now _) (by simp [h]))
theorem spec_text_end (s : ByteArray) (h2 : s.size ≤ 40) : Ev (fun k => spec_l4Text.l0 k s (s.size : Int)) (decide (s.size = 0) || edgeD s) := by
  refine Ev.step (f := fun _ => some (decide (s.size = 0) || edgeD s)) (fun k => ?_) (Ev.now _)
  simp only [spec_l4Text.l0]
  rw [if_neg (by omega)]
  by_cases h0 : s.size = 0
  · rw [if_pos ((nil_iff s).2 h0)]; simp [h0]
  · have hw : wrap64 ((s.size : Int) - 1) = (s.size : Int) - 1 := w64 (by omega) (by omega)
    rw [if_neg (fun e => h0 ((nil_iff s).1 e)), if_pos (by omega)]
    unfold edgeD
    by_cases c : bt s 0 = 32
    · rw [if_pos c]; simp [c, h0]
    · rw [if_neg c, hw, if_pos (by omega), if_pos (by omega)]
      by_cases e : bt s ((s.size : Int) - 1) = 32
      · rw [e]; simp [h0]
      · rw [show (bt s ((s.size : Int) - 1) != 32) = true from bne_iff_ne.2 e]; simp [c, e, h0]
theorem spec_text_loop (s : ByteArray) (h2 : s.size ≤ 40) (d : Nat) : ∀ i : Nat, i ≤ s.size → s.size - i = d →
    Ev (fun k => spec_l4Text.l0 k s (i : Int)) (rngF s d i && (decide (s.size = 0) || edgeD s)) := by
  induction d with
  | zero =>
    intro i hi hd
    obtain rfl : i = s.size := by omega
    exact ev_eq (spec_text_end s h2) (by simp [rngF])
  | succ d ih =>
    intro i hi hd
    have hw : wrap64 ((i : Int) + 1) = ((i + 1 : Nat) : Int) := by rw [w64 (by omega) (by omega)]; rfl
    refine Ev.step (f := fun k => if rngD (bt s (i : Int)) = true then spec_l4Text.l0 k s ((i + 1 : Nat) : Int) else some false) (fun k => ?_) ?_
    · simp only [spec_l4Text.l0]
      rw [if_pos (by omega), if_pos (by omega), hw]
      unfold rngD
      by_cases c1 : bt s (i : Int) < 32
      · rw [if_pos c1, if_neg (by simp; omega)]
      · rw [if_neg c1]
        by_cases c2 : bt s (i : Int) > 126
        · rw [if_pos c2, if_neg (by simp; omega)]
        · rw [if_neg c2, if_pos (by simp; omega)]
    · unfold rngF
      cases h : rngD (bt s (i : Int)) with
      | true => exact ev_pos rfl (ev_eq (ih (i + 1) (by omega) (by omega)) (by simp))
      | false => exact ev_neg (by simp) (ev_eq (Ev.now _) (by simp))
theorem spec_text (s : ByteArray) : Ev (fun k => spec_l4Text.f k s) (textD s) := by
  unfold spec_l4Text.f textD
  by_cases h : s.size ≤ 40
  · refine ev_neg (by omega) (ev_eq (spec_text_loop s h _ 0 (by omega) rfl) ?_)
    by_cases h0 : s.size = 0
    · rw [h0]; simp [rngF]
    · simp [h, h0]
  · exact ev_pos (by omega) (ev_eq (Ev.now _) (by simp [h]))
def digD (c : Int) : Bool := decide (48 ≤ c) && decide (c ≤ 57)
def keyC (c : Int) : Bool := loD c || digD c
def keyF (s : ByteArray) : Nat → Nat → Bool
  | 0, _ => true
  | d + 1, i => keyC (bt s (i : Int)) && keyF s d (i + 1)
def inK (n : Nat) : Bool := decide (1 ≤ n) && decide (n ≤ 10)
def keyD (s : ByteArray) : Bool := inK s.size && (loD (bt s 0) && keyF s s.size 0)
theorem in10 (n : Nat) : (if (n : Int) ≥ 1 then some (decide ((n : Int) ≤ 10)) else some false) = some (inK n) := by
  unfold inK
  by_cases h : 1 ≤ n
  · rw [if_pos (by omega)]
    congr 1
    rw [decide_eq_true h, Bool.true_and, decide_eq_decide]; omega
  · rw [if_neg (by omega)]; simp [h]
theorem inK_iff {n : Nat} : inK n = true ↔ 1 ≤ n ∧ n ≤ 10 := by simp [inK]
theorem impl_dig (c : Int) : impl_isDigit.f c = some (digD c) := by unfold impl_isDigit.f digD; by_cases h : 48 ≤ c <;> simp [h]
theorem spec_key_loop (s : ByteArray) (h2 : s.size ≤ 10) (d : Nat) : ∀ i : Nat, i ≤ s.size → s.size - i = d → Ev (fun k => spec_l4Key.l0 k s (i : Int)) (keyF s d i) := by
  induction d with
  | zero =>
    intro i hi hd
    refine Ev.step (f := fun _ => some true) (fun k => ?_) (Ev.now _)
    simp only [spec_l4Key.l0]; rw [if_neg (by omega)]
  | succ d ih =>
    intro i hi hd
    have hw : wrap64 ((i : Int) + 1) = ((i + 1 : Nat) : Int) := by rw [w64 (by omega) (by omega)]; rfl
    refine Ev.step (f := fun k => if keyC (bt s (i : Int)) = true then spec_l4Key.l0 k s ((i + 1 : Nat) : Int) else some false) (fun k => ?_) ?_
    · simp only [spec_l4Key.l0]
      rw [if_pos (by omega), if_pos (by omega), hw, spec_lo]
      simp only [Option.bind_some]
      unfold keyC
      cases loD (bt s (i : Int)) with
      | true => rw [if_pos rfl, Bool.true_or, if_pos rfl]
      | false =>
        rw [if_neg (by simp)]
        unfold digD
        by_cases c1 : bt s (i : Int) < 48
        · rw [if_pos c1, if_neg (by simp; omega)]
        · rw [if_neg c1]
          by_cases c2 : bt s (i : Int) > 57
          · rw [if_pos c2, if_neg (by simp; omega)]
          · rw [if_neg c2, if_pos (by simp; omega)]
    · unfold keyF
      cases h : keyC (bt s (i : Int)) with
      | true => exact ev_pos rfl (ev_eq (ih (i + 1) (by omega) (by omega)) (by simp))
      | false => exact ev_neg (by simp) (ev_eq (Ev.now _) (by simp))
theorem impl_key_loop (s : ByteArray) (h2 : s.size ≤ 10) (d : Nat) : ∀ i : Nat, i ≤ s.size → s.size - i = d → Ev (fun k => impl_isKey.l0 k s (i : Int)) (keyF s d i) := by
  induction d with
  | zero =>
    intro i hi hd
    refine Ev.step (f := fun _ => some true) (fun k => ?_) (Ev.now _)
    simp only [impl_isKey.l0]; rw [if_neg (by omega)]
  | succ d ih =>
    intro i hi hd
    have hw : wrap64 ((i : Int) + 1) = ((i + 1 : Nat) : Int) := by rw [w64 (by omega) (by omega)]; rfl
    refine Ev.step (f := fun k => if keyC (bt s (i : Int)) = true then impl_isKey.l0 k s ((i + 1 : Nat) : Int) else some false) (fun k => ?_) ?_
    · simp only [impl_isKey.l0]
      rw [if_pos (by omega), if_pos (by omega), hw, impl_lo]
      simp only [Option.bind_some]
      unfold keyC
      cases loD (bt s (i : Int)) with
      | true => rw [if_pos rfl, Bool.true_or, if_pos rfl]
      | false =>
        rw [if_neg (by simp), impl_dig]
        simp only [Option.bind_some, Bool.false_or]
    · unfold keyF
      cases h : keyC (bt s (i : Int)) with
      | true => exact ev_pos rfl (ev_eq (ih (i + 1) (by omega) (by omega)) (by simp))
      | false => exact ev_neg (by simp) (ev_eq (Ev.now _) (by simp))
theorem spec_key (s : ByteArray) : Ev (fun k => spec_l4Key.f k s) (keyD s) := by
  have hj1 : Ev (fun k => spec_l4Key.j0 k s true) false := Ev.step (f := fun _ => some false) (fun k => by simp [spec_l4Key.j0]) (Ev.now _)
  unfold spec_l4Key.f spec_l1In.f keyD
  rw [in10]
  refine Ev.bind (a := inK s.size) (Ev.now _) ?_
  cases h : inK s.size with
  | false => exact ev_neg (by simp) (ev_eq hj1 (by simp))
  | true =>
    obtain ⟨h1, h2⟩ := inK_iff.1 h
    refine ev_pos rfl (ev_pos (by omega) (ev_bind0 (spec_lo _) ?_))
    cases loD (bt s 0) with
    | false => exact ev_eq hj1 (by simp)
    | true => exact Ev.step (f := fun k => spec_l4Key.l0 k s ((0 : Nat) : Int)) (fun k => by simp [spec_l4Key.j0]) (ev_eq (spec_key_loop s h2 _ 0 (by omega) rfl) (by simp))
theorem impl_key (s : ByteArray) : Ev (fun k => impl_isKey.f k s) (keyD s) := by
  have hj1 : Ev (fun k => impl_isKey.j0 k s true) false := Ev.step (f := fun _ => some false) (fun k => by simp [impl_isKey.j0]) (Ev.now _)
  unfold impl_isKey.f impl_inside.f keyD
  rw [in10]
  refine Ev.bind (a := inK s.size) (Ev.now _) ?_
  cases h : inK s.size with
  | false => exact ev_neg (by simp) (ev_eq hj1 (by simp))
  | true =>
    obtain ⟨h1, h2⟩ := inK_iff.1 h
    refine ev_pos rfl (ev_pos (by omega) (ev_bind0 (impl_lo _) ?_))
    cases loD (bt s 0) with
    | false => exact ev_eq hj1 (by simp)
    | true => exact Ev.step (f := fun k => impl_isKey.l0 k s ((0 : Nat) : Int)) (fun k => by simp [impl_isKey.j0]) (ev_eq (impl_key_loop s h2 _ 0 (by omega) rfl) (by simp))
def bytesS (l : List ByteArray) : Nat := (l.map (·.size)).sum
def bulkS (l : List ByteArray) : Nat := l.length + bytesS l
theorem bytesS_cons (a : ByteArray) (l : List ByteArray) : bytesS (a :: l) = a.size + bytesS l := by simp [bytesS]
def lftOf (left : Int) (n : Nat) : Int := if (n : Int) ≤ left then left - n else -1
theorem szS_loop (l : List ByteArray) (hb : ∀ s ∈ l, s.size ≤ 9223372036854775807) (hl : l.length ≤ 9223372036854775807) (d : Nat) : ∀ (left : Int) (i : Nat), 0 ≤ left → left ≤ 4611686018427387904 → l.length - i = d → i ≤ l.length →
    Ev (fun k => laws_szStringS.l0 k l left i) (lftOf left (bytesS (l.drop i))) := by
  induction d with
  | zero =>
    intro left i h0 h1 hd hi
    refine Ev.step (f := fun _ => some left) (fun k => ?_) (ev_eq (Ev.now _) ?_)
    · simp only [laws_szStringS.l0]; rw [if_neg (by omega)]
    · rw [List.drop_of_length_le (by omega)]; simp [lftOf, bytesS]; omega
  | succ d ih =>
    intro left i h0 h1 hd hi
    have hlt : i < l.length := by omega
    have hs := hb l[i] (List.getElem_mem hlt)
    have hr : rdOf ByteArray.empty l (i : Int) = l[i] := by simp [rdOf, hlt]
    have hw : wrap64 (left - (l[i].size : Int)) = left - (l[i].size : Int) := w64 (by omega) (by omega)
    rw [List.drop_eq_getElem_cons hlt, bytesS_cons]
    by_cases hn : left - (l[i].size : Int) < 0
    · refine Ev.step (f := fun _ => some (-1)) (fun k => ?_) (ev_eq (Ev.now _) ?_)
      · simp only [laws_szStringS.l0]; rw [if_pos (by omega), if_pos (by omega), hr, hw, if_pos hn]
      · unfold lftOf; rw [if_neg (by omega)]
    · refine Ev.step (f := fun k => laws_szStringS.l0 k l (left - (l[i].size : Int)) ((i + 1 : Nat) : Int)) (fun k => ?_) (ev_eq (ih (left - (l[i].size : Int)) (i + 1) (by omega) (by omega) (by omega) (by omega)) ?_)
      · simp only [laws_szStringS.l0]; rw [if_pos (by omega), if_pos (by omega), hr, hw, if_neg hn, w64 (x := (i : Int) + 1) (by omega) (by omega)]; rfl
      · unfold lftOf; split <;> split <;> omega
theorem szS_ev (l : List ByteArray) (hb : ∀ s ∈ l, s.size ≤ 9223372036854775807) (hl : l.length ≤ 9223372036854775807) (left : Int) (h0 : 0 ≤ left) (h1 : left ≤ 4611686018427387904) :
    Ev (fun k => laws_szStringS.f k l left) (lftOf left (bulkS l)) := by
  unfold laws_szStringS.f
  have hw : wrap64 (left - (l.length : Int)) = left - (l.length : Int) := w64 (by omega) (by omega)
  rw [hw]
  by_cases hn : left - (l.length : Int) < 0
  · refine ev_pos hn (ev_eq (Ev.now _) ?_)
    unfold lftOf bulkS; rw [if_neg (by omega)]
  · refine ev_neg hn (ev_eq (szS_loop l hb hl l.length (left - l.length) 0 (by omega) (by omega) rfl (by omega)) ?_)
    rw [List.drop_zero]
    unfold lftOf bulkS; split <;> split <;> omega
theorem toS_loop (l : List ByteArray) (hl : l.length ≤ 17592186044416) (d : Nat) : ∀ (i : Nat), l.length - i = d → i ≤ l.length →
    Ev (fun k => laws_toStringS.l0 k l (l.take i ++ List.replicate (l.length - i) (⟨#[]⟩ : ByteArray)) i) l := by
  induction d with
  | zero =>
    intro i hd hi
    refine Ev.step (f := fun _ => some l) (fun k => ?_) (Ev.now _)
    simp only [laws_toStringS.l0]; rw [if_neg (by omega), hd, List.take_of_length_le (by omega)]; simp
  | succ d ih =>
    intro i hd hi
    have hlt : i < l.length := by omega
    refine Ev.step (f := fun k => laws_toStringS.l0 k l (l.take (i + 1) ++ List.replicate (l.length - (i + 1)) (⟨#[]⟩ : ByteArray)) ((i + 1 : Nat) : Int)) (fun k => ?_) (ih (i + 1) (by omega) (by omega))
    have hr : rdOf ByteArray.empty l (i : Int) = l[i] := by simp [rdOf, hlt]
    have hlen : (l.take i).length = i := by simp; omega
    have e : (l.take i ++ List.replicate (l.length - i) (⟨#[]⟩ : ByteArray)).set i l[i] = l.take (i + 1) ++ List.replicate (l.length - (i + 1)) (⟨#[]⟩ : ByteArray) := by
      rw [List.set_append_right _ _ (by omega), hlen, Nat.sub_self, show l.length - i = (l.length - (i + 1)) + 1 by omega, List.replicate_succ, List.set_cons_zero, List.take_succ_eq_append_getElem hlt, List.append_assoc]
      rfl
    simp only [laws_toStringS.l0]
    rw [if_pos (by omega), if_pos (by omega), if_pos (by simp; omega), hr, w64 (x := (i : Int) + 1) (by omega) (by omega), Int.toNat_natCast, e]
    rfl
theorem toS_ev (l : List ByteArray) (hl : l.length ≤ 17592186044416) : Ev (fun k => laws_toStringS.f k l) l := by
  unfold laws_toStringS.f
  refine ev_pos (by omega) (ev_pos (by omega) ?_)
  have := toS_loop l hl l.length 0 rfl (by omega)
  simpa using this
def sufD (S : ByteArray) : Bool := decide (S.size = 0) || wordD S
def restD (P F S : ByteArray) : Bool := partD P && (greatD F && sufD S)
def goodN (G : List ByteArray) (P F S : ByteArray) : Bool := G.all greatD && (decide (G.length ≤ 3) && restD P F S)
theorem spec_tail (P F S : ByteArray) (hP : P.size ≤ 4294967280) : Ev (fun k => (spec_l2Particle.f k P).bind fun t134 => (if t134 = true then ((spec_l2Word.f k F).bind fun t135 => (if t135 = true then (if 0 < (F.size : Int) then ((spec_l2Upper.f (bt F 0)).bind fun t136 => (if t136 = true then (if S.toList = ([] : List UInt8) then (some true) else ((spec_l2Word.f k S).bind fun t137 => (some t137))) else (some false))) else (none)) else (some false))) else (some false))) (restD P F S) := by
  unfold restD
  refine Ev.bind (spec_part P hP) ?_
  cases partD P with
  | false => exact ev_neg (by simp) (Ev.now _)
  | true =>
    refine ev_pos rfl (Ev.bind (spec_word F) ?_)
    unfold greatD
    cases h : wordD F with
    | false => exact ev_neg (by simp) (Ev.now _)
    | true =>
      have := word_in h
      refine ev_pos rfl (ev_pos (by omega) (ev_bind0 (spec_up _) ?_))
      cases upD (bt F 0) with
      | false => exact ev_neg (by simp) (Ev.now _)
      | true =>
        refine ev_pos rfl ?_
        unfold sufD
        by_cases h : S.size = 0
        · exact ev_pos ((nil_iff S).2 h) (ev_eq (Ev.now _) (by simp [h]))
        · exact ev_neg (fun e => h ((nil_iff S).1 e)) (Ev.bind (spec_word S) (ev_eq (Ev.now _) (by simp [h])))
theorem spec_good_loop (G : List ByteArray) (P F S : ByteArray) (hG : G.length ≤ 4611686018427387904) (hP : P.size ≤ 4294967280) (d : Nat) : ∀ i : Nat, i ≤ G.length → G.length - i = d →
    Ev (fun k => spec_l2Good.l0 k (i : Int) G P F S) ((G.drop i).all greatD && (decide (G.length ≤ 3) && restD P F S)) := by
  induction d with
  | zero =>
    intro i h1 hd
    refine Ev.step (f := fun k => if (G.length : Int) ≤ 3 then ((spec_l2Particle.f k P).bind fun t134 => (if t134 = true then ((spec_l2Word.f k F).bind fun t135 => (if t135 = true then (if 0 < (F.size : Int) then ((spec_l2Upper.f (bt F 0)).bind fun t136 => (if t136 = true then (if S.toList = ([] : List UInt8) then (some true) else ((spec_l2Word.f k S).bind fun t137 => (some t137))) else (some false))) else (none)) else (some false))) else (some false))) else some false) (fun k => ?_) ?_
    · simp only [spec_l2Good.l0]; rw [if_neg (by omega)]
    · rw [List.drop_of_length_le (by omega)]
      by_cases h : G.length ≤ 3
      · exact ev_pos (by omega) (ev_eq (spec_tail P F S hP) (by simp [h]))
      · exact ev_neg (by omega) (ev_eq (Ev.now _) (by simp [h]))
  | succ d ih =>
    intro i h1 hd
    have hi : i < G.length := by omega
    have hw : wrap64 ((i : Int) + 1) = ((i + 1 : Nat) : Int) := by rw [w64 (by omega) (by omega)]; rfl
    rw [List.drop_eq_getElem_cons hi, List.all_cons, Bool.and_assoc]
    refine Ev.step (f := fun k => (spec_l2Word.f k G[i]).bind fun t131 => (if t131 = true then (if 0 < ((G[i]).size : Int) then ((spec_l2Upper.f (bt G[i] 0)).bind fun t133 => (if t133 = true then (spec_l2Good.l0 k ((i + 1 : Nat) : Int) G P F S) else (some false))) else (none)) else (some false))) (fun k => ?_) ?_
    · simp only [spec_l2Good.l0, rd_get G i hi]
      rw [if_pos (by omega), if_pos (by omega), hw]
    · refine Ev.bind (spec_word _) ?_
      rw [show greatD G[i] = (wordD G[i] && upD (bt G[i] 0)) from rfl]
      cases h : wordD G[i] with
      | false => exact ev_neg (by simp) (ev_eq (Ev.now _) (by simp))
      | true =>
        have := word_in h
        refine ev_pos rfl (ev_pos (by omega) (ev_bind0 (spec_up _) ?_))
        cases upD (bt G[i] 0) with
        | false => exact ev_neg (by simp) (ev_eq (Ev.now _) (by simp))
        | true => exact ev_pos rfl (ev_eq (ih (i + 1) (by omega) (by omega)) (by simp))
theorem spec_name (G : List ByteArray) (P F S : ByteArray) (hG : G.length ≤ 4611686018427387904) (hP : P.size ≤ 4294967280) : Ev (fun k => spec_l2Good.f k G P F S) (goodN G P F S) := by
  have := spec_good_loop G P F S hG hP _ 0 (by omega) rfl
  unfold spec_l2Good.f goodN
  rw [List.drop_zero] at this
  exact this
theorem idx_loop (G : List ByteArray) (hG : G.length ≤ 4611686018427387904) (d : Nat) : ∀ i : Nat, i ≤ G.length → G.length - i = d →
    ∃ v, Ev (fun k => slices_IndexFunc_string_string_at_67.l0 k G (G.length : Int) (i : Int)) v ∧ decide (v ≥ 0) = !((G.drop i).all greatD) := by
  induction d with
  | zero =>
    intro i h1 hd
    refine ⟨-1, Ev.step (f := fun _ => some (-1)) (fun k => ?_) (Ev.now _), ?_⟩
    · simp only [slices_IndexFunc_string_string_at_67.l0]; rw [if_neg (by omega)]
    · rw [List.drop_of_length_le (by omega)]; simp
  | succ d ih =>
    intro i h1 hd
    have hi : i < G.length := by omega
    have hw : wrap64 ((i : Int) + 1) = ((i + 1 : Nat) : Int) := by rw [w64 (by omega) (by omega)]; rfl
    rw [List.drop_eq_getElem_cons hi, List.all_cons]
    have hst : ∀ v, Ev (fun k => (impl_IsValidName_1.f k G[i]).bind fun t => if t = true then some (i : Int) else slices_IndexFunc_string_string_at_67.l0 k G (G.length : Int) ((i + 1 : Nat) : Int)) v → Ev (fun k => slices_IndexFunc_string_string_at_67.l0 k G (G.length : Int) (i : Int)) v := by
      intro v hv
      refine Ev.step (fun k => ?_) hv
      simp only [slices_IndexFunc_string_string_at_67.l0, rd_get G i hi]
      rw [if_pos (by omega), if_pos (by omega), if_pos (by omega), hw]
    have hf : Ev (fun k => impl_IsValidName_1.f k G[i]) (!greatD G[i]) := by
      unfold impl_IsValidName_1.f
      exact Ev.bind (impl_great _) (Ev.now _)
    cases h : greatD G[i] with
    | true =>
      obtain ⟨v, hv, e⟩ := ih (i + 1) (by omega) (by omega)
      refine ⟨v, hst v (Ev.bind hf (ev_neg (by simp [h]) hv)), ?_⟩
      rw [e]; simp
    | false =>
      refine ⟨(i : Int), hst _ (Ev.bind hf (ev_pos (by simp [h]) (Ev.now _))), ?_⟩
      simp
theorem contains_ev (G : List ByteArray) (hG : G.length ≤ 4611686018427387904) : Ev (fun k => slices_ContainsFunc_string_string_at_67.f k G) (!(G.all greatD)) := by
  obtain ⟨v, hv, e⟩ := idx_loop G hG _ 0 (by omega) rfl
  unfold slices_ContainsFunc_string_string_at_67.f slices_IndexFunc_string_string_at_67.f
  rw [List.drop_zero] at e
  exact Ev.bind hv (ev_eq (Ev.now _) e)
theorem impl_valid (G : List ByteArray) (P F S : ByteArray) (hG : G.length ≤ 4611686018427387904) (hP : P.size ≤ 4294967280) : Ev (fun k => impl_IsValidName.f k G P F S) (goodN G P F S) := by
  have hj1 : Ev (fun k => impl_IsValidName.j0 k true G P F S) false := Ev.step (f := fun _ => some false) (fun k => by simp [impl_IsValidName.j0]) (Ev.now _)
  have hj0 : Ev (fun k => impl_IsValidName.j0 k false G P F S) (restD P F S) := by
    refine Ev.step (f := fun k => (impl_isParticle.f k P).bind fun t172 => (if t172 = true then ((impl_isGreatWord.f k F).bind fun t173 => (if t173 = true then (if S.toList = ([] : List UInt8) then (some true) else ((impl_isNameWord.f k S).bind fun t174 => (some t174))) else (some false))) else (some false))) (fun k => by simp [impl_IsValidName.j0]) ?_
    unfold restD
    refine Ev.bind (impl_part P hP) ?_
    cases partD P with
    | false => exact ev_neg (by simp) (Ev.now _)
    | true =>
      refine ev_pos rfl (Ev.bind (impl_great F) ?_)
      cases greatD F with
      | false => exact ev_neg (by simp) (Ev.now _)
      | true =>
        refine ev_pos rfl ?_
        unfold sufD
        by_cases h : S.size = 0
        · exact ev_pos ((nil_iff S).2 h) (ev_eq (Ev.now _) (by simp [h]))
        · exact ev_neg (fun e => h ((nil_iff S).1 e)) (Ev.bind (impl_word S) (ev_eq (Ev.now _) (by simp [h])))
  unfold impl_IsValidName.f goodN
  by_cases h : G.length ≤ 3
  · refine ev_neg (by omega) (Ev.bind (contains_ev G hG) ?_)
    cases G.all greatD with
    | true => exact ev_eq hj0 (by simp [h])
    | false => exact ev_eq hj1 (by simp)
  · exact ev_pos (by omega) (ev_eq hj1 (by simp [h]))
def bulkN (G : List ByteArray) (P F S : ByteArray) : Nat := bulkS G + P.size + F.size + S.size
theorem szN_ev (G : List ByteArray) (P F S : ByteArray) (hb : ∀ s ∈ G, s.size ≤ 9223372036854775807) (hl : G.length ≤ 9223372036854775807) (hP : P.size ≤ 9223372036854775807) (hF : F.size ≤ 9223372036854775807) (hS : S.size ≤ 9223372036854775807) (left : Int) (h0 : 0 ≤ left) (h1 : left ≤ 4611686018427387904) :
    Ev (fun k => laws_szName.f k G P F S left) (lftOf left (bulkN G P F S)) := by
  unfold laws_szName.f
  refine Ev.bind (szS_ev G hb hl left h0 h1) ?_
  unfold bulkN
  by_cases c : (bulkS G : Int) ≤ left
  · have e : lftOf left (bulkS G) = left - bulkS G := by unfold lftOf; rw [if_pos c]
    rw [e]
    have w1 : wrap64 (left - (bulkS G : Int) - (P.size : Int)) = left - (bulkS G : Int) - (P.size : Int) := w64 (by omega) (by omega)
    rw [w1]
    refine ev_neg (by omega) ?_
    by_cases c1 : left - (bulkS G : Int) - (P.size : Int) < 0
    · exact ev_pos c1 (ev_eq (Ev.now _) (by unfold lftOf; rw [if_neg (by omega)]))
    refine ev_neg c1 ?_
    have w2 : wrap64 (left - (bulkS G : Int) - (P.size : Int) - (F.size : Int)) = left - (bulkS G : Int) - (P.size : Int) - (F.size : Int) := w64 (by omega) (by omega)
    rw [w2]
    by_cases c2 : left - (bulkS G : Int) - (P.size : Int) - (F.size : Int) < 0
    · exact ev_pos c2 (ev_eq (Ev.now _) (by unfold lftOf; rw [if_neg (by omega)]))
    refine ev_neg c2 ?_
    have w3 : wrap64 (left - (bulkS G : Int) - (P.size : Int) - (F.size : Int) - (S.size : Int)) = left - (bulkS G : Int) - (P.size : Int) - (F.size : Int) - (S.size : Int) := w64 (by omega) (by omega)
    rw [w3]
    by_cases c3 : left - (bulkS G : Int) - (P.size : Int) - (F.size : Int) - (S.size : Int) < 0
    · exact ev_pos c3 (ev_eq (Ev.now _) (by unfold lftOf; rw [if_neg (by omega)]))
    · exact ev_neg c3 (ev_eq (Ev.now _) (by unfold lftOf; rw [if_pos (by omega)]; omega))
  · have e : lftOf left (bulkS G) = -1 := by unfold lftOf; rw [if_neg c]
    rw [e]
    exact ev_pos (by omega) (ev_eq (Ev.now _) (by unfold lftOf; rw [if_neg (by omega)]))
theorem toN_ev (G : List ByteArray) (P F S : ByteArray) (hl : G.length ≤ 17592186044416) : Ev (fun k => laws_toName.f k G P F S) (G, P, F, S) := by
  unfold laws_toName.f
  exact Ev.bind (toS_ev G hl) (Ev.now _)
theorem eqS_same_loop (l : List ByteArray) (hl : l.length ≤ 4611686018427387904) (d : Nat) : ∀ i : Nat, i ≤ l.length → l.length - i = d → Ev (fun k => laws_eqStringS.l0 k l l (i : Int)) true := by
  induction d with
  | zero =>
    intro i h1 hd
    refine Ev.step (f := fun _ => some true) (fun k => ?_) (Ev.now _)
    simp only [laws_eqStringS.l0]; rw [if_neg (by omega)]
  | succ d ih =>
    intro i h1 hd
    have hw : wrap64 ((i : Int) + 1) = ((i + 1 : Nat) : Int) := by rw [w64 (by omega) (by omega)]; rfl
    refine Ev.step (f := fun k => laws_eqStringS.l0 k l l ((i + 1 : Nat) : Int)) (fun k => ?_) (ih (i + 1) (by omega) (by omega))
    simp only [laws_eqStringS.l0]
    rw [if_pos (by omega), if_pos (by omega), if_pos (by omega), if_pos trivial, hw]
theorem eqS_same (l : List ByteArray) (hl : l.length ≤ 4611686018427387904) : Ev (fun k => laws_eqStringS.f k l l) true := by
  unfold laws_eqStringS.f
  exact ev_pos rfl (eqS_same_loop l hl _ 0 (by omega) rfl)
theorem eqN_same (G : List ByteArray) (P F S : ByteArray) (hl : G.length ≤ 4611686018427387904) : Ev (fun k => laws_eqName.f k G P F S G P F S) true := by
  unfold laws_eqName.f
  exact Ev.bind (eqS_same G hl) (ev_pos rfl (ev_pos rfl (ev_pos rfl (ev_pos rfl (Ev.now _)))))
end Go.Proofs.YtdaofafeigdicaaGreatDoor.G

namespace Go.Proofs.YtdaofafeigdicaaGreatDoor.G
open Go.RowKit Go.Proofs.YtdaofafeigdicaaGreatDoorW.PrintWords Go.Proofs.YtdaofafeigdicaaGreatDoorW.PrintLast Go.Proofs.YtdaofafeigdicaaGreatDoor.B Go.Proofs.YtdaofafeigdicaaGreatDoor.Opn
set_option linter.unusedVariables false
set_option linter.unusedSimpArgs false
def conv (x : S52) : S60 := ⟨x.f0, x.f1, x.f2, x.f3⟩
def bulkL (l : List S52) : Nat := (l.map fun x => bulkN x.f0 x.f1 x.f2 x.f3).sum
theorem rd24 (l : List S52) (i : Nat) (h : i < l.length) : rd_T52 l (i : Int) = l[i] := by simp [rd_T52, h]
theorem rd27 (l : List S60) (i : Nat) (h : i < l.length) : rd_T60 l (i : Int) = l[i] := by simp [rd_T60, h]
theorem bulkL_cons (a : S52) (l : List S52) : bulkL (a :: l) = bulkN a.f0 a.f1 a.f2 a.f3 + bulkL l := by simp [bulkL]
theorem bulkL_mem {l : List S52} {x : S52} (h : x ∈ l) : bulkN x.f0 x.f1 x.f2 x.f3 ≤ bulkL l := by
  induction l with
  | nil => simp at h
  | cons a l ih =>
    rw [bulkL_cons]
    rcases List.mem_cons.1 h with rfl | h
    · omega
    · have := ih h; omega
theorem szL_loop (l : List S52) (hb : ∀ x ∈ l, ok52 x) (hl : l.length ≤ 9223372036854775807) (d : Nat) : ∀ (left : Int) (i : Nat), 0 ≤ left → left ≤ 1048576 → l.length - i = d → i ≤ l.length →
    Ev (fun k => laws_szNameS.l0 k l left (i : Int)) (lftOf left (bulkL (l.drop i))) := by
  induction d with
  | zero =>
    intro left i h0 h1 hd hi
    refine Ev.step (f := fun _ => some left) (fun k => ?_) (ev_eq (Ev.now _) ?_)
    · simp only [laws_szNameS.l0]; rw [if_neg (by omega)]
    · rw [List.drop_of_length_le (by omega)]; unfold lftOf bulkL; simp; omega
  | succ d ih =>
    intro left i h0 h1 hd hi
    have hlt : i < l.length := by omega
    obtain ⟨b0, b1, b2, b3⟩ := hb l[i] (List.getElem_mem hlt)
    have hsz := szN_ev (l[i]).f0 (l[i]).f1 (l[i]).f2 (l[i]).f3 b0.2 b0.1 b1 b2 b3 left h0 (by omega)
    have hw : wrap64 ((i : Int) + 1) = ((i + 1 : Nat) : Int) := by rw [w64 (by omega) (by omega)]; rfl
    rw [List.drop_eq_getElem_cons hlt, bulkL_cons]
    refine Ev.step (f := fun k => (laws_szName.f k (l[i]).f0 (l[i]).f1 (l[i]).f2 (l[i]).f3 left).bind fun t276 => (if t276 < 0 then (some (-1)) else (laws_szNameS.l0 k l t276 ((i + 1 : Nat) : Int)))) (fun k => ?_) (Ev.bind hsz ?_)
    · simp only [laws_szNameS.l0, rd24 l i hlt, hw]
      rw [if_pos (by omega), if_pos (by omega)]
    · by_cases c : (bulkN (l[i]).f0 (l[i]).f1 (l[i]).f2 (l[i]).f3 : Int) ≤ left
      · have e : lftOf left (bulkN (l[i]).f0 (l[i]).f1 (l[i]).f2 (l[i]).f3) = left - bulkN (l[i]).f0 (l[i]).f1 (l[i]).f2 (l[i]).f3 := by unfold lftOf; rw [if_pos c]
        rw [e]
        refine ev_neg (by omega) (ev_eq (ih _ (i + 1) (by omega) (by omega) (by omega) (by omega)) ?_)
        unfold lftOf; split <;> split <;> omega
      · have e : lftOf left (bulkN (l[i]).f0 (l[i]).f1 (l[i]).f2 (l[i]).f3) = -1 := by unfold lftOf; rw [if_neg c]
        rw [e]
        exact ev_pos (by omega) (ev_eq (Ev.now _) (by unfold lftOf; rw [if_neg (by omega)]))
theorem szL_ev (l : List S52) (hb : ∀ x ∈ l, ok52 x) (hl : l.length ≤ 9223372036854775807) (left : Int) (h0 : 0 ≤ left) (h1 : left ≤ 1048576) :
    Ev (fun k => laws_szNameS.f k l left) (lftOf left (l.length + bulkL l)) := by
  unfold laws_szNameS.f
  have hw : wrap64 (left - (l.length : Int)) = left - (l.length : Int) := w64 (by omega) (by omega)
  rw [hw]
  by_cases hn : left - (l.length : Int) < 0
  · exact ev_pos hn (ev_eq (Ev.now _) (by unfold lftOf; rw [if_neg (by omega)]))
  · refine ev_neg hn (ev_eq (szL_loop l hb hl l.length (left - l.length) 0 (by omega) (by omega) rfl (by omega)) ?_)
    rw [List.drop_zero]
    unfold lftOf; split <;> split <;> omega
theorem toL_loop (l : List S52) (hl : l.length ≤ 1048576) (hs : ∀ x ∈ l, x.f0.length ≤ 1048576) (d : Nat) : ∀ (i : Nat), l.length - i = d → i ≤ l.length →
    Ev (fun k => laws_toNameS.l0 k l ((l.take i).map conv ++ List.replicate (l.length - i) z60) (i : Int)) (l.map conv) := by
  induction d with
  | zero =>
    intro i hd hi
    refine Ev.step (f := fun _ => some (l.map conv)) (fun k => ?_) (Ev.now _)
    simp only [laws_toNameS.l0]; rw [if_neg (by omega), hd, List.take_of_length_le (by omega)]; simp
  | succ d ih =>
    intro i hd hi
    have hlt : i < l.length := by omega
    have hw : wrap64 ((i : Int) + 1) = ((i + 1 : Nat) : Int) := by rw [w64 (by omega) (by omega)]; rfl
    have hlen : ((l.take i).map conv).length = i := by simp; omega
    have hall : ((l.take i).map conv ++ List.replicate (l.length - i) z60).length = l.length := by simp; omega
    have e : ((l.take i).map conv ++ List.replicate (l.length - i) z60).set i (conv l[i]) = (l.take (i + 1)).map conv ++ List.replicate (l.length - (i + 1)) z60 := by
      rw [List.set_append_right _ _ (by omega), hlen, Nat.sub_self, show l.length - i = (l.length - (i + 1)) + 1 by omega, List.replicate_succ, List.set_cons_zero, List.take_succ_eq_append_getElem hlt, List.map_append, List.append_assoc]
      rfl
    have ht := toN_ev (l[i]).f0 (l[i]).f1 (l[i]).f2 (l[i]).f3 (by have := hs _ (List.getElem_mem hlt); omega)
    refine Ev.step (f := fun k => (laws_toName.f k (l[i]).f0 (l[i]).f1 (l[i]).f2 (l[i]).f3).bind fun bt289 => laws_toNameS.l0 k l (((l.take i).map conv ++ List.replicate (l.length - i) z60).set i (⟨bt289.1, bt289.2.1, bt289.2.2.1, bt289.2.2.2⟩ : S60)) ((i + 1 : Nat) : Int)) (fun k => ?_) (Ev.bind ht ?_)
    · have a3 : (i : Int) < ((((l.take i).map conv ++ List.replicate (l.length - i) z60).length : Nat) : Int) := by rw [hall]; omega
      simp only [laws_toNameS.l0, rd24 l i hlt, hw, if_pos a3, Int.toNat_natCast]
      rw [if_pos (by omega), if_pos (by omega)]
    · have hq := ih (i + 1) (by omega) (by omega)
      rw [← e] at hq
      exact hq
theorem toL_ev (l : List S52) (hl : l.length ≤ 1048576) (hs : ∀ x ∈ l, x.f0.length ≤ 1048576) : Ev (fun k => laws_toNameS.f k l) (l.map conv) := by
  unfold laws_toNameS.f
  refine ev_pos (by omega) (ev_pos (by omega) ?_)
  have := toL_loop l hl hs l.length 0 rfl (by omega)
  simpa using this
def goodS (x : S60) : Bool := goodN x.f0 x.f1 x.f2 x.f3
def okS (x : S60) : Prop := x.f0.length ≤ 4611686018427387904 ∧ x.f1.size ≤ 4294967280
def listD (l : List S60) : Bool := l.all goodS && decide (l.length ≤ 4)
theorem spec_list_loop (l : List S60) (ho : ∀ x ∈ l, okS x) (hl : l.length ≤ 1048576) (d : Nat) : ∀ i : Nat, i ≤ l.length → min l.length 5 - i = d → i ≤ 5 →
    Ev (fun k => spec_l2List.l0 k l (i : Int)) (((l.take 5).drop i).all goodS && decide (l.length ≤ 4)) := by
  have stop : ∀ i : Nat, Ev (fun k => spec_l2List.j1 k l (i : Int) false) (decide (l.length ≤ 4)) := fun i => by
    refine Ev.step (f := fun _ => some (decide ((l.length : Int) ≤ 4))) (fun k => by simp [spec_l2List.j1]) (ev_eq (Ev.now _) ?_)
    rw [decide_eq_decide]; omega
  induction d with
  | zero =>
    intro i h1 hd h5
    rw [List.drop_of_length_le (by rw [List.length_take]; omega)]
    refine Ev.step (f := fun k => spec_l2List.j1 k l (i : Int) false) (fun k => ?_) (ev_eq (stop i) (by simp))
    simp only [spec_l2List.l0]
    by_cases c : i < l.length
    · rw [if_pos (by omega), decide_eq_false (by omega)]
    · rw [if_neg (by omega)]
  | succ d ih =>
    intro i h1 hd h5
    have hi : i < l.length := by omega
    have hw : wrap64 ((i : Int) + 1) = ((i + 1 : Nat) : Int) := by rw [w64 (by omega) (by omega)]; rfl
    have hi' : i < (l.take 5).length := by rw [List.length_take]; omega
    have hx := ho _ (List.getElem_mem hi)
    rw [List.drop_eq_getElem_cons hi', List.all_cons, List.getElem_take, Bool.and_assoc]
    refine Ev.step (f := fun k => spec_l2List.j1 k l (i : Int) true) (fun k => ?_) (Ev.step (f := fun k => (spec_l2Good.f k (l[i]).f0 (l[i]).f1 (l[i]).f2 (l[i]).f3).bind fun t278 => (if t278 = true then (spec_l2List.l0 k l ((i + 1 : Nat) : Int)) else (some false))) (fun k => ?_) (Ev.bind (spec_name _ _ _ _ hx.1 hx.2) ?_))
    · simp only [spec_l2List.l0]
      rw [if_pos (by omega), decide_eq_true (by omega)]
    · simp only [spec_l2List.j1, rd27 l i hi, hw]
      rw [if_pos trivial, if_pos (by omega), if_pos (by omega)]
    · show Ev _ (goodN (l[i]).f0 (l[i]).f1 (l[i]).f2 (l[i]).f3 && _)
      cases goodN (l[i]).f0 (l[i]).f1 (l[i]).f2 (l[i]).f3 with
      | true => exact ev_pos rfl (ev_eq (ih (i + 1) (by omega) (by omega) (by omega)) (by simp))
      | false => exact ev_neg (by simp) (ev_eq (Ev.now _) (by simp))
theorem spec_list (l : List S60) (ho : ∀ x ∈ l, okS x) (hl : l.length ≤ 1048576) : Ev (fun k => spec_l2List.f k l) (listD l) := by
  have h := spec_list_loop l ho hl _ 0 (by omega) rfl (by omega)
  unfold spec_l2List.f listD
  refine ev_eq h ?_
  rw [List.drop_zero]
  by_cases c : l.length ≤ 4
  · rw [List.take_of_length_le (by omega)]
  · rw [decide_eq_false c]; simp
theorem idxN_loop (l : List S60) (ho : ∀ x ∈ l, okS x) (hl : l.length ≤ 1048576) (d : Nat) : ∀ i : Nat, i ≤ l.length → l.length - i = d →
    ∃ v, Ev (fun k => impl_Name_65_at_53.l0 k l (l.length : Int) (i : Int)) v ∧ decide (v ≥ 0) = !((l.drop i).all goodS) := by
  induction d with
  | zero =>
    intro i h1 hd
    refine ⟨-1, Ev.step (f := fun _ => some (-1)) (fun k => ?_) (Ev.now _), ?_⟩
    · simp only [impl_Name_65_at_53.l0]; rw [if_neg (by omega)]
    · rw [List.drop_of_length_le (by omega)]; simp
  | succ d ih =>
    intro i h1 hd
    have hi : i < l.length := by omega
    have hw : wrap64 ((i : Int) + 1) = ((i + 1 : Nat) : Int) := by rw [w64 (by omega) (by omega)]; rfl
    have hx := ho _ (List.getElem_mem hi)
    rw [List.drop_eq_getElem_cons hi, List.all_cons]
    have hst : ∀ v, Ev (fun k => (impl_areNames_1.f k (l[i]).f0 (l[i]).f1 (l[i]).f2 (l[i]).f3).bind fun t => if t = true then some (i : Int) else impl_Name_65_at_53.l0 k l (l.length : Int) ((i + 1 : Nat) : Int)) v → Ev (fun k => impl_Name_65_at_53.l0 k l (l.length : Int) (i : Int)) v := by
      intro v hv
      refine Ev.step (fun k => ?_) hv
      simp only [impl_Name_65_at_53.l0, rd27 l i hi, hw]
      rw [if_pos (by omega), if_pos (by omega), if_pos (by omega)]
    have hf : Ev (fun k => impl_areNames_1.f k (l[i]).f0 (l[i]).f1 (l[i]).f2 (l[i]).f3) (!goodS l[i]) := by
      unfold impl_areNames_1.f
      exact Ev.bind (impl_valid _ _ _ _ hx.1 hx.2) (Ev.now _)
    cases h : goodS l[i] with
    | true =>
      obtain ⟨v, hv, e⟩ := ih (i + 1) (by omega) (by omega)
      refine ⟨v, hst v (Ev.bind hf (ev_neg (by simp [h]) hv)), ?_⟩
      rw [e]; simp
    | false =>
      refine ⟨(i : Int), hst _ (Ev.bind hf (ev_pos (by simp [h]) (Ev.now _))), ?_⟩
      simp
theorem impl_list (l : List S60) (ho : ∀ x ∈ l, okS x) (hl : l.length ≤ 1048576) : Ev (fun k => impl_areNames.f k l) (listD l) := by
  unfold impl_areNames.f listD
  by_cases c : l.length ≤ 4
  · obtain ⟨v, hv, e⟩ := idxN_loop l ho hl _ 0 (by omega) rfl
    rw [List.drop_zero] at e
    refine ev_pos (by omega) (Ev.bind (g := fun k => impl_Name_52_at_53.f k l) (a := decide (v ≥ 0)) ?_ (ev_eq (Ev.now _) ?_))
    · unfold impl_Name_52_at_53.f impl_Name_65_at_53.f
      exact Ev.bind hv (Ev.now _)
    · rw [e]; simp [c]
  · exact ev_neg (by omega) (ev_eq (Ev.now _) (by simp [c]))
theorem list_good {l : List S60} (h : listD l = true) : l.length ≤ 4 ∧ ∀ x ∈ l, goodS x = true := by
  unfold listD at h
  simp only [Bool.and_eq_true, decide_eq_true_eq] at h
  exact ⟨h.2, fun x hx => List.all_eq_true.1 h.1 x hx⟩
theorem eqL_loop (l : List S60) (ho : ∀ x ∈ l, okS x) (hl : l.length ≤ 1048576) (d : Nat) : ∀ i : Nat, i ≤ l.length → l.length - i = d → Ev (fun k => laws_eqNameS.l0 k l l (i : Int)) true := by
  induction d with
  | zero =>
    intro i h1 hd
    refine Ev.step (f := fun _ => some true) (fun k => ?_) (Ev.now _)
    simp only [laws_eqNameS.l0]; rw [if_neg (by omega)]
  | succ d ih =>
    intro i h1 hd
    have hi : i < l.length := by omega
    have hw : wrap64 ((i : Int) + 1) = ((i + 1 : Nat) : Int) := by rw [w64 (by omega) (by omega)]; rfl
    refine Ev.step (f := fun k => (laws_eqName.f k (l[i]).f0 (l[i]).f1 (l[i]).f2 (l[i]).f3 (l[i]).f0 (l[i]).f1 (l[i]).f2 (l[i]).f3).bind fun t308 => (if t308 = true then (laws_eqNameS.l0 k l l ((i + 1 : Nat) : Int)) else (some false))) (fun k => ?_) (Ev.bind (eqN_same _ _ _ _ (ho _ (List.getElem_mem hi)).1) (ev_pos rfl (ih (i + 1) (by omega) (by omega))))
    simp only [laws_eqNameS.l0, rd27 l i hi, hw]
    rw [if_pos (by omega), if_pos (by omega), if_pos (by omega)]
theorem eqL_same (l : List S60) (ho : ∀ x ∈ l, okS x) (hl : l.length ≤ 1048576) : Ev (fun k => laws_eqNameS.f k l l) true := by
  unfold laws_eqNameS.f
  exact ev_pos rfl (eqL_loop l ho hl _ 0 (by omega) rfl)
theorem conv_ok {l : List S52} (h : bulkL l ≤ 1048576) : ∀ x ∈ l.map conv, okS x := by
  intro x hx
  obtain ⟨y, hy, rfl⟩ := List.mem_map.1 hx
  have := bulkL_mem hy
  unfold bulkN bulkS at this
  exact ⟨by show y.f0.length ≤ _; omega, by show y.f1.size ≤ _; omega⟩
end Go.Proofs.YtdaofafeigdicaaGreatDoor.G

namespace Go.Proofs.YtdaofafeigdicaaGreatDoor.G
open Go.RowKit Go.Proofs.YtdaofafeigdicaaGreatDoorW.PrintWords Go.Proofs.YtdaofafeigdicaaGreatDoorW.PrintLast
set_option linter.unusedVariables false
set_option linter.unusedSimpArgs false
def daysD (y m : Int) : Int :=
  if m = 2 then (if Int.tmod y 4 = 0 ∧ (Int.tmod y 100 ≠ 0 ∨ Int.tmod y 400 = 0) then 29 else 28) else if m = 4 ∨ m = 6 ∨ m = 9 ∨ m = 11 then 30 else 31
def goodD (y m d : Int) (c : Bool) : Bool :=
  if y = 0 ∧ m = 0 ∧ d = 0 ∧ c = false then true
  else if ¬ (1 ≤ y ∧ y ≤ 2999 ∧ 0 ≤ m ∧ m ≤ 12) then false
  else if m = 0 then decide (d = 0)
  else if c then false else decide (0 ≤ d ∧ d ≤ daysD y m)
theorem tmod_400_4 (y : Int) (h : Int.tmod y 400 = 0) : Int.tmod y 4 = 0 := by
  have h1 : (400 : Int) ∣ y := Int.dvd_of_tmod_eq_zero h
  exact Int.tmod_eq_zero_of_dvd (Int.dvd_trans (by decide) h1)
theorem spec_days (k : Nat) (y m : Int) : spec_l3Days.f (k + 1) y m = some (daysD y m) := by
  unfold spec_l3Days.f daysD
  by_cases h2 : m = 2
  · subst h2
    simp only [if_true, spec_l3Days.j0]
    by_cases a : Int.tmod y 4 = 0 <;> by_cases b : Int.tmod y 100 = 0 <;> by_cases c : Int.tmod y 400 = 0 <;> simp [a, b, c]
    · exact a (tmod_400_4 y c)
    · exact a (tmod_400_4 y c)
  · by_cases a : m = 4 <;> by_cases b : m = 6 <;> by_cases c : m = 9 <;> by_cases d : m = 11 <;> simp [h2, a, b, c, d]
theorem impl_days (y m : Int) : impl_daysInMonth.f y m = some (daysD y m) := by
  unfold impl_daysInMonth.f daysD
  by_cases h2 : m = 2
  · subst h2
    by_cases a : Int.tmod y 4 = 0 <;> by_cases b : Int.tmod y 100 = 0 <;> by_cases c : Int.tmod y 400 = 0 <;> simp [a, b, c]
  · by_cases a : m = 4 <;> by_cases b : m = 6 <;> by_cases c : m = 9 <;> by_cases d : m = 11 <;> simp [h2, a, b, c, d]
theorem spec_good (k : Nat) (y m d : Int) (c : Bool) : spec_l3Good.f (k + 2) y m d c = some (goodD y m d c) := by
  unfold spec_l3Good.f goodD
  by_cases z : y = 0 ∧ m = 0 ∧ d = 0 ∧ c = false
  · obtain ⟨rfl, rfl, rfl, rfl⟩ := z; simp
  · rw [if_neg (by simpa using z), if_neg z]
    simp only [spec_l1In.f]
    by_cases a : 1 ≤ y <;> by_cases b : y ≤ 2999 <;> by_cases e : 0 ≤ m <;> by_cases f : m ≤ 12 <;> simp [a, b, e, f, spec_l3Good.j0]
    rw [spec_days]
    by_cases g : m = 0 <;> by_cases h : d = 0 <;> by_cases i : 0 ≤ d <;> cases c <;> simp [g, h, i, spec_l1In.f, impl_inside.f]
theorem impl_good (k : Nat) (y m d : Int) (c : Bool) : impl_IsValidDate.f (k + 2) y m d c = some (goodD y m d c) := by
  unfold impl_IsValidDate.f goodD
  by_cases z : y = 0 ∧ m = 0 ∧ d = 0 ∧ c = false
  · obtain ⟨rfl, rfl, rfl, rfl⟩ := z; simp
  · rw [if_neg (by simpa using z), if_neg z]
    simp only [impl_inside.f]
    by_cases a : 1 ≤ y <;> by_cases b : y ≤ 2999 <;> by_cases e : 0 ≤ m <;> by_cases f : m ≤ 12 <;> simp [a, b, e, f, impl_IsValidDate.j0]
    rw [impl_days]
    by_cases g : m = 0 <;> by_cases h : d = 0 <;> by_cases i : 0 ≤ d <;> cases c <;> simp [g, h, i, spec_l1In.f, impl_inside.f]
theorem daysD_le (y m : Int) : daysD y m ≤ 31 := by
  unfold daysD
  split
  · split <;> omega
  · split <;> omega
theorem good_bds {y m d : Int} {c : Bool} (h : goodD y m d c = true) (hy : y ≠ 0) : 1 ≤ y ∧ y ≤ 2999 ∧ 0 ≤ m ∧ m ≤ 12 ∧ 0 ≤ d ∧ d ≤ 31 := by
  unfold goodD at h
  rw [if_neg (fun z => hy z.1)] at h
  by_cases c1 : 1 ≤ y ∧ y ≤ 2999 ∧ 0 ≤ m ∧ m ≤ 12
  · rw [if_neg (fun z => z c1)] at h
    refine ⟨c1.1, c1.2.1, c1.2.2.1, c1.2.2.2, ?_⟩
    by_cases c2 : m = 0
    · rw [if_pos c2] at h
      have := of_decide_eq_true h
      omega
    · rw [if_neg c2] at h
      cases c with
      | true => simp at h
      | false =>
        have h2 := of_decide_eq_true (by simpa using h : decide (0 ≤ d ∧ d ≤ daysD y m) = true)
        have := daysD_le y m
        omega
  · rw [if_pos c1] at h; cases h
end Go.Proofs.YtdaofafeigdicaaGreatDoor.G

namespace Go.Proofs.YtdaofafeigdicaaGreatDoor.G
open Go.RowKit Go.Proofs.YtdaofafeigdicaaGreatDoorW.PrintWords Go.Proofs.YtdaofafeigdicaaGreatDoorW.PrintLast Go.Proofs.YtdaofafeigdicaaGreatDoor.B Go.Proofs.YtdaofafeigdicaaGreatDoor.Opn
set_option linter.unusedVariables false
set_option linter.unusedSimpArgs false
def kindD (n : Int) : Bool := decide (1 ≤ n) && decide (n ≤ 4)
def volD (n : Int) : Bool := decide (0 ≤ n) && decide (n ≤ 9999)
def crossD (X K : ByteArray) : Bool := decide (X.size = 0) || (keyD X && (X.toList != K.toList))
theorem in_kind (n : Int) : (if n ≥ 1 then some (decide (n ≤ 4)) else some false) = some (kindD n) := by
  unfold kindD
  by_cases h : n ≥ 1
  · rw [if_pos h, decide_eq_true (show 1 ≤ n from h)]; rfl
  · rw [if_neg h, decide_eq_false (show ¬ 1 ≤ n from h)]; rfl
theorem in_vol (n : Int) : (if n ≥ 0 then some (decide (n ≤ 9999)) else some false) = some (volD n) := by
  unfold volD
  by_cases h : n ≥ 0
  · rw [if_pos h, decide_eq_true (show 0 ≤ n from h)]; rfl
  · rw [if_neg h, decide_eq_false (show ¬ 0 ≤ n from h)]; rfl
theorem spec_date (y m d : Int) (c : Bool) : Ev (fun k => spec_l3Good.f k y m d c) (goodD y m d c) := ⟨2, fun k hk => by
  obtain ⟨k', rfl⟩ : ∃ k', k = k' + 2 := ⟨k - 2, by omega⟩
  exact spec_good k' y m d c⟩
theorem impl_date (y m d : Int) (c : Bool) : Ev (fun k => impl_IsValidDate.f k y m d c) (goodD y m d c) := ⟨2, fun k hk => by
  obtain ⟨k', rfl⟩ : ∃ k', k = k' + 2 := ⟨k - 2, by omega⟩
  exact impl_good k' y m d c⟩
theorem spec_cross (X K : ByteArray) : Ev (fun k => if X.toList = ([] : List UInt8) then (some true) else ((spec_l4Key.f k X).bind fun t643 => (if t643 = true then (some (X.toList != K.toList)) else (some false)))) (crossD X K) := by
  unfold crossD
  by_cases h : X.size = 0
  · exact ev_pos ((nil_iff X).2 h) (ev_eq (Ev.now _) (by simp [h]))
  · refine ev_neg (fun e => h ((nil_iff X).1 e)) (Ev.bind (spec_key X) ?_)
    cases keyD X with
    | true => exact ev_pos rfl (ev_eq (Ev.now _) (by simp [h]))
    | false => exact ev_neg (by simp) (ev_eq (Ev.now _) (by simp [h]))
theorem impl_cross (X K : ByteArray) : Ev (fun k => if X.toList = ([] : List UInt8) then (some true) else ((impl_isKey.f k X).bind fun t643 => (if t643 = true then (some (X.toList != K.toList)) else (some false)))) (crossD X K) := by
  unfold crossD
  by_cases h : X.size = 0
  · exact ev_pos ((nil_iff X).2 h) (ev_eq (Ev.now _) (by simp [h]))
  · refine ev_neg (fun e => h ((nil_iff X).1 e)) (Ev.bind (impl_key X) ?_)
    cases keyD X with
    | true => exact ev_pos rfl (ev_eq (Ev.now _) (by simp [h]))
    | false => exact ev_neg (by simp) (ev_eq (Ev.now _) (by simp [h]))
def headE (K : ByteArray) (kd : Int) (A E : List S60) : Bool := keyD K && (kindD kd && (listD A && listD E))
def textsE (T C Pb Pg : ByteArray) : Bool := textD T && (textD C && (textD Pb && textD Pg))
def tailE (y m d : Int) (c : Bool) (v : Int) : Bool := goodD y m d c && volD v
def entD (K : ByteArray) (kd : Int) (A E : List S60) (T C Pb : ByteArray) (y m d : Int) (c : Bool) (v : Int) (Pg X : ByteArray) : Bool :=
  headE K kd A E && (textsE T C Pb Pg && (tailE y m d c v && crossD X K))
theorem ev_and {g : Nat → Option Bool} {f n : Nat → Option Bool} {b r : Bool} (h : Ev g b) (hn : Ev n false) (hf : b = true → Ev f r) : Ev (fun k => (g k).bind fun t => if t = true then f k else n k) (b && r) := by
  refine Ev.bind h ?_
  cases b with
  | true => exact ev_pos rfl (ev_eq (hf rfl) (by simp))
  | false => exact ev_neg (by simp) (ev_eq hn (by simp))
theorem ev_and0 {o : Option Bool} {f n : Nat → Option Bool} {b r : Bool} (h : o = some b) (hn : Ev n false) (hf : b = true → Ev f r) : Ev (fun k => o.bind fun t => if t = true then f k else n k) (b && r) := by
  subst h
  cases b with
  | true => exact ev_bind0 rfl (ev_pos rfl (ev_eq (hf rfl) (by simp)))
  | false => exact ev_bind0 rfl (ev_neg (by simp) (ev_eq hn (by simp)))
theorem ev_last {g f n : Nat → Option Bool} {J : Nat → Bool → Option Bool} {b r : Bool} (h : Ev g b) (hn : Ev (fun k => J k true) false) (hf : Ev (fun k => J k false) r) : Ev (fun k => (g k).bind fun t => J k (!t)) (b && r) := by
  refine Ev.bind h ?_
  cases b with
  | true => exact ev_eq hf (by simp)
  | false => exact ev_eq hn (by simp)
section
variable (K : ByteArray) (kd : Int) (A E : List S60) (T C Pb : ByteArray) (y m d : Int) (c : Bool) (v : Int) (Pg X : ByteArray)
theorem spec_ent (hA : ∀ x ∈ A, okS x) (lA : A.length ≤ 1048576) (hE : ∀ x ∈ E, okS x) (lE : E.length ≤ 1048576) : Ev (fun k => spec_l4Entry.f k K kd A E T C Pb y m d c v Pg X) (entD K kd A E T C Pb y m d c v Pg X) := by
  have n1 : Ev (fun k => spec_l4Entry.j1 k true K kd A E T C Pb y m d c v Pg X) false := Ev.step (f := fun _ => some false) (fun k => by simp [spec_l4Entry.j1]) (Ev.now _)
  have n0 : Ev (fun k => spec_l4Entry.j0 k true K kd A E T C Pb y m d c v Pg X) false := Ev.step (f := fun _ => some false) (fun k => by simp [spec_l4Entry.j0]) (Ev.now _)
  have p1 : Ev (fun k => spec_l4Entry.j1 k false K kd A E T C Pb y m d c v Pg X) (goodD y m d c && (volD v && crossD X K)) := by
    refine Ev.step (f := fun k => (spec_l3Good.f k y m d c).bind fun t641 => (if t641 = true then ((spec_l1In.f v 0 9999).bind fun t642 => (if t642 = true then (if X.toList = ([] : List UInt8) then (some true) else ((spec_l4Key.f k X).bind fun t643 => (if t643 = true then (some (X.toList != K.toList)) else (some false)))) else (some false))) else (some false))) (fun k => by simp [spec_l4Entry.j1]) ?_
    exact ev_and (spec_date y m d c) (Ev.now _) (fun _ => ev_and0 (by unfold spec_l1In.f; exact in_vol v) (Ev.now _) (fun _ => spec_cross X K))
  have p0 : Ev (fun k => spec_l4Entry.j0 k false K kd A E T C Pb y m d c v Pg X) (textD T && (textD C && (textD Pb && (textD Pg && (goodD y m d c && (volD v && crossD X K)))))) := by
    refine Ev.step (f := fun k => (spec_l4Text.f k T).bind fun t637 => (if t637 = true then ((spec_l4Text.f k C).bind fun t638 => (if t638 = true then ((spec_l4Text.f k Pb).bind fun t639 => (if t639 = true then ((spec_l4Text.f k Pg).bind fun t640 => (spec_l4Entry.j1 k (!t640) K kd A E T C Pb y m d c v Pg X)) else (spec_l4Entry.j1 k true K kd A E T C Pb y m d c v Pg X))) else (spec_l4Entry.j1 k true K kd A E T C Pb y m d c v Pg X))) else (spec_l4Entry.j1 k true K kd A E T C Pb y m d c v Pg X))) (fun k => by simp [spec_l4Entry.j0]) ?_
    exact ev_and (spec_text T) n1 (fun _ => ev_and (spec_text C) n1 (fun _ => ev_and (spec_text Pb) n1 (fun _ => ev_last (f := fun _ => none) (n := fun _ => none) (J := fun k b => spec_l4Entry.j1 k b K kd A E T C Pb y m d c v Pg X) (spec_text Pg) n1 p1)))
  unfold spec_l4Entry.f
  refine ev_eq (ev_and (spec_key K) n0 (fun _ => ev_and0 (by unfold spec_l1In.f; exact in_kind kd) n0 (fun _ => ev_and (spec_list A hA lA) n0 (fun _ => ev_last (f := fun _ => none) (n := fun _ => none) (J := fun k b => spec_l4Entry.j0 k b K kd A E T C Pb y m d c v Pg X) (spec_list E hE lE) n0 p0)))) ?_
  unfold entD headE textsE tailE
  simp only [Bool.and_assoc]
theorem impl_ent (hA : ∀ x ∈ A, okS x) (lA : A.length ≤ 1048576) (hE : ∀ x ∈ E, okS x) (lE : E.length ≤ 1048576) : Ev (fun k => impl_IsValidEntry.f k K kd A E T C Pb y m d c v Pg X) (entD K kd A E T C Pb y m d c v Pg X) := by
  have n0 : Ev (fun k => impl_IsValidEntry.j0 k true K kd A E T C Pb y m d c v Pg X) false := Ev.step (f := fun _ => some false) (fun k => by simp [impl_IsValidEntry.j0]) (Ev.now _)
  have p0 : Ev (fun k => impl_IsValidEntry.j0 k false K kd A E T C Pb y m d c v Pg X) (textD T && (textD C && (textD Pb && (textD Pg && crossD X K)))) := by
    refine Ev.step (f := fun k => (impl_isText.f k T).bind fun t685 => (if t685 = true then ((impl_isText.f k C).bind fun t686 => (if t686 = true then ((impl_isText.f k Pb).bind fun t687 => (if t687 = true then ((impl_isText.f k Pg).bind fun t688 => (if t688 = true then (if X.toList = ([] : List UInt8) then (some true) else ((impl_isKey.f k X).bind fun t689 => (if t689 = true then (some (X.toList != K.toList)) else (some false)))) else (some false))) else (some false))) else (some false))) else (some false))) (fun k => by simp [impl_IsValidEntry.j0]) ?_
    exact ev_and (impl_text T) (Ev.now _) (fun _ => ev_and (impl_text C) (Ev.now _) (fun _ => ev_and (impl_text Pb) (Ev.now _) (fun _ => ev_and (impl_text Pg) (Ev.now _) (fun _ => impl_cross X K))))
  have hk : impl_isKind.f kd = some (kindD kd) := by unfold impl_isKind.f impl_inside.f; rw [in_kind]; rfl
  have hv : impl_inside.f v 0 9999 = some (volD v) := by unfold impl_inside.f; exact in_vol v
  unfold impl_IsValidEntry.f
  refine ev_eq (ev_and (impl_key K) n0 (fun _ => ev_and0 hk n0 (fun _ => ev_and (impl_list A hA lA) n0 (fun _ => ev_and (impl_list E hE lE) n0 (fun _ => ev_and (impl_date y m d c) n0 (fun _ => ev_last (f := fun _ => none) (n := fun _ => none) (J := fun k b => impl_IsValidEntry.j0 k b K kd A E T C Pb y m d c v Pg X) (Ev.congr (fun _ => hv) (Ev.now _)) n0 p0)))))) ?_
  unfold entD headE textsE tailE
  simp only [Bool.and_assoc]
  cases keyD K <;> cases kindD kd <;> cases listD A <;> cases listD E <;> simp only [Bool.true_and, Bool.false_and]
  cases textD T <;> cases textD C <;> cases textD Pb <;> cases textD Pg <;> cases goodD y m d c <;> cases volD v <;> simp
end
def bulkE (K : ByteArray) (A E : List S52) (T C Pb Pg X : ByteArray) : Nat := K.size + (A.length + bulkL A) + (E.length + bulkL E) + T.size + C.size + Pb.size + Pg.size + X.size
theorem szE_ev (K : ByteArray) (kd : Int) (A E : List S52) (T C Pb : ByteArray) (y m d : Int) (c : Bool) (v : Int) (Pg X : ByteArray) (hA : ∀ x ∈ A, ok52 x) (lA : A.length ≤ 9223372036854775807) (hE : ∀ x ∈ E, ok52 x) (lE : E.length ≤ 9223372036854775807)
    (bK : K.size ≤ 9223372036854775807) (bT : T.size ≤ 9223372036854775807) (bC : C.size ≤ 9223372036854775807) (bP : Pb.size ≤ 9223372036854775807) (bG : Pg.size ≤ 9223372036854775807) (bX : X.size ≤ 9223372036854775807) (left : Int) (h0 : 0 ≤ left) (h1 : left ≤ 1048576) :
    Ev (fun k => laws_szEntry.f k K kd A E T C Pb y m d c v Pg X left) (lftOf left (bulkE K A E T C Pb Pg X)) := by
  have neg : ∀ n : Nat, ¬ (n : Int) ≤ left → lftOf left n = -1 := fun n h => by unfold lftOf; rw [if_neg h]
  unfold laws_szEntry.f
  have w0 : wrap64 (left - (K.size : Int)) = left - (K.size : Int) := w64 (by omega) (by omega)
  rw [w0]
  by_cases c0 : left - (K.size : Int) < 0
  · exact ev_pos c0 (ev_eq (Ev.now _) (neg _ (by unfold bulkE; omega)).symm)
  refine ev_neg c0 (Ev.bind (szL_ev A hA lA _ (by omega) (by omega)) ?_)
  by_cases c1 : ((A.length + bulkL A : Nat) : Int) ≤ left - (K.size : Int)
  · have e : lftOf (left - (K.size : Int)) (A.length + bulkL A) = left - (K.size : Int) - (A.length + bulkL A : Nat) := by unfold lftOf; rw [if_pos c1]
    rw [e]
    refine ev_neg (by omega) (Ev.bind (szL_ev E hE lE _ (by omega) (by omega)) ?_)
    by_cases c2 : ((E.length + bulkL E : Nat) : Int) ≤ left - (K.size : Int) - (A.length + bulkL A : Nat)
    · have e : lftOf (left - (K.size : Int) - (A.length + bulkL A : Nat)) (E.length + bulkL E) = left - (K.size : Int) - (A.length + bulkL A : Nat) - (E.length + bulkL E : Nat) := by unfold lftOf; rw [if_pos c2]
      rw [e]
      obtain ⟨l2, hl2⟩ : ∃ l2, l2 = left - (K.size : Int) - (A.length + bulkL A : Nat) - (E.length + bulkL E : Nat) := ⟨_, rfl⟩
      rw [← hl2]
      refine ev_neg (by omega) ?_
      have w1 : wrap64 (l2 - (T.size : Int)) = l2 - (T.size : Int) := w64 (by omega) (by omega)
      rw [w1]
      by_cases c3 : l2 - (T.size : Int) < 0
      · exact ev_pos c3 (ev_eq (Ev.now _) (neg _ (by unfold bulkE; omega)).symm)
      refine ev_neg c3 ?_
      have w2 : wrap64 (l2 - (T.size : Int) - (C.size : Int)) = l2 - (T.size : Int) - (C.size : Int) := w64 (by omega) (by omega)
      rw [w2]
      by_cases c4 : l2 - (T.size : Int) - (C.size : Int) < 0
      · exact ev_pos c4 (ev_eq (Ev.now _) (neg _ (by unfold bulkE; omega)).symm)
      refine ev_neg c4 ?_
      have w3 : wrap64 (l2 - (T.size : Int) - (C.size : Int) - (Pb.size : Int)) = l2 - (T.size : Int) - (C.size : Int) - (Pb.size : Int) := w64 (by omega) (by omega)
      rw [w3]
      by_cases c5 : l2 - (T.size : Int) - (C.size : Int) - (Pb.size : Int) < 0
      · exact ev_pos c5 (ev_eq (Ev.now _) (neg _ (by unfold bulkE; omega)).symm)
      refine ev_neg c5 ?_
      have w4 : wrap64 (l2 - (T.size : Int) - (C.size : Int) - (Pb.size : Int) - (Pg.size : Int)) = l2 - (T.size : Int) - (C.size : Int) - (Pb.size : Int) - (Pg.size : Int) := w64 (by omega) (by omega)
      rw [w4]
      by_cases c6 : l2 - (T.size : Int) - (C.size : Int) - (Pb.size : Int) - (Pg.size : Int) < 0
      · exact ev_pos c6 (ev_eq (Ev.now _) (neg _ (by unfold bulkE; omega)).symm)
      refine ev_neg c6 ?_
      have w5 : wrap64 (l2 - (T.size : Int) - (C.size : Int) - (Pb.size : Int) - (Pg.size : Int) - (X.size : Int)) = l2 - (T.size : Int) - (C.size : Int) - (Pb.size : Int) - (Pg.size : Int) - (X.size : Int) := w64 (by omega) (by omega)
      rw [w5]
      by_cases c7 : l2 - (T.size : Int) - (C.size : Int) - (Pb.size : Int) - (Pg.size : Int) - (X.size : Int) < 0
      · exact ev_pos c7 (ev_eq (Ev.now _) (neg _ (by unfold bulkE; omega)).symm)
      · exact ev_neg c7 (ev_eq (Ev.now _) (by unfold lftOf; rw [if_pos (by unfold bulkE; omega)]; unfold bulkE; omega))
    · have e : lftOf (left - (K.size : Int) - (A.length + bulkL A : Nat)) (E.length + bulkL E) = -1 := by unfold lftOf; rw [if_neg c2]
      rw [e]
      exact ev_pos (by omega) (ev_eq (Ev.now _) (neg _ (by unfold bulkE; omega)).symm)
  · have e : lftOf (left - (K.size : Int)) (A.length + bulkL A) = -1 := by unfold lftOf; rw [if_neg c1]
    rw [e]
    exact ev_pos (by omega) (ev_eq (Ev.now _) (neg _ (by unfold bulkE; omega)).symm)
theorem toE_ev (K : ByteArray) (kd : Int) (A E : List S52) (T C Pb : ByteArray) (y m d : Int) (c : Bool) (v : Int) (Pg X : ByteArray) (lA : A.length ≤ 1048576) (sA : ∀ x ∈ A, x.f0.length ≤ 1048576) (lE : E.length ≤ 1048576) (sE : ∀ x ∈ E, x.f0.length ≤ 1048576) :
    Ev (fun k => laws_toEntry.f k K kd A E T C Pb y m d c v Pg X) (K, kd, A.map conv, E.map conv, T, C, Pb, y, m, d, c, v, Pg, X) := by
  unfold laws_toEntry.f
  exact Ev.bind (toL_ev A lA sA) (Ev.bind (toL_ev E lE sE) (Ev.now _))
theorem eqE_same (K : ByteArray) (kd : Int) (A E : List S60) (T C Pb : ByteArray) (y m d : Int) (c : Bool) (v : Int) (Pg X : ByteArray) (hA : ∀ x ∈ A, okS x) (lA : A.length ≤ 1048576) (hE : ∀ x ∈ E, okS x) (lE : E.length ≤ 1048576) :
    Ev (fun k => laws_eqEntry.f k K kd A E T C Pb y m d c v Pg X K kd A E T C Pb y m d c v Pg X) true := by
  have hd : laws_eqDate.f y m d c y m d c = some true := by unfold laws_eqDate.f; simp
  unfold laws_eqEntry.f
  exact ev_pos rfl (ev_pos rfl (Ev.bind (eqL_same A hA lA) (ev_pos rfl (Ev.bind (eqL_same E hE lE) (ev_pos rfl (ev_pos rfl (ev_pos rfl (ev_pos rfl (ev_bind0 hd (ev_pos rfl (ev_pos rfl (ev_pos rfl (ev_pos rfl (Ev.now _))))))))))))))
end Go.Proofs.YtdaofafeigdicaaGreatDoor.G

namespace Go.Proofs.YtdaofafeigdicaaGreatDoor.G
open Go.RowKit Go.Proofs.YtdaofafeigdicaaGreatDoorW.PrintWords Go.Proofs.YtdaofafeigdicaaGreatDoorW.PrintLast Go.Proofs.YtdaofafeigdicaaGreatDoor.B
set_option linter.unusedVariables false
set_option linter.unusedSimpArgs false
theorem good_pos {G : List ByteArray} {P F S : ByteArray} (h : goodN G P F S = true) : G.length ≤ 3 ∧ ∀ x ∈ G, 1 ≤ x.size := by
  unfold goodN at h
  simp only [Bool.and_eq_true, decide_eq_true_eq] at h
  refine ⟨h.2.1, fun x hx => ?_⟩
  have := List.all_eq_true.1 h.1 x hx
  unfold greatD at this
  rw [Bool.and_eq_true] at this
  exact (word_in this.1).1
def spB : ByteArray := ⟨#[32]⟩
def glu (s p : ByteArray) : ByteArray := (if s.size ≠ 0 ∧ p.size ≠ 0 then s ++ spB else s) ++ p
def joinD (l : List ByteArray) : ByteArray := l.foldl glu ByteArray.empty
def sumB (l : List ByteArray) : Nat := (l.map fun x => x.size + 1).sum
theorem sumB_cons (a : ByteArray) (l : List ByteArray) : sumB (a :: l) = a.size + 1 + sumB l := by simp [sumB]
theorem glu_size (s p : ByteArray) : (glu s p).size ≤ s.size + (p.size + 1) := by
  unfold glu
  rw [size_append]
  split
  · rw [size_append]; show s.size + 1 + p.size ≤ _; omega
  · omega
theorem fold_size (l : List ByteArray) : ∀ s : ByteArray, (l.foldl glu s).size ≤ s.size + sumB l := by
  induction l with
  | nil => intro s; simp [sumB]
  | cons p l ih =>
    intro s
    have := ih (glu s p)
    have h2 := glu_size s p
    rw [List.foldl_cons, sumB_cons]; omega
theorem joinD_size (l : List ByteArray) : (joinD l).size ≤ sumB l := by
  have := fold_size l ByteArray.empty
  have e : ByteArray.empty.size = 0 := rfl
  unfold joinD; omega
theorem L_nil {s : ByteArray} (h : s.size = 0) : L s = [] := (size_pos_iff s).1 h
theorem L_glu (s p : ByteArray) : L (glu s p) = if s.size ≠ 0 ∧ p.size ≠ 0 then L s ++ 32 :: L p else L s ++ L p := by
  unfold glu
  rw [L_append]
  split
  · rw [L_append, List.append_assoc]; rfl
  · rfl
theorem fold_join (l : List ByteArray) : ∀ s : ByteArray, L (l.foldl glu s) = if s.size = 0 then Lib.join ((l.filter fun x => !decide (x.size = 0)).map (·.data.toList)) [32] else L s ++ Lib.joinTail [32] ((l.filter fun x => !decide (x.size = 0)).map (·.data.toList)) := by
  induction l with
  | nil =>
    intro s
    by_cases h : s.size = 0
    · rw [if_pos h]; simp [Lib.join_nil, L_nil h]
    · rw [if_neg h]; simp [Lib.joinTail]
  | cons p l ih =>
    intro s
    rw [List.foldl_cons, ih]
    by_cases hp : p.size = 0
    · have e : glu s p = s := L_inj (by rw [L_glu, if_neg (fun h => h.2 hp), L_nil hp, List.append_nil])
      rw [e, List.filter_cons_of_neg (by simp [hp])]
    · have hg : ¬ (glu s p).size = 0 := by rw [← L_len, L_glu]; split <;> simp [L_len, hp]
      rw [if_neg hg, List.filter_cons_of_pos (by simp [hp]), List.map_cons, L_glu]
      by_cases h : s.size = 0
      · rw [if_neg (fun x => x.1 h), if_pos h, L_nil h, List.nil_append, Lib.join_cons]
      · rw [if_pos (And.intro h hp), if_neg h]
        simp [Lib.joinTail]
theorem join_filter (l : List ByteArray) : Lib.join ((l.filter fun x => !decide (x.size = 0)).map (·.data.toList)) (⟨#[32]⟩ : ByteArray).data.toList = L (joinD l) := by
  have := fold_join l ByteArray.empty
  rw [if_pos (show ByteArray.empty.size = 0 from rfl)] at this
  exact this.symm
theorem filter_all {l : List ByteArray} (h : ∀ x ∈ l, 1 ≤ x.size) : (l.filter fun x => !decide (x.size = 0)) = l := by
  rw [List.filter_eq_self]
  intro x hx
  have := h x hx
  show (!decide (x.size = 0)) = true
  rw [decide_eq_false (by omega)]; rfl
theorem libJoin_filter (l : List ByteArray) (hl : l.length ≤ 1000) (hs : sumB l ≤ 140737488355328) : strings_Join.f (l.filter fun x => !decide (x.size = 0)) (⟨#[32]⟩ : ByteArray) = some (joinD l) := by
  have h1 : (l.filter fun x => !decide (x.size = 0)).length ≤ l.length := List.length_filter_le _ _
  have h2 := joinD_size l
  unfold strings_Join.f
  rw [join_filter, if_pos ⟨by omega, by rw [L_len]; omega⟩]
theorem libJoin_all (l : List ByteArray) (hp : ∀ x ∈ l, 1 ≤ x.size) (hl : l.length ≤ 1000) (hs : sumB l ≤ 140737488355328) : strings_Join.f l (⟨#[32]⟩ : ByteArray) = some (joinD l) := by
  have := libJoin_filter l hl hs
  rwa [filter_all hp] at this
theorem spaced_eq (l : List ByteArray) (h1 : 1 ≤ l.length) (hl : l.length ≤ 1000) (hs : sumB l ≤ 140737488355328) : impl_spaced.f l = some (joinD l) := by
  unfold impl_spaced.f
  rw [if_pos ⟨h1, hl⟩]
  exact libJoin_filter l hl hs
theorem spec_join_loop (l : List ByteArray) (hl : l.length ≤ 4611686018427387904) (hs : sumB l ≤ 140737488355328) (d : Nat) : ∀ (s : ByteArray) (i : Nat), i ≤ l.length → l.length - i = d → s.size + sumB (l.drop i) ≤ 140737488355328 →
    Ev (fun k => spec_l2Join.l0 k l s (i : Int)) ((l.drop i).foldl glu s) := by
  induction d with
  | zero =>
    intro s i h1 hd hb
    refine Ev.step (f := fun _ => some s) (fun k => ?_) (ev_eq (Ev.now _) ?_)
    · simp only [spec_l2Join.l0]; rw [if_neg (by omega)]
    · rw [List.drop_of_length_le (by omega)]; rfl
  | succ d ih =>
    intro s i h1 hd hb
    have hi : i < l.length := by omega
    have hw : wrap64 ((i : Int) + 1) = ((i + 1 : Nat) : Int) := by rw [w64 (by omega) (by omega)]; rfl
    rw [List.drop_eq_getElem_cons hi] at hb ⊢
    rw [sumB_cons] at hb
    have hg := glu_size s l[i]
    rw [List.foldl_cons]
    refine Ev.step (f := fun k => spec_l2Join.l0 k l (glu s l[i]) ((i + 1 : Nat) : Int)) (fun k => ?_) (ih (glu s l[i]) (i + 1) (by omega) (by omega) (by omega))
    simp only [spec_l2Join.l0, rd_get l i hi]
    have a1 : (i : Int) < (l.length : Int) := by omega
    have a2 : (0 : Int) ≤ (i : Int) := by omega
    have a3 : s.size + l[i].size ≤ 9223372036854775807 := by omega
    have a4 : s.size + 1 ≤ 9223372036854775807 := by omega
    have a5 : (s ++ (⟨#[32]⟩ : ByteArray)).size + l[i].size ≤ 9223372036854775807 := by
      rw [size_append]; show s.size + 1 + l[i].size ≤ _; omega
    simp only [if_pos a1, if_pos a2, if_pos a3, if_pos a4, if_pos a5, hw]
    unfold glu
    by_cases hs0 : s.size = 0
    · have b : s.toList = ([] : List UInt8) := (nil_iff s).2 hs0
      simp only [b, hs0, ne_eq, not_true_eq_false, false_and, if_true, if_false]
    · have b : ¬ s.toList = ([] : List UInt8) := fun e => hs0 ((nil_iff s).1 e)
      rw [if_neg b]
      by_cases hp : l[i].size = 0
      · have b2 : (l[i]).toList = ([] : List UInt8) := (nil_iff _).2 hp
        rw [if_pos b2, if_neg (fun x : s.size ≠ 0 ∧ l[i].size ≠ 0 => x.2 hp)]
      · have b2 : ¬ (l[i]).toList = ([] : List UInt8) := fun e => hp ((nil_iff _).1 e)
        rw [if_neg b2, if_pos (show s.size ≠ 0 ∧ l[i].size ≠ 0 from ⟨hs0, hp⟩)]
        rfl
theorem spec_join (l : List ByteArray) (hl : l.length ≤ 4611686018427387904) (hs : sumB l ≤ 140737488355328) : Ev (fun k => spec_l2Join.f k l) (joinD l) := by
  have := spec_join_loop l hl hs _ ByteArray.empty 0 (by omega) rfl (by rw [List.drop_zero]; show 0 + _ ≤ _; omega)
  unfold spec_l2Join.f
  rw [List.drop_zero] at this
  exact this
theorem sumB_bulk (l : List ByteArray) : sumB l = bulkS l := by
  induction l with
  | nil => rfl
  | cons a l ih => rw [sumB_cons, ih]; unfold bulkS; rw [bytesS_cons, List.length_cons]; omega
def cmB : ByteArray := ⟨#[44, 32]⟩
def tailI (t : ByteArray) (G : List ByteArray) (S : ByteArray) : ByteArray := if S.size = 0 then (t ++ cmB) ++ joinD G else (((t ++ cmB) ++ joinD G) ++ cmB) ++ S
def invD (G : List ByteArray) (P F S : ByteArray) : ByteArray := if G.length > 0 ∨ S.size ≠ 0 then tailI (joinD [P, F]) G S else joinD [P, F]
theorem inv_sum (G : List ByteArray) (P F S : ByteArray) (h : bulkN G P F S ≤ 1048576) : (joinD G).size ≤ 1048576 ∧ sumB [P, F] ≤ 1048580 ∧ (joinD [P, F]).size ≤ 1048580 ∧ S.size ≤ 1048576 ∧ G.length ≤ 1048576 ∧ sumB G ≤ 1048576 := by
  have h1 := joinD_size G
  have h2 := sumB_bulk G
  have h3 := joinD_size [P, F]
  have h4 : sumB [P, F] = P.size + 1 + (F.size + 1 + 0) := rfl
  unfold bulkN at h
  unfold bulkS at h h2
  omega
theorem cm_size (t : ByteArray) : (t ++ (⟨#[44, 32]⟩ : ByteArray)).size = t.size + 2 := by rw [size_append]; rfl
theorem cm_size' (t : ByteArray) : ((⟨#[44, 32]⟩ : ByteArray) ++ t).size = 2 + t.size := by rw [size_append]; rfl
theorem spec_inv_j (t : ByteArray) (G : List ByteArray) (P F S : ByteArray) (ht : t.size ≤ 1048580) (h : bulkN G P F S ≤ 1048576) : Ev (fun k => spec_l2Inverse.j0 k t true G P F S) (tailI t G S) := by
  obtain ⟨b1, b2, b3, b4, b5, b6⟩ := inv_sum G P F S h
  obtain ⟨K, hK⟩ := spec_join G (by omega) (by omega)
  have hK' : ∀ k, K ≤ k → spec_l2Given.f k G P F S = some (joinD G) := fun k hk => by unfold spec_l2Given.f; rw [show spec_l2Join.f k G = some (joinD G) from hK k hk]; rfl
  refine ⟨K + 1, fun k hk => ?_⟩
  obtain ⟨k', rfl⟩ : ∃ k', k = k' + 1 := ⟨k - 1, by omega⟩
  have a1 : t.size + 2 ≤ 9223372036854775807 := by omega
  have a2 : (t ++ (⟨#[44, 32]⟩ : ByteArray)).size + (joinD G).size ≤ 9223372036854775807 := by rw [cm_size]; omega
  have a3 : ((t ++ (⟨#[44, 32]⟩ : ByteArray)) ++ joinD G).size + 2 ≤ 9223372036854775807 := by rw [size_append, cm_size]; omega
  have a4 : (((t ++ (⟨#[44, 32]⟩ : ByteArray)) ++ joinD G) ++ (⟨#[44, 32]⟩ : ByteArray)).size + S.size ≤ 9223372036854775807 := by rw [cm_size, size_append, cm_size]; omega
  simp only [spec_l2Inverse.j0]
  rw [if_pos trivial, if_pos a1, hK' k' (by omega)]
  simp only [Option.bind_some]
  rw [if_pos a2]
  unfold tailI
  by_cases c : S.size = 0
  · rw [if_pos ((nil_iff S).2 c), if_pos c]; rfl
  · rw [if_neg (fun e => c ((nil_iff S).1 e)), if_pos a3, if_pos a4, if_neg c]; rfl
theorem spec_inv (G : List ByteArray) (P F S : ByteArray) (h : bulkN G P F S ≤ 1048576) : Ev (fun k => spec_l2Inverse.f k G P F S) (invD G P F S) := by
  obtain ⟨b1, b2, b3, b4, b5, b6⟩ := inv_sum G P F S h
  have hj := spec_inv_j (joinD [P, F]) G P F S b3 h
  unfold spec_l2Inverse.f invD
  refine Ev.bind (spec_join [P, F] (by simp) (by omega)) ?_
  by_cases c : G.length > 0
  · exact ev_pos (by omega) (ev_eq hj (if_pos (Or.inl c)).symm)
  · refine ev_neg (by omega) ?_
    by_cases d : S.size = 0
    · have e : (S.toList != ([] : List UInt8)) = false := by rw [(nil_iff S).2 d]; rfl
      rw [e]
      refine Ev.step (f := fun _ => some (joinD [P, F])) (fun k => ?_) (ev_eq (Ev.now _) (if_neg (fun x => x.elim c (fun y => y d))).symm)
      simp only [spec_l2Inverse.j0]
      rw [if_neg (by simp), if_pos ((nil_iff S).2 d)]
    · have e : (S.toList != ([] : List UInt8)) = true := bne_iff_ne.2 (fun x => d ((nil_iff S).1 x))
      rw [e]
      exact ev_eq hj (if_pos (Or.inr d)).symm
theorem app3 (a b c : ByteArray) : a ++ (b ++ c) = (a ++ b) ++ c := L_inj (by simp only [L_append, List.append_assoc])
theorem impl_inv_j (t : ByteArray) (G : List ByteArray) (P F S : ByteArray) (ht : t.size ≤ 1048580) (hg : goodN G P F S = true) (h : bulkN G P F S ≤ 1048576) : Ev (fun k => impl_inverseForm.j0 k t true G P F S) (tailI t G S) := by
  obtain ⟨b1, b2, b3, b4, b5, b6⟩ := inv_sum G P F S h
  obtain ⟨h3, h4⟩ := good_pos hg
  have hK := libJoin_all G h4 (by omega) (by omega)
  refine ⟨1, fun k hk => ?_⟩
  obtain ⟨k', rfl⟩ : ∃ k', k = k' + 1 := ⟨k - 1, by omega⟩
  have a1 : 2 + (joinD G).size ≤ 9223372036854775807 := by omega
  have a2 : t.size + ((⟨#[44, 32]⟩ : ByteArray) ++ joinD G).size ≤ 9223372036854775807 := by rw [cm_size']; omega
  have a3 : 2 + S.size ≤ 9223372036854775807 := by omega
  have a4 : (t ++ ((⟨#[44, 32]⟩ : ByteArray) ++ joinD G)).size + ((⟨#[44, 32]⟩ : ByteArray) ++ S).size ≤ 9223372036854775807 := by rw [cm_size', size_append, cm_size']; omega
  simp only [impl_inverseForm.j0]
  rw [if_pos trivial, hK]
  simp only [Option.bind_some]
  rw [if_pos a1, if_pos a2]
  unfold tailI
  by_cases c : S.size = 0
  · rw [if_pos ((nil_iff S).2 c), if_pos c, app3]; rfl
  · rw [if_neg (fun e => c ((nil_iff S).1 e)), if_pos a3, if_pos a4, if_neg c, app3, app3]; rfl
theorem impl_inv (G : List ByteArray) (P F S : ByteArray) (hg : goodN G P F S = true) (h : bulkN G P F S ≤ 1048576) : Ev (fun k => impl_inverseForm.f k G P F S) (invD G P F S) := by
  obtain ⟨b1, b2, b3, b4, b5, b6⟩ := inv_sum G P F S h
  have hj := impl_inv_j (joinD [P, F]) G P F S b3 hg h
  unfold impl_inverseForm.f invD
  refine ev_bind0 (spaced_eq [P, F] (by simp) (by simp) (by omega)) ?_
  by_cases c : G.length > 0
  · exact ev_pos (by omega) (ev_eq hj (if_pos (Or.inl c)).symm)
  · refine ev_neg (by omega) ?_
    by_cases d : S.size = 0
    · have e : (S.toList != ([] : List UInt8)) = false := by rw [(nil_iff S).2 d]; rfl
      rw [e]
      refine Ev.step (f := fun _ => some (joinD [P, F])) (fun k => ?_) (ev_eq (Ev.now _) (if_neg (fun x => x.elim c (fun y => y d))).symm)
      simp only [impl_inverseForm.j0]
      rw [if_neg (by simp), if_pos ((nil_iff S).2 d)]
    · have e : (S.toList != ([] : List UInt8)) = true := bne_iff_ne.2 (fun x => d ((nil_iff S).1 x))
      rw [e]
      exact ev_eq hj (if_pos (Or.inr d)).symm
def smB : ByteArray := ⟨#[59, 32]⟩
def ivS (x : S60) : ByteArray := invD x.f0 x.f1 x.f2 x.f3
theorem iv_len (G : List ByteArray) (P F S : ByteArray) (h : bulkN G P F S ≤ 1048576) : (invD G P F S).size ≤ 3200000 := by
  obtain ⟨h1, h2, h3, h4, h5, h6⟩ := inv_sum G P F S h
  have hc : cmB.size = 2 := rfl
  unfold invD tailI
  split
  · split
    · rw [size_append, size_append]; omega
    · rw [size_append, size_append, size_append, size_append]; omega
  · omega
theorem lens_le2 (B : Nat) (l : List (List UInt8)) (h : ∀ x ∈ l, x.length ≤ B) : Lib.lens l ≤ B * l.length := by
  induction l with
  | nil => exact Nat.le_refl _
  | cons a l ih =>
    have h1 := ih (fun x hx => h x (List.mem_cons_of_mem _ hx))
    have h2 := h a (List.mem_cons_self)
    simp only [Lib.lens, List.map_cons, List.sum_cons, List.length_cons] at h1 ⊢
    rw [Nat.mul_succ]; omega
theorem join_le2 (B : Nat) (sep : List UInt8) (l : List (List UInt8)) (h : ∀ x ∈ l, x.length ≤ B) : (Lib.join l sep).length ≤ (B + sep.length) * l.length := by
  cases l with
  | nil => simp [Lib.join_nil]
  | cons a l =>
    have h1 := lens_le2 B l (fun x hx => h x (List.mem_cons_of_mem _ hx))
    have h2 := h a (List.mem_cons_self)
    rw [Lib.join_cons, List.length_append, Lib.joinTail_length, List.length_cons, Nat.mul_succ, Nat.add_mul]
    omega
theorem tail_snoc (sep y : List UInt8) (l : List (List UInt8)) : Lib.joinTail sep (l ++ [y]) = Lib.joinTail sep l ++ (sep ++ y) := by
  induction l with
  | nil => simp [Lib.joinTail]
  | cons a l ih => simp [Lib.joinTail, ih]
theorem join_snoc (sep y : List UInt8) (l : List (List UInt8)) : Lib.join (l ++ [y]) sep = if l = [] then y else Lib.join l sep ++ (sep ++ y) := by
  cases l with
  | nil => simp [Lib.join_cons, Lib.joinTail]
  | cons a l => rw [if_neg (by simp), List.cons_append, Lib.join_cons, Lib.join_cons, tail_snoc, List.append_assoc]
def ntD (l : List S60) : ByteArray := mkB (Lib.join (l.map fun x => L (ivS x)) [59, 32])
structure NOk (l : List S60) : Prop where
  four : l.length ≤ 4
  good : ∀ x ∈ l, goodS x = true
  bulk : ∀ x ∈ l, bulkN x.f0 x.f1 x.f2 x.f3 ≤ 1048576
theorem nt_size {l : List S60} (h : NOk l) (i : Nat) : (ntD (l.take i)).size ≤ 13000000 := by
  unfold ntD
  rw [size_mk]
  have := join_le2 3200000 [59, 32] ((l.take i).map fun x => L (ivS x)) (fun x hx => by
    obtain ⟨y, hy, rfl⟩ := List.mem_map.1 hx
    rw [L_len]
    exact iv_len _ _ _ _ (h.bulk y (List.mem_of_mem_take hy)))
  have h4 := h.four
  have hl : ((l.take i).map fun x => L (ivS x)).length ≤ 4 := by rw [List.length_map, List.length_take]; omega
  exact Nat.le_trans this (Nat.le_trans (Nat.mul_le_mul_left _ hl) (by decide))
theorem nt_next (l : List S60) (i : Nat) (hi : i < l.length) : ntD (l.take (i + 1)) = if i = 0 then ntD (l.take i) ++ ivS l[i] else (ntD (l.take i) ++ smB) ++ ivS l[i] := by
  have e : (l.take (i + 1)).map (fun x => L (ivS x)) = (l.take i).map (fun x => L (ivS x)) ++ [L (ivS l[i])] := by
    rw [List.take_succ_eq_append_getElem hi, List.map_append]; rfl
  apply L_inj
  unfold ntD
  rw [L_mk, e, join_snoc]
  by_cases c : i = 0
  · subst c
    rw [if_pos (by simp), if_pos rfl, L_append, L_mk]
    simp [Lib.join_nil]
  · rw [if_neg (fun z => by have := congrArg List.length z; rw [List.length_map, List.length_take, List.length_nil] at this; omega), if_neg c, L_append, L_append, L_mk]
    have : L smB = [59, 32] := rfl
    rw [this, List.append_assoc]
theorem spec_nt_loop (l : List S60) (h : NOk l) (d : Nat) : ∀ i : Nat, i ≤ l.length → l.length - i = d → Ev (fun k => spec_l4Names.l0 k l (ntD (l.take i)) (i : Int)) (ntD l) := by
  have h4 := h.four
  induction d with
  | zero =>
    intro i h1 h2
    refine Ev.step (f := fun _ => some (ntD l)) (fun k => ?_) (Ev.now _)
    simp only [spec_l4Names.l0]
    rw [if_neg (by omega), List.take_of_length_le (by omega)]
  | succ d ih =>
    intro i h1 h2
    have hi : i < l.length := by omega
    have hm := List.getElem_mem hi
    have hw : wrap64 ((i : Int) + 1) = ((i + 1 : Nat) : Int) := by rw [w64 (by omega) (by omega)]; rfl
    have hz := nt_size h i
    have hv := iv_len _ _ _ _ (h.bulk _ hm)
    have hs := spec_inv _ _ _ _ (h.bulk _ hm)
    have hn := ih (i + 1) (by omega) (by omega)
    rw [nt_next l i hi] at hn
    have hb : (ntD (l.take i) ++ (⟨#[59, 32]⟩ : ByteArray)).size = (ntD (l.take i)).size + 2 := by rw [size_append]; rfl
    by_cases c : i = 0
    · subst c
      rw [if_pos rfl] at hn
      refine Ev.step (f := fun k => (spec_l2Inverse.f k (l[0]).f0 (l[0]).f1 (l[0]).f2 (l[0]).f3).bind fun t => if (ntD (l.take 0)).size + t.size ≤ 9223372036854775807 then spec_l4Names.l0 k l (ntD (l.take 0) ++ t) ((0 + 1 : Nat) : Int) else none) (fun k => ?_) (Ev.bind hs (ev_pos (by show _ + (ivS l[0]).size ≤ _; unfold ivS; omega) hn))
      simp only [spec_l4Names.l0, rd27 l 0 hi, hw]
      rw [if_pos (by omega), if_neg (by omega), if_pos (by omega)]
    · rw [if_neg c] at hn
      refine Ev.step (f := fun k => (spec_l2Inverse.f k (l[i]).f0 (l[i]).f1 (l[i]).f2 (l[i]).f3).bind fun t => if (ntD (l.take i) ++ (⟨#[59, 32]⟩ : ByteArray)).size + t.size ≤ 9223372036854775807 then spec_l4Names.l0 k l ((ntD (l.take i) ++ (⟨#[59, 32]⟩ : ByteArray)) ++ t) ((i + 1 : Nat) : Int) else none) (fun k => ?_) (Ev.bind hs (ev_pos (by show _ + (ivS l[i]).size ≤ _; rw [hb]; unfold ivS; omega) hn))
      simp only [spec_l4Names.l0, rd27 l i hi, hw]
      rw [if_pos (by omega), if_pos (by omega), if_pos (by omega), if_pos (by omega)]
theorem spec_nt (l : List S60) (h : NOk l) : Ev (fun k => spec_l4Names.f k l) (ntD l) := by
  unfold spec_l4Names.f
  have := spec_nt_loop l h _ 0 (by omega) rfl
  have e : ntD (l.take 0) = (⟨#[]⟩ : ByteArray) := rfl
  rw [e] at this
  exact this
theorem impl_nt_loop (l : List S60) (h : NOk l) (d : Nat) : ∀ i : Nat, i ≤ l.length → l.length - i = d → Ev (fun k => impl_namesText.l0 k ((l.take i).map ivS) l (l.length : Int) (i : Int)) (ntD l) := by
  have h4 := h.four
  induction d with
  | zero =>
    intro i h1 h2
    have hz := nt_size h l.length
    rw [List.take_length] at hz
    have hj : strings_Join.f ((l.take i).map ivS) (⟨#[59, 32]⟩ : ByteArray) = some (ntD l) := by
      rw [List.take_of_length_le (by omega)]
      unfold strings_Join.f
      have e : (l.map ivS).map (·.data.toList) = l.map fun x => L (ivS x) := by rw [List.map_map]; rfl
      rw [e]
      rw [if_pos ⟨by rw [List.length_map]; omega, by unfold ntD at hz; rw [size_mk] at hz; exact Nat.le_trans hz (by decide)⟩]
      rfl
    refine Ev.step (f := fun _ => some (ntD l)) (fun k => ?_) (Ev.now _)
    simp only [impl_namesText.l0]
    rw [if_neg (by omega), hj]
    rfl
  | succ d ih =>
    intro i h1 h2
    have hi : i < l.length := by omega
    have hm := List.getElem_mem hi
    have hw : wrap64 ((i : Int) + 1) = ((i + 1 : Nat) : Int) := by rw [w64 (by omega) (by omega)]; rfl
    have hs := impl_inv _ _ _ _ (h.good _ hm) (h.bulk _ hm)
    have hn := ih (i + 1) (by omega) (by omega)
    rw [List.take_succ_eq_append_getElem hi, List.map_append] at hn
    refine Ev.step (f := fun k => (impl_inverseForm.f k (l[i]).f0 (l[i]).f1 (l[i]).f2 (l[i]).f3).bind fun t => impl_namesText.l0 k ((l.take i).map ivS ++ [t]) l (l.length : Int) ((i + 1 : Nat) : Int)) (fun k => ?_) (Ev.bind hs hn)
    simp only [impl_namesText.l0, rd27 l i hi, hw]
    rw [if_pos (by omega), if_pos (by omega), if_pos (by omega)]
    have hq : ((l.take i).map ivS).length < 8796093022208 := by rw [List.length_map, List.length_take]; omega
    simp only [if_pos hq]
theorem impl_nt (l : List S60) (h : NOk l) : Ev (fun k => impl_namesText.f k l) (ntD l) := by
  unfold impl_namesText.f
  exact impl_nt_loop l h _ 0 (by omega) rfl
end Go.Proofs.YtdaofafeigdicaaGreatDoor.G

namespace Go.Proofs.YtdaofafeigdicaaGreatDoor.B
open Go.RowKit Go.Proofs.YtdaofafeigdicaaGreatDoorW.PrintWords Go.Proofs.YtdaofafeigdicaaGreatDoorW.PrintLast
set_option linter.unusedVariables false
set_option linter.unusedSimpArgs false
end Go.Proofs.YtdaofafeigdicaaGreatDoor.B

namespace Go.Proofs.YtdaofafeigdicaaGreatDoor.G
open Go.RowKit Go.Proofs.YtdaofafeigdicaaGreatDoorW.PrintWords Go.Proofs.YtdaofafeigdicaaGreatDoorW.PrintLast Go.Proofs.YtdaofafeigdicaaGreatDoor.B
set_option linter.unusedVariables false
set_option linter.unusedSimpArgs false
def tenB : ByteArray := (⟨#[48, 49, 50, 51, 52, 53, 54, 55, 56, 57]⟩ : ByteArray)
theorem ten_fin : ∀ i : Fin 10, ((L tenB).drop i.val).take 1 = [UInt8.ofNat (48 + i.val)] := by decide
theorem ten_at (i : Nat) (h : i < 10) (x : Int) (hx : x = i) (y : Int) (hy : y = (i + 1 : Nat)) : tenB.extract x.toNat y.toNat = mkB [UInt8.ofNat (48 + i)] := by
  apply L_inj
  have e1 : x.toNat = i := by omega
  have e2 : y.toNat = i + 1 := by omega
  rw [L_extract, L_mk, e1, e2, show i + 1 - i = 1 by omega]
  exact ten_fin ⟨i, h⟩
theorem dec_len (u : Nat) (h : u ≤ 9223372036854775807) : (Lib.decDigits u).length ≤ 21 := by
  have := Lib.itoa_length_le (u : Int) (by omega) (by omega)
  unfold Lib.itoa at this
  rw [if_neg (by omega)] at this
  simpa using this
theorem num_nat (n : Nat) : ∀ u : Nat, u ≤ n → u ≤ 4611686018427387904 → Ev (fun k => spec_l1Num.f k (u : Int)) (mkB (Lib.decDigits u)) := by
  induction n with
  | zero =>
    intro u hu _
    have : u = 0 := by omega
    subst this
    refine Ev.step (f := fun _ => some (mkB (Lib.decDigits 0))) (fun k => ?_) (Ev.now _)
    have hd : Lib.decDigits 0 = [UInt8.ofNat (48 + 0)] := Lib.decDigits_one (by omega)
    simp only [spec_l1Num.f]
    rw [hd, if_neg (by omega), if_pos (by omega), if_pos (by omega), w64 (by omega) (by omega), if_pos (by omega), if_pos (by omega)]
    exact congrArg some (ten_at 0 (by omega) _ (by omega) _ (by omega))
  | succ n ih =>
    intro u hu hb
    by_cases h : u < 10
    · refine Ev.step (f := fun _ => some (mkB (Lib.decDigits u))) (fun k => ?_) (Ev.now _)
      simp only [spec_l1Num.f]
      rw [Lib.decDigits_one h, if_neg (by omega), if_pos (by omega), if_pos (by omega), w64 (by omega) (by omega), if_pos (by omega), if_pos (by omega)]
      exact congrArg some (ten_at u h _ rfl _ (by omega))
    · have hdiv : Int.tdiv (u : Int) 10 = ((u / 10 : Nat) : Int) := rfl
      have hmod : Int.tmod (u : Int) 10 = ((u % 10 : Nat) : Int) := rfl
      have hm : u % 10 < 10 := Nat.mod_lt _ (by omega)
      have hq := ih (u / 10) (by omega) (by omega)
      have hl := dec_len (u / 10) (by omega)
      have hw1 : wrap64 (((u / 10 : Nat) : Int)) = ((u / 10 : Nat) : Int) := w64 (by omega) (by omega)
      have hw2 : wrap64 (((u % 10 : Nat) : Int) + 1) = ((u % 10 + 1 : Nat) : Int) := by rw [w64 (by omega) (by omega)]; rfl
      have ht := ten_at (u % 10) hm ((u % 10 : Nat) : Int) rfl ((u % 10 + 1 : Nat) : Int) rfl
      have hd : Lib.decDigits u = Lib.decDigits (u / 10) ++ [UInt8.ofNat (48 + u % 10)] := by rw [Lib.decDigits, dif_neg h]
      have a1 : (0 : Int) ≤ ((u % 10 : Nat) : Int) := by omega
      have a2 : ((u % 10 : Nat) : Int) ≤ ((u % 10 + 1 : Nat) : Int) := by omega
      have a3 : ((u % 10 + 1 : Nat) : Int) ≤ 10 := by omega
      refine Ev.step (f := fun k => (spec_l1Num.f k ((u / 10 : Nat) : Int)).bind fun t => if t.size + (tenB.extract ((u % 10 : Nat) : Int).toNat ((u % 10 + 1 : Nat) : Int).toNat).size ≤ 9223372036854775807 then some (t ++ tenB.extract ((u % 10 : Nat) : Int).toNat ((u % 10 + 1 : Nat) : Int).toNat) else none) (fun k => ?_) ?_
      · simp only [spec_l1Num.f]
        rw [if_neg (show ¬ (u : Int) < 0 by omega), if_neg (show ¬ (u : Int) < 10 by omega)]
        simp only [hdiv, hmod, hw1, hw2, if_pos a1, if_pos a2, if_pos a3]
        rfl
      · rw [ht]
        refine Ev.bind hq (ev_pos ?_ (ev_eq (Ev.now _) ?_))
        · rw [size_mk, size_mk, List.length_singleton]; omega
        · rw [hd, mk_append]
theorem num_ev (x : Int) (h0 : -4611686018427387904 ≤ x) (h1 : x ≤ 4611686018427387904) : Ev (fun k => spec_l1Num.f k x) (mkB (Lib.itoa x)) := by
  unfold Lib.itoa
  by_cases h : x < 0
  · rw [if_pos h]
    have hq := num_nat x.natAbs x.natAbs (Nat.le_refl _) (by omega)
    have hl := dec_len x.natAbs (by omega)
    have hw : wrap64 (-x) = ((x.natAbs : Nat) : Int) := by rw [w64 (by omega) (by omega)]; omega
    refine Ev.step (f := fun k => (spec_l1Num.f k ((x.natAbs : Nat) : Int)).bind fun t => if 1 + t.size ≤ 9223372036854775807 then some ((⟨#[45]⟩ : ByteArray) ++ t) else none) (fun k => ?_) ?_
    · simp only [spec_l1Num.f]; rw [if_pos h, hw]
    · refine Ev.bind hq (ev_pos (by rw [size_mk]; omega) (ev_eq (Ev.now _) ?_))
      rw [show (⟨#[45]⟩ : ByteArray) = mkB [45] from rfl, mk_append]; rfl
  · rw [if_neg h]
    have hq := num_nat x.toNat x.toNat (Nat.le_refl _) (by omega)
    rw [show ((x.toNat : Nat) : Int) = x by omega] at hq
    exact hq
end Go.Proofs.YtdaofafeigdicaaGreatDoor.G



namespace Go.Proofs.YtdaofafeigdicaaGreatDoor.G
open Go.RowKit Go.Proofs.YtdaofafeigdicaaGreatDoorW.PrintWords Go.Proofs.YtdaofafeigdicaaGreatDoorW.PrintLast Go.Proofs.YtdaofafeigdicaaGreatDoor.B
set_option linter.unusedVariables false
set_option linter.unusedSimpArgs false
theorem pad_same (k : Nat) : ∀ (w : Int) (t : ByteArray), impl_digits.l0 k w t = spec_l3Pad.l0 k w t := by
  induction k with
  | zero => intro w t; rfl
  | succ k ih => intro w t; simp only [impl_digits.l0, spec_l3Pad.l0, ih]
theorem pad_loop (w : Nat) (hw : w ≤ 10) (d : Nat) : ∀ t : ByteArray, w - t.size = d → t.size ≤ 1000 → ∃ u, Ev (fun k => spec_l3Pad.l0 k (w : Int) t) u ∧ u.size ≤ max w t.size := by
  induction d with
  | zero =>
    intro t h ht
    refine ⟨t, Ev.step (f := fun _ => some t) (fun k => ?_) (Ev.now _), by omega⟩
    simp only [spec_l3Pad.l0]; rw [if_neg (by omega)]
  | succ d ih =>
    intro t h ht
    have hs : ((⟨#[48]⟩ : ByteArray) ++ t).size = 1 + t.size := by rw [size_append]; rfl
    obtain ⟨u, hu, hz⟩ := ih ((⟨#[48]⟩ : ByteArray) ++ t) (by omega) (by omega)
    refine ⟨u, Ev.step (fun k => ?_) hu, by omega⟩
    simp only [spec_l3Pad.l0]; rw [if_pos (by omega), if_pos (by omega)]
theorem pad_ev (n : Int) (w : Nat) (h0 : 0 ≤ n) (h1 : n ≤ 1000000) (hw : w ≤ 10) : ∃ u, Ev (fun k => spec_l3Pad.f k n (w : Int)) u ∧ Ev (fun k => impl_digits.f k n (w : Int)) u ∧ u.size ≤ 30 := by
  have hl := Lib.itoa_length_le n (by omega) (by omega)
  have hz : (mkB (Lib.itoa n)).size ≤ 21 := by rw [size_mk]; exact hl
  obtain ⟨u, hu, hs⟩ := pad_loop w hw _ (mkB (Lib.itoa n)) rfl (by omega)
  refine ⟨u, ?_, ?_, by omega⟩
  · unfold spec_l3Pad.f
    exact Ev.bind (num_ev n (by omega) (by omega)) hu
  · have hi : strconv_Itoa.f n = some (mkB (Lib.itoa n)) := by
      unfold strconv_Itoa.f
      rw [if_pos ⟨by omega, by omega⟩]; rfl
    unfold impl_digits.f
    exact ev_bind0 hi (Ev.congr (fun k => pad_same k _ _) hu)
theorem sz1 (b : UInt8) (t : ByteArray) : ((⟨#[b]⟩ : ByteArray) ++ t).size = 1 + t.size := by rw [size_append]; rfl
theorem sz2 (b : UInt8) (t : ByteArray) : (t ++ (⟨#[b]⟩ : ByteArray)).size = t.size + 1 := by rw [size_append]; rfl
theorem assoc3 (a b c : ByteArray) : (a ++ b) ++ c = a ++ (b ++ c) := L_inj (by rw [L_append, L_append, L_append, L_append, List.append_assoc])
theorem date_text (y m d : Int) (c : Bool) (hy : 1 ≤ y ∧ y ≤ 2999) (hm : 0 ≤ m ∧ m ≤ 12) (hd : 0 ≤ d ∧ d ≤ 31) : ∃ v, Ev (fun k => spec_l3Text.f k y m d c) v ∧ Ev (fun k => impl_formatDate.f k y m d c) v := by
  obtain ⟨Y, sY, iY, zY⟩ := pad_ev y 4 (by omega) (by omega) (by omega)
  obtain ⟨M, sM, iM, zM⟩ := pad_ev m 2 (by omega) (by omega) (by omega)
  obtain ⟨D, sD, iD, zD⟩ := pad_ev d 2 (by omega) (by omega) (by omega)
  have e2 := sz2 45 Y
  have e1 := sz1 45 M
  have e1' := sz1 45 D
  have ny : ¬ y = 0 := by omega
  -- the program: behind the year
  have impl_rest : ∀ x : ByteArray, x.size ≤ 60 → Ev (fun k => impl_formatDate.j0 k x y m d c) (if m > 0 then (if d > 0 then (x ++ ((⟨#[45]⟩ : ByteArray) ++ M)) ++ ((⟨#[45]⟩ : ByteArray) ++ D) else x ++ ((⟨#[45]⟩ : ByteArray) ++ M)) else (if d > 0 then x ++ ((⟨#[45]⟩ : ByteArray) ++ D) else x)) := by
    intro x hx
    have xm : (x ++ ((⟨#[45]⟩ : ByteArray) ++ M)).size = x.size + (1 + M.size) := by rw [size_append, e1]
    by_cases cm : m > 0
    · rw [if_pos cm]
      by_cases cd : d > 0
      · rw [if_pos cd]
        refine Ev.step (f := fun k => (impl_digits.f k m 2).bind fun t135 => (if 1 + t135.size ≤ 9223372036854775807 then (if x.size + ((⟨#[45]⟩ : ByteArray) ++ t135).size ≤ 9223372036854775807 then ((impl_digits.f k d 2).bind fun t136 => (if 1 + t136.size ≤ 9223372036854775807 then (if (x ++ ((⟨#[45]⟩ : ByteArray) ++ t135)).size + ((⟨#[45]⟩ : ByteArray) ++ t136).size ≤ 9223372036854775807 then (some ((x ++ ((⟨#[45]⟩ : ByteArray) ++ t135)) ++ ((⟨#[45]⟩ : ByteArray) ++ t136))) else (none)) else (none))) else (none)) else (none))) (fun k => by simp only [impl_formatDate.j0, if_pos cm, if_pos cd]) ?_
        exact Ev.bind iM (ev_pos (by omega) (ev_pos (by omega) (Ev.bind iD (ev_pos (by omega) (ev_pos (by omega) (Ev.now _))))))
      · rw [if_neg cd]
        refine Ev.step (f := fun k => (impl_digits.f k m 2).bind fun t135 => (if 1 + t135.size ≤ 9223372036854775807 then (if x.size + ((⟨#[45]⟩ : ByteArray) ++ t135).size ≤ 9223372036854775807 then (some (x ++ ((⟨#[45]⟩ : ByteArray) ++ t135))) else (none)) else (none))) (fun k => by simp only [impl_formatDate.j0, if_pos cm, if_neg cd]) ?_
        exact Ev.bind iM (ev_pos (by omega) (ev_pos (by omega) (Ev.now _)))
    · rw [if_neg cm]
      by_cases cd : d > 0
      · rw [if_pos cd]
        refine Ev.step (f := fun k => (impl_digits.f k d 2).bind fun t137 => (if 1 + t137.size ≤ 9223372036854775807 then (if x.size + ((⟨#[45]⟩ : ByteArray) ++ t137).size ≤ 9223372036854775807 then (some (x ++ ((⟨#[45]⟩ : ByteArray) ++ t137))) else (none)) else (none))) (fun k => by simp only [impl_formatDate.j0, if_neg cm, if_pos cd]) ?_
        exact Ev.bind iD (ev_pos (by omega) (ev_pos (by omega) (Ev.now _)))
      · rw [if_neg cd]
        exact Ev.step (f := fun _ => some x) (fun k => by simp only [impl_formatDate.j0, if_neg cm, if_neg cd]) (Ev.now _)
  -- the reference: behind the month
  have spec_rest : ∀ x : ByteArray, x.size ≤ 100 → Ev (fun k => spec_l3Text.j0 k x y m d c) (if d > 0 then (if c = true then (⟨#[99]⟩ : ByteArray) ++ ((x ++ (⟨#[45]⟩ : ByteArray)) ++ D) else (x ++ (⟨#[45]⟩ : ByteArray)) ++ D) else (if c = true then (⟨#[99]⟩ : ByteArray) ++ x else x)) := by
    intro x hx
    have x2 := sz2 45 x
    have x3 : ((x ++ (⟨#[45]⟩ : ByteArray)) ++ D).size = x.size + 1 + D.size := by rw [size_append, x2]
    by_cases cd : d > 0
    · rw [if_pos cd]
      by_cases cc : c = true
      · rw [if_pos cc]
        refine Ev.step (f := fun k => if x.size + 1 ≤ 9223372036854775807 then ((spec_l3Pad.f k d 2).bind fun t120 => (if (x ++ (⟨#[45]⟩ : ByteArray)).size + t120.size ≤ 9223372036854775807 then (if 1 + ((x ++ (⟨#[45]⟩ : ByteArray)) ++ t120).size ≤ 9223372036854775807 then (some ((⟨#[99]⟩ : ByteArray) ++ ((x ++ (⟨#[45]⟩ : ByteArray)) ++ t120))) else (none)) else (none))) else (none)) (fun k => by simp only [spec_l3Text.j0, if_pos cd, if_pos cc]) ?_
        exact ev_pos (by omega) (Ev.bind sD (ev_pos (by omega) (ev_pos (by omega) (Ev.now _))))
      · rw [if_neg cc]
        refine Ev.step (f := fun k => if x.size + 1 ≤ 9223372036854775807 then ((spec_l3Pad.f k d 2).bind fun t120 => (if (x ++ (⟨#[45]⟩ : ByteArray)).size + t120.size ≤ 9223372036854775807 then (some ((x ++ (⟨#[45]⟩ : ByteArray)) ++ t120)) else (none))) else (none)) (fun k => by simp only [spec_l3Text.j0, if_pos cd, if_neg cc]) ?_
        exact ev_pos (by omega) (Ev.bind sD (ev_pos (by omega) (Ev.now _)))
    · rw [if_neg cd]
      by_cases cc : c = true
      · rw [if_pos cc]
        refine Ev.step (f := fun k => if 1 + x.size ≤ 9223372036854775807 then (some ((⟨#[99]⟩ : ByteArray) ++ x)) else (none)) (fun k => by simp only [spec_l3Text.j0, if_neg cd, if_pos cc]) ?_
        exact ev_pos (by omega) (Ev.now _)
      · rw [if_neg cc]
        exact Ev.step (f := fun _ => some x) (fun k => by simp only [spec_l3Text.j0, if_neg cd, if_neg cc]) (Ev.now _)
  have ym : ((Y ++ (⟨#[45]⟩ : ByteArray)) ++ M).size = Y.size + 1 + M.size := by rw [size_append, e2]
  have hspec : Ev (fun k => spec_l3Text.f k y m d c) (if m > 0 then (if d > 0 then (if c = true then (⟨#[99]⟩ : ByteArray) ++ ((((Y ++ (⟨#[45]⟩ : ByteArray)) ++ M) ++ (⟨#[45]⟩ : ByteArray)) ++ D) else (((Y ++ (⟨#[45]⟩ : ByteArray)) ++ M) ++ (⟨#[45]⟩ : ByteArray)) ++ D) else (if c = true then (⟨#[99]⟩ : ByteArray) ++ ((Y ++ (⟨#[45]⟩ : ByteArray)) ++ M) else (Y ++ (⟨#[45]⟩ : ByteArray)) ++ M))
      else (if d > 0 then (if c = true then (⟨#[99]⟩ : ByteArray) ++ ((Y ++ (⟨#[45]⟩ : ByteArray)) ++ D) else (Y ++ (⟨#[45]⟩ : ByteArray)) ++ D) else (if c = true then (⟨#[99]⟩ : ByteArray) ++ Y else Y))) := by
    unfold spec_l3Text.f
    refine ev_neg ny (Ev.bind sY ?_)
    by_cases cm : m > 0
    · rw [if_pos cm]
      exact ev_pos cm (ev_pos (by omega) (Ev.bind sM (ev_pos (by omega) (spec_rest _ (by omega)))))
    · rw [if_neg cm]
      exact ev_neg cm (spec_rest _ (by omega))
  have himpl : Ev (fun k => impl_formatDate.f k y m d c) (if c = true then (if m > 0 then (if d > 0 then (((⟨#[99]⟩ : ByteArray) ++ Y) ++ ((⟨#[45]⟩ : ByteArray) ++ M)) ++ ((⟨#[45]⟩ : ByteArray) ++ D) else ((⟨#[99]⟩ : ByteArray) ++ Y) ++ ((⟨#[45]⟩ : ByteArray) ++ M)) else (if d > 0 then ((⟨#[99]⟩ : ByteArray) ++ Y) ++ ((⟨#[45]⟩ : ByteArray) ++ D) else (⟨#[99]⟩ : ByteArray) ++ Y))
      else (if m > 0 then (if d > 0 then (Y ++ ((⟨#[45]⟩ : ByteArray) ++ M)) ++ ((⟨#[45]⟩ : ByteArray) ++ D) else Y ++ ((⟨#[45]⟩ : ByteArray) ++ M)) else (if d > 0 then Y ++ ((⟨#[45]⟩ : ByteArray) ++ D) else Y))) := by
    unfold impl_formatDate.f
    refine ev_neg ny (Ev.bind iY ?_)
    by_cases cc : c = true
    · rw [if_pos cc]
      have := sz1 99 Y
      exact ev_pos cc (ev_pos (by omega) (impl_rest _ (by omega)))
    · rw [if_neg cc]
      exact ev_neg cc (impl_rest _ (by omega))
  refine ⟨_, hspec, ev_eq himpl ?_⟩
  · by_cases cm : m > 0 <;> by_cases cd : d > 0 <;> cases c <;> simp [cm, cd] <;> simp only [assoc3]
end Go.Proofs.YtdaofafeigdicaaGreatDoor.G

namespace Go.Proofs.YtdaofafeigdicaaGreatDoor.Pure
open Go.RowKit Go.Proofs.YtdaofafeigdicaaGreatDoor.G Go.Proofs.YtdaofafeigdicaaGreatDoor.Gl Go.Proofs.YtdaofafeigdicaaGreatDoorW.PrintWords Go.Proofs.YtdaofafeigdicaaGreatDoorW.PrintLast Go.Proofs.YtdaofafeigdicaaGreatDoor.B Go.Proofs.YtdaofafeigdicaaGreatDoor.Opn
set_option linter.unusedVariables false
set_option linter.unusedSimpArgs false
theorem ev_shift {α : Type} {f : Nat → Option α} {v : α} (h : Ev (fun k => f (k + 1)) v) : Ev f v := Ev.step (f := fun k => f (k + 1)) (fun _ => rfl) h
def fld8 : List (List UInt8) := [[97, 117, 116, 104, 111, 114, 115], [101, 100, 105, 116, 111, 114, 115], [116, 105, 116, 108, 101], [99, 111, 110, 116, 97, 105, 110, 101, 114], [112, 117, 98, 108, 105, 115, 104, 101, 114], [100, 97, 116, 101], [118, 111, 108, 117, 109, 101], [112, 97, 103, 101, 115]]
theorem field_ev (K : ByteArray) (kd : Int) (A E : List S60) (T C Pb : ByteArray) (y m d : Int) (c : Bool) (v : Int) (Pg X : ByteArray) (a : ByteArray) (hA : NOk A) (hE : NOk E) (hg : goodD y m d c = true) (hv : 0 ≤ v ∧ v ≤ 9999) (ha : L a ∈ fld8) :
    ∃ t, Ev (fun k => spec_l4Field.f k K kd A E T C Pb y m d c v Pg X a) (t, true) ∧ Ev (fun k => impl_fieldText.f k K kd A E T C Pb y m d c v Pg X a) t := by
  unfold fld8 at ha
  unfold spec_l4Field.f impl_fieldText.f
  by_cases c1 : a.toList = ([97, 117, 116, 104, 111, 114, 115] : List UInt8)
  · skip
    exact ⟨_, ev_pos c1 (Ev.bind (spec_nt A hA) (Ev.now _)), ev_pos c1 (Ev.bind (impl_nt A hA) (Ev.now _))⟩
  by_cases c2 : a.toList = ([101, 100, 105, 116, 111, 114, 115] : List UInt8)
  · skip
    exact ⟨_, ev_neg c1 (ev_pos c2 (Ev.bind (spec_nt E hE) (Ev.now _))), ev_neg c1 (ev_pos c2 (Ev.bind (impl_nt E hE) (Ev.now _)))⟩
  by_cases c3 : a.toList = ([116, 105, 116, 108, 101] : List UInt8)
  · skip
    exact ⟨_, ev_neg c1 (ev_neg c2 (ev_pos c3 (Ev.now _))), ev_neg c1 (ev_neg c2 (ev_pos c3 (Ev.now _)))⟩
  by_cases c4 : a.toList = ([99, 111, 110, 116, 97, 105, 110, 101, 114] : List UInt8)
  · skip
    exact ⟨_, ev_neg c1 (ev_neg c2 (ev_neg c3 (ev_pos c4 (Ev.now _)))), ev_neg c1 (ev_neg c2 (ev_neg c3 (ev_pos c4 (Ev.now _))))⟩
  by_cases c5 : a.toList = ([112, 117, 98, 108, 105, 115, 104, 101, 114] : List UInt8)
  · skip
    exact ⟨_, ev_neg c1 (ev_neg c2 (ev_neg c3 (ev_neg c4 (ev_pos c5 (Ev.now _))))), ev_neg c1 (ev_neg c2 (ev_neg c3 (ev_neg c4 (ev_pos c5 (Ev.now _)))))⟩
  by_cases c6 : a.toList = ([100, 97, 116, 101] : List UInt8)
  · skip
    have n8 : ¬ a.toList = ([112, 97, 103, 101, 115] : List UInt8) := by rw [c6]; decide
    by_cases y0 : y = 0
    · exact ⟨_, ev_neg c1 (ev_neg c2 (ev_neg c3 (ev_neg c4 (ev_neg c5 (ev_neg n8 (ev_pos c6 (ev_pos y0 (Ev.now _)))))))), ev_neg c1 (ev_neg c2 (ev_neg c3 (ev_neg c4 (ev_neg c5 (ev_pos c6 (ev_neg (by omega) (Ev.now _)))))))⟩
    · have hb := good_bds hg y0
      obtain ⟨t, sv, iv⟩ := date_text y m d c ⟨hb.1, hb.2.1⟩ ⟨hb.2.2.1, hb.2.2.2.1⟩ hb.2.2.2.2
      exact ⟨_, ev_neg c1 (ev_neg c2 (ev_neg c3 (ev_neg c4 (ev_neg c5 (ev_neg n8 (ev_pos c6 (ev_neg y0 (Ev.bind sv (Ev.now _))))))))), ev_neg c1 (ev_neg c2 (ev_neg c3 (ev_neg c4 (ev_neg c5 (ev_pos c6 (ev_pos (by omega) (Ev.bind iv (Ev.now _))))))))⟩
  by_cases c7 : a.toList = ([118, 111, 108, 117, 109, 101] : List UInt8)
  · skip
    have n8 : ¬ a.toList = ([112, 97, 103, 101, 115] : List UInt8) := by rw [c7]; decide
    by_cases v0 : v = 0
    · exact ⟨_, ev_neg c1 (ev_neg c2 (ev_neg c3 (ev_neg c4 (ev_neg c5 (ev_neg n8 (ev_neg c6 (ev_pos c7 (ev_pos v0 (Ev.now _))))))))), ev_neg c1 (ev_neg c2 (ev_neg c3 (ev_neg c4 (ev_neg c5 (ev_neg c6 (ev_pos c7 (ev_neg (by omega) (Ev.now _))))))))⟩
    · have hi : strconv_Itoa.f v = some (mkB (Lib.itoa v)) := by
        unfold strconv_Itoa.f
        rw [if_pos ⟨by omega, by omega⟩]; rfl
      exact ⟨_, ev_neg c1 (ev_neg c2 (ev_neg c3 (ev_neg c4 (ev_neg c5 (ev_neg n8 (ev_neg c6 (ev_pos c7 (ev_neg v0 (Ev.bind (num_ev v (by omega) (by omega)) (Ev.now _)))))))))), ev_neg c1 (ev_neg c2 (ev_neg c3 (ev_neg c4 (ev_neg c5 (ev_neg c6 (ev_pos c7 (ev_pos (by omega) (ev_bind0 hi (Ev.now _)))))))))⟩
  by_cases c8 : a.toList = ([112, 97, 103, 101, 115] : List UInt8)
  · skip
    exact ⟨_, ev_neg c1 (ev_neg c2 (ev_neg c3 (ev_neg c4 (ev_neg c5 (ev_pos c8 (Ev.now _)))))), ev_neg c1 (ev_neg c2 (ev_neg c3 (ev_neg c4 (ev_neg c5 (ev_neg c6 (ev_neg c7 (ev_pos c8 (Ev.now _))))))))⟩
  · exfalso
    rw [toList_L] at c1 c2 c3 c4 c5 c6 c7 c8
    simp only [List.mem_cons, List.not_mem_nil, or_false] at ha
    rcases ha with h | h | h | h | h | h | h | h
    · exact c1 h
    · exact c2 h
    · exact c3 h
    · exact c4 h
    · exact c5 h
    · exact c6 h
    · exact c7 h
    · exact c8 h
theorem n_ok {l : List S60} (h : listD l = true) (hb : ∀ x ∈ l, bulkN x.f0 x.f1 x.f2 x.f3 ≤ 1048576) : NOk l := ⟨(list_good h).1, (list_good h).2, hb⟩
def need (kd : Int) : List ByteArray := if kd = 2 then [(⟨#[97, 117, 116, 104, 111, 114, 115]⟩ : ByteArray), (⟨#[116, 105, 116, 108, 101]⟩ : ByteArray), (⟨#[99, 111, 110, 116, 97, 105, 110, 101, 114]⟩ : ByteArray), (⟨#[100, 97, 116, 101]⟩ : ByteArray), (⟨#[118, 111, 108, 117, 109, 101]⟩ : ByteArray)] else if kd = 3 then [(⟨#[97, 117, 116, 104, 111, 114, 115]⟩ : ByteArray), (⟨#[116, 105, 116, 108, 101]⟩ : ByteArray), (⟨#[99, 111, 110, 116, 97, 105, 110, 101, 114]⟩ : ByteArray), (⟨#[101, 100, 105, 116, 111, 114, 115]⟩ : ByteArray), (⟨#[100, 97, 116, 101]⟩ : ByteArray)] else [(⟨#[97, 117, 116, 104, 111, 114, 115]⟩ : ByteArray), (⟨#[116, 105, 116, 108, 101]⟩ : ByteArray), (⟨#[112, 117, 98, 108, 105, 115, 104, 101, 114]⟩ : ByteArray), (⟨#[100, 97, 116, 101]⟩ : ByteArray)]
theorem need_in (kd : Int) : (need kd).length ≤ 5 ∧ ∀ a ∈ need kd, L a ∈ fld8 := by
  unfold need
  split
  · exact ⟨by decide, by decide⟩
  · split
    · exact ⟨by decide, by decide⟩
    · exact ⟨by decide, by decide⟩
theorem spec_need (kd : Int) : spec_l4Needed.f kd = some (need kd) := by
  unfold spec_l4Needed.f need
  by_cases h : kd = 2
  · rw [if_pos h, if_pos h]
  · by_cases h' : kd = 3
    · rw [if_neg h, if_neg h, if_pos h', if_pos h']
    · rw [if_neg h, if_neg h, if_neg h', if_neg h']
theorem impl_need (kd : Int) : impl_required.f kd = some (need kd) := by
  unfold impl_required.f need
  by_cases h : kd = 2
  · rw [if_pos h, if_pos h]
  · by_cases h' : kd = 3
    · rw [if_neg h, if_neg h, if_pos h', if_pos h']
    · rw [if_neg h, if_neg h, if_neg h', if_neg h']
theorem miss_loop (K : ByteArray) (kd : Int) (A E : List S60) (T C Pb : ByteArray) (y m d : Int) (c : Bool) (v : Int) (Pg X : ByteArray) (hA : NOk A) (hE : NOk E) (hg : goodD y m d c = true) (hv : 0 ≤ v ∧ v ≤ 9999) (ns : List ByteArray) (hn : ns.length ≤ 5) (hm : ∀ a ∈ ns, L a ∈ fld8) (q : Nat) :
    ∀ (i : Nat) (out : List ByteArray), out.length ≤ i → i ≤ ns.length → ns.length - i = q → ∃ r : List ByteArray, r.length ≤ 5 ∧ Ev (fun k => spec_l4Missing.l0 k out ns (i : Int) K kd A E T C Pb y m d c v Pg X) r ∧ Ev (fun k => impl_missingFields.l0 k out ns (ns.length : Int) (i : Int) K kd A E T C Pb y m d c v Pg X) r := by
  induction q with
  | zero =>
    intro i out ho h1 hd
    refine ⟨out, by omega, Ev.step (f := fun _ => some out) (fun k => ?_) (Ev.now _), Ev.step (f := fun _ => some out) (fun k => ?_) (Ev.now _)⟩
    · simp only [spec_l4Missing.l0]; rw [if_neg (by omega)]
    · simp only [impl_missingFields.l0]; rw [if_neg (by omega)]
  | succ q ih =>
    intro i out ho h1 hd
    have hi : i < ns.length := by omega
    have hw : wrap64 ((i : Int) + 1) = ((i + 1 : Nat) : Int) := by rw [w64 (by omega) (by omega)]; rfl
    have hr : rdOf ByteArray.empty ns (i : Int) = ns[i] := by unfold rdOf; rw [show ((i : Int)).toNat = i by omega, List.getD_eq_getElem?_getD, List.getElem?_eq_getElem hi]; rfl
    obtain ⟨t, st, it⟩ := field_ev K kd A E T C Pb y m d c v Pg X ns[i] hA hE hg hv (hm _ (List.getElem_mem hi))
    obtain ⟨r1, b1, s1, i1⟩ := ih (i + 1) (out ++ [ns[i]]) (by rw [List.length_append, List.length_singleton]; omega) (by omega) (by omega)
    obtain ⟨r2, b2, s2, i2⟩ := ih (i + 1) out (by omega) (by omega) (by omega)
    rw [← hw] at s1 i1 s2 i2
    rw [← hr] at st it s1 i1
    have g1 : (i : Int) < (ns.length : Int) := by omega
    have g2 : (0 : Int) ≤ (i : Int) := by omega
    have g3 : out.length < 8796093022208 := by omega
    clear hw
    by_cases e : t.toList = ([] : List UInt8)
    · by_cases au : (rdOf ByteArray.empty ns (i : Int)).toList = ([97, 117, 116, 104, 111, 114, 115] : List UInt8)
      · by_cases k1 : kd = 1
        · by_cases z : (E.length : Int) = 0
          · refine ⟨r1, b1, ?_, ?_⟩
            · apply ev_shift
              simp only [spec_l4Missing.l0]
              exact ev_pos g1 (ev_pos g2 (Ev.bind st (ev_pos e (ev_pos au (ev_pos k1 (ev_pos z (ev_pos g3 s1)))))))
            · apply ev_shift
              simp only [impl_missingFields.l0]
              exact ev_pos g1 (ev_pos g2 (ev_pos g1 (Ev.bind it (ev_pos e (ev_pos au (ev_pos k1 (ev_neg (by omega) (ev_pos g3 i1))))))))
          · refine ⟨r2, b2, ?_, ?_⟩
            · apply ev_shift
              simp only [spec_l4Missing.l0]
              exact ev_pos g1 (ev_pos g2 (Ev.bind st (ev_pos e (ev_pos au (ev_pos k1 (ev_neg z s2))))))
            · apply ev_shift
              simp only [impl_missingFields.l0]
              exact ev_pos g1 (ev_pos g2 (ev_pos g1 (Ev.bind it (ev_pos e (ev_pos au (ev_pos k1 (ev_pos (by omega) i2)))))))
        · refine ⟨r1, b1, ?_, ?_⟩
          · apply ev_shift
            simp only [spec_l4Missing.l0]
            exact ev_pos g1 (ev_pos g2 (Ev.bind st (ev_pos e (ev_pos au (ev_neg k1 (ev_pos g3 s1))))))
          · apply ev_shift
            simp only [impl_missingFields.l0]
            exact ev_pos g1 (ev_pos g2 (ev_pos g1 (Ev.bind it (ev_pos e (ev_pos au (ev_neg k1 (ev_pos g3 i1)))))))
      · refine ⟨r1, b1, ?_, ?_⟩
        · apply ev_shift
          simp only [spec_l4Missing.l0]
          exact ev_pos g1 (ev_pos g2 (Ev.bind st (ev_pos e (ev_neg au (ev_pos g3 s1)))))
        · apply ev_shift
          simp only [impl_missingFields.l0]
          exact ev_pos g1 (ev_pos g2 (ev_pos g1 (Ev.bind it (ev_pos e (ev_neg au (ev_pos g3 i1))))))
    · refine ⟨r2, b2, ?_, ?_⟩
      · apply ev_shift
        simp only [spec_l4Missing.l0]
        exact ev_pos g1 (ev_pos g2 (Ev.bind st (ev_neg e s2)))
      · apply ev_shift
        simp only [impl_missingFields.l0]
        exact ev_pos g1 (ev_pos g2 (ev_pos g1 (Ev.bind it (ev_neg e i2))))
theorem cntN_le (l : List S60) (h : ∀ x ∈ l, x.f0.length ≤ 1048576) : cntN l ≤ 1048579 * (l.length : Int) := by
  induction l with
  | nil => simp [cntN]
  | cons x r ih =>
    have := ih (fun y hy => h y (List.mem_cons_of_mem _ hy))
    have := h x List.mem_cons_self
    simp only [cntN, elN, List.length_cons]
    omega
theorem FnExactMissingFields : laws_FnExactMissingFields.Pur := by
  intro K kd A E T C Pb y m d c v Pg X hK _ hA hE hT hC hP _ _ _ _ hG hX
  apply Ev.rounds
  unfold laws_FnExactMissingFields.f
  refine Ev.bind (szE_ev K kd A E T C Pb y m d c v Pg X hA.2 hA.1 hE.2 hE.1 hK hT hC hP hG hX 1048576 (by omega) (by omega)) ?_
  by_cases q : (bulkE K A E T C Pb Pg X : Int) ≤ 1048576
  · have hl : lftOf 1048576 (bulkE K A E T C Pb Pg X) = 1048576 - bulkE K A E T C Pb Pg X := by unfold lftOf; rw [if_pos q]
    rw [hl]
    have qA : A.length + bulkL A ≤ 1048576 := by unfold bulkE at q; omega
    have qE : E.length + bulkL E ≤ 1048576 := by unfold bulkE at q; omega
    have oA := conv_ok (l := A) (by omega)
    have oE := conv_ok (l := E) (by omega)
    have lA : (A.map conv).length ≤ 1048576 := by rw [List.length_map]; omega
    have lE : (E.map conv).length ≤ 1048576 := by rw [List.length_map]; omega
    have sA : ∀ x ∈ A, x.f0.length ≤ 1048576 := fun x hx => by have := bulkL_mem hx; unfold bulkN bulkS at this; omega
    have sE : ∀ x ∈ E, x.f0.length ≤ 1048576 := fun x hx => by have := bulkL_mem hx; unfold bulkN bulkS at this; omega
    have bA : ∀ x ∈ A.map conv, bulkN x.f0 x.f1 x.f2 x.f3 ≤ 1048576 := fun x hx => by
      obtain ⟨z, hz, rfl⟩ := List.mem_map.1 hx
      have := bulkL_mem hz
      show bulkN z.f0 z.f1 z.f2 z.f3 ≤ _
      omega
    have bE : ∀ x ∈ E.map conv, bulkN x.f0 x.f1 x.f2 x.f3 ≤ 1048576 := fun x hx => by
      obtain ⟨z, hz, rfl⟩ := List.mem_map.1 hx
      have := bulkL_mem hz
      show bulkN z.f0 z.f1 z.f2 z.f3 ≤ _
      omega
    have ht := toE_ev K kd A E T C Pb y m d c v Pg X (by omega) sA (by omega) sE
    have hs := spec_ent K kd _ _ T C Pb y m d c v Pg X oA lA oE lE
    have hi := impl_ent K kd _ _ T C Pb y m d c v Pg X oA lA oE lE
    have he := eqE_same K kd _ _ T C Pb y m d c v Pg X oA lA oE lE
    have key : ∃ r : List ByteArray × Bool, r.1.length ≤ 5 ∧ Ev (fun k => spec_MissingFields.f k K kd (A.map conv) (E.map conv) T C Pb y m d c v Pg X) r ∧ Ev (fun k => impl_MissingFields.f k K kd (A.map conv) (E.map conv) T C Pb y m d c v Pg X) r := by
      unfold spec_MissingFields.f impl_MissingFields.f
      cases g : entD K kd (A.map conv) (E.map conv) T C Pb y m d c v Pg X with
      | false =>
        rw [g] at hs hi
        exact ⟨([], false), by simp, Ev.bind hs (ev_neg (by simp) (Ev.now _)), Ev.bind hi (ev_neg (by simp) (Ev.now _))⟩
      | true =>
        rw [g] at hs hi
        have g' := g
        unfold entD headE tailE at g'
        simp only [Bool.and_eq_true] at g'
        have hv : 0 ≤ v ∧ v ≤ 9999 := by
          have := g'.2.2.1.2
          unfold volD at this
          simpa using this
        obtain ⟨r, br, sr, ir⟩ := miss_loop K kd (A.map conv) (E.map conv) T C Pb y m d c v Pg X (n_ok g'.1.2.2.1 bA) (n_ok g'.1.2.2.2 bE) g'.2.2.1.1 hv (need kd) (need_in kd).1 (need_in kd).2 (need kd).length 0 [] (by simp) (by omega) rfl
        refine ⟨(r, true), br, Ev.bind hs (ev_pos rfl (Ev.bind (a := r) ?_ (Ev.now _))), Ev.bind hi (ev_pos rfl (Ev.bind (a := r) ?_ (Ev.now _)))⟩
        · unfold spec_l4Missing.f
          exact ev_bind0 (spec_need kd) sr
        · unfold impl_missingFields.f
          exact ev_bind0 (impl_need kd) ir
    have hmk : ∃ r : Int, 0 ≤ r ∧ laws_markEntry.f K kd (A.map conv) (E.map conv) T C Pb y m d c v Pg X 1 = some r := by
      have a1 := cntN_nonneg (A.map conv)
      have a2 := cntN_nonneg (E.map conv)
      have a3 := cntN_le (A.map conv) (fun x hx => by obtain ⟨z, hz, rfl⟩ := List.mem_map.1 hx; exact sA z hz)
      have a4 := cntN_le (E.map conv) (fun x hx => by obtain ⟨z, hz, rfl⟩ := List.mem_map.1 hx; exact sE z hz)
      refine ⟨1 + cntN (A.map conv) + cntN (E.map conv), by omega, ?_⟩
      unfold laws_markEntry.f
      exact if_pos ⟨by omega, by omega⟩
    obtain ⟨rk, hr0, hr⟩ := hmk
    obtain ⟨⟨g, b⟩, hn, hsf, hif⟩ := key
    have hn' : g.length ≤ 5 := hn
    have heq : Ev (fun k => laws_eqStringS.f k g g) true := ev_eq (eqS_ev g g (by omega) (by omega)) (by simp)
    have hm : Ev (fun k => laws_markStringS.f k g 1) (1 + (g.length : Int), mts 1 g.length) := markS_ev g 1 (by omega) (by omega)
    have hh : Ev (fun k => laws_heldStringS.f k (mts 1 g.length) 1) (1 + (g.length : Int)) := heldS_ev 1 g.length (by omega) (by omega)
    have j2 : Ev (fun k => laws_FnExactMissingFields.j2 k (mts 1 g.length) (1 + (g.length : Int)) (b != b)) true := by
      apply ev_shift
      simp only [laws_FnExactMissingFields.j2]
      exact ev_neg (by simp) (Ev.bind hh (ev_neg (by omega) (ev_pos rfl (Ev.now _))))
    have j1 : Ev (fun k => laws_FnExactMissingFields.j1 k g b g (b != b) K kd A E T C Pb y m d c v Pg X) true := by
      apply ev_shift
      simp only [laws_FnExactMissingFields.j1]
      exact ev_neg (by simp) (Ev.bind hm (Ev.bind hh (ev_neg (by omega) (ev_pos rfl (Ev.bind ht (Ev.bind hif (Ev.bind heq (ev_pos rfl j2))))))))
    have j0 : Ev (fun k => laws_FnExactMissingFields.j0 k g b g b (b != b) K kd A E T C Pb y m d c v Pg X K kd (A.map conv) (E.map conv) T C Pb y m d c v Pg X) true := by
      apply ev_shift
      simp only [laws_FnExactMissingFields.j0]
      exact ev_neg (by simp) (Ev.bind ht (Ev.bind he (ev_pos rfl (ev_bind0 hr (ev_neg (by omega) (Ev.bind heq (ev_pos rfl j1)))))))
    exact ev_neg (by omega) (Ev.bind ht (Ev.bind hsf (Ev.bind ht (Ev.bind hif (Ev.bind heq (ev_pos rfl j0))))))
  · have hl : lftOf 1048576 (bulkE K A E T C Pb Pg X) = -1 := by unfold lftOf; rw [if_neg q]
    rw [hl]
    exact ev_pos (by omega) (Ev.now _)
end Go.Proofs.YtdaofafeigdicaaGreatDoor.Pure
