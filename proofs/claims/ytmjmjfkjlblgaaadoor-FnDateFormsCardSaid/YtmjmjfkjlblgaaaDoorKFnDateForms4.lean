/- Texts of this session for the law FnDateForms, put together by a program (merge.py): each ends with its namespace; conditions stand with each theorem. -/
import Derived.Test.YtmjmjfkjlblgaaaDoorKFnDateForms2
import Derived.Test.YtmjmjfkjlblgaaaDoorKFnDateForms3
namespace Go.Proofs.YtmjmjfkjlblgaaaDoor.G
open Go.RowKit Go.Proofs.YtmjmjfkjlblgaaaDoorW.PrintWords Go.Proofs.YtmjmjfkjlblgaaaDoorW.PrintLast Go.Proofs.YtmjmjfkjlblgaaaDoorW.PrintMore
open Go.Proofs.YtmjmjfkjlblgaaaDoor.Gl Go.Proofs.YtmjmjfkjlblgaaaDoor.Ext
attribute [local go_sem] max2_int min2_int max_two min_two max_three min_three max_four min_four   -- for this text's walks alone
set_option linter.unusedVariables false
set_option linter.unusedSimpArgs false

/-! ### spec_l1Cur_twoDates: function 56 -/
def spec_l1Cur_twoDates.f (s0_0 : List Int) (s0_1 : Int) (s0_2 : Int) : Option (Int × Int × Int × Bool × Int × Int × Int × Bool × Int × Int) := (spec_l1Cur_anyDate.f s0_0 s0_1 s0_2).bind fun bt384 => ((spec_l1Cur_anyDate.f s0_0 bt384.2.2.2.2.1 bt384.2.2.2.2.2).bind fun bt391 => ((spec_l1Cur_pick.f s0_0 bt391.2.2.2.2.1 bt391.2.2.2.2.2 4).bind fun bt398 => (if bt398.1 = 0 then ((spec_l1Cur_one.f s0_0 bt398.2.1 bt398.2.2 2).bind fun bt401 => (if bt401.1 = true then (some (bt384.1, bt384.2.1, 0, bt384.2.2.2.1, bt384.1, bt384.2.1, bt384.2.2.1, bt384.2.2.2.1, bt401.2.1, bt401.2.2)) else (some (bt384.1, bt384.2.1, bt384.2.2.1, bt384.2.2.2.1, bt384.1, bt384.2.1, 0, bt384.2.2.2.1, bt401.2.1, bt401.2.2)))) else (if bt398.1 = 1 then ((spec_l1Cur_one.f s0_0 bt398.2.1 bt398.2.2 2).bind fun bt404 => (if bt404.1 = true then (some (bt384.1, 0, 0, bt384.2.2.2.1, bt384.1, bt384.2.1, bt384.2.2.1, bt384.2.2.2.1, bt404.2.1, bt404.2.2)) else (some (bt384.1, bt384.2.1, bt384.2.2.1, bt384.2.2.2.1, bt384.1, 0, 0, bt384.2.2.2.1, bt404.2.1, bt404.2.2)))) else (if bt398.1 = 2 then ((spec_l1Cur_one.f s0_0 bt398.2.1 bt398.2.2 2).bind fun bt407 => (if bt407.1 = true then (some (bt384.1, 0, 0, true, bt384.1, bt384.2.1, bt384.2.2.1, bt384.2.2.2.1, bt407.2.1, bt407.2.2)) else (some (bt384.1, bt384.2.1, bt384.2.2.1, bt384.2.2.2.1, bt384.1, 0, 0, true, bt407.2.1, bt407.2.2)))) else ((spec_l1Cur_one.f s0_0 bt398.2.1 bt398.2.2 2).bind fun bt410 => (if bt410.1 = true then (some (bt391.1, bt391.2.1, bt391.2.2.1, bt391.2.2.2.1, bt384.1, bt384.2.1, bt384.2.2.1, bt384.2.2.2.1, bt410.2.1, bt410.2.2)) else (some (bt384.1, bt384.2.1, bt384.2.2.1, bt384.2.2.2.1, bt391.1, bt391.2.1, bt391.2.2.1, bt391.2.2.2.1, bt410.2.1, bt410.2.2)))))))))
set_option maxHeartbeats 8000000 in
set_option maxRecDepth 100000 in
theorem spec_l1Cur_twoDates.calls (g : Nat) (s0_0 : List Int) (s0_1 : Int) (s0_2 : Int) (r1 : Int) (r2 : Int) (r3 : Int) (r4 : Bool) (r5 : Int) (r6 : Int) (r7 : Int) (r8 : Bool) (r9 : Int) (r10 : Int) (w0 w : World) (hI : IsS51 w0 w g s0_0 s0_1 s0_2) (hB : Below w0.heap.size w0 w) (h : spec_l1Cur_twoDates.f s0_0 s0_1 s0_2 = some (r1, r2, r3, r4, r5, r6, r7, r8, r9, r10)) :
  Calls Tryd.prog 56 #[.pointer (some ⟨g, 0, none⟩)] w fun e w' => e = .returned (.tuple #[.agg #[.int .i64 r1, .int .i64 r2, .int .i64 r3, .bool r4], .agg #[.int .i64 r5, .int .i64 r6, .int .i64 r7, .bool r8]]) ∧ IsS51 w0 w' g s0_0 r9 r10 ∧ Below w0.heap.size w0 w' ∧ KeepBut w w' g none := by
 have hu33 := Tryd.underlying33
 have HI0 := Aside0.mk hI
 have HK := Aside0.mk (KeepBut.refl w g none)
 have HL := Aside0.mk hB.size
 clear hI
 have HW0 := Aside0.mk hB.size
 have HB := Aside0.mk hB
 clear hB
 have H : ((spec_l1Cur_anyDate.f s0_0 s0_1 s0_2).bind fun bt384 => ((spec_l1Cur_anyDate.f s0_0 bt384.2.2.2.2.1 bt384.2.2.2.2.2).bind fun bt391 => ((spec_l1Cur_pick.f s0_0 bt391.2.2.2.2.1 bt391.2.2.2.2.2 4).bind fun bt398 => (if bt398.1 = 0 then ((spec_l1Cur_one.f s0_0 bt398.2.1 bt398.2.2 2).bind fun bt401 => (if bt401.1 = true then (some (bt384.1, bt384.2.1, 0, bt384.2.2.2.1, bt384.1, bt384.2.1, bt384.2.2.1, bt384.2.2.2.1, bt401.2.1, bt401.2.2)) else (some (bt384.1, bt384.2.1, bt384.2.2.1, bt384.2.2.2.1, bt384.1, bt384.2.1, 0, bt384.2.2.2.1, bt401.2.1, bt401.2.2)))) else (if bt398.1 = 1 then ((spec_l1Cur_one.f s0_0 bt398.2.1 bt398.2.2 2).bind fun bt404 => (if bt404.1 = true then (some (bt384.1, 0, 0, bt384.2.2.2.1, bt384.1, bt384.2.1, bt384.2.2.1, bt384.2.2.2.1, bt404.2.1, bt404.2.2)) else (some (bt384.1, bt384.2.1, bt384.2.2.1, bt384.2.2.2.1, bt384.1, 0, 0, bt384.2.2.2.1, bt404.2.1, bt404.2.2)))) else (if bt398.1 = 2 then ((spec_l1Cur_one.f s0_0 bt398.2.1 bt398.2.2 2).bind fun bt407 => (if bt407.1 = true then (some (bt384.1, 0, 0, true, bt384.1, bt384.2.1, bt384.2.2.1, bt384.2.2.2.1, bt407.2.1, bt407.2.2)) else (some (bt384.1, bt384.2.1, bt384.2.2.1, bt384.2.2.2.1, bt384.1, 0, 0, true, bt407.2.1, bt407.2.2)))) else ((spec_l1Cur_one.f s0_0 bt398.2.1 bt398.2.2 2).bind fun bt410 => (if bt410.1 = true then (some (bt391.1, bt391.2.1, bt391.2.2.1, bt391.2.2.2.1, bt384.1, bt384.2.1, bt384.2.2.1, bt384.2.2.2.1, bt410.2.1, bt410.2.2)) else (some (bt384.1, bt384.2.1, bt384.2.2.1, bt384.2.2.2.1, bt391.1, bt391.2.1, bt391.2.2.1, bt391.2.2.2.1, bt410.2.1, bt410.2.2)))))))))) = some (r1, r2, r3, r4, r5, r6, r7, r8, r9, r10) := h
 clear h
 replace H := Option.bind_eq_some_iff.mp H
 obtain ⟨⟨t384, t385, t386, t387, t388, t389⟩, A20, H⟩ := H
 replace H : ((spec_l1Cur_anyDate.f s0_0 t388 t389).bind fun bt391 => ((spec_l1Cur_pick.f s0_0 bt391.2.2.2.2.1 bt391.2.2.2.2.2 4).bind fun bt398 => (if bt398.1 = 0 then ((spec_l1Cur_one.f s0_0 bt398.2.1 bt398.2.2 2).bind fun bt401 => (if bt401.1 = true then (some (t384, t385, 0, t387, t384, t385, t386, t387, bt401.2.1, bt401.2.2)) else (some (t384, t385, t386, t387, t384, t385, 0, t387, bt401.2.1, bt401.2.2)))) else (if bt398.1 = 1 then ((spec_l1Cur_one.f s0_0 bt398.2.1 bt398.2.2 2).bind fun bt404 => (if bt404.1 = true then (some (t384, 0, 0, t387, t384, t385, t386, t387, bt404.2.1, bt404.2.2)) else (some (t384, t385, t386, t387, t384, 0, 0, t387, bt404.2.1, bt404.2.2)))) else (if bt398.1 = 2 then ((spec_l1Cur_one.f s0_0 bt398.2.1 bt398.2.2 2).bind fun bt407 => (if bt407.1 = true then (some (t384, 0, 0, true, t384, t385, t386, t387, bt407.2.1, bt407.2.2)) else (some (t384, t385, t386, t387, t384, 0, 0, true, bt407.2.1, bt407.2.2)))) else ((spec_l1Cur_one.f s0_0 bt398.2.1 bt398.2.2 2).bind fun bt410 => (if bt410.1 = true then (some (bt391.1, bt391.2.1, bt391.2.2.1, bt391.2.2.2.1, t384, t385, t386, t387, bt410.2.1, bt410.2.2)) else (some (t384, t385, t386, t387, bt391.1, bt391.2.1, bt391.2.2.1, bt391.2.2.2.1, bt410.2.1, bt410.2.2))))))))) = some (r1, r2, r3, r4, r5, r6, r7, r8, r9, r10) := H
 have A2 := Aside0.mk A20
 clear A20
 replace H := Option.bind_eq_some_iff.mp H
 obtain ⟨⟨t391, t392, t393, t394, t395, t396⟩, A30, H⟩ := H
 replace H : ((spec_l1Cur_pick.f s0_0 t395 t396 4).bind fun bt398 => (if bt398.1 = 0 then ((spec_l1Cur_one.f s0_0 bt398.2.1 bt398.2.2 2).bind fun bt401 => (if bt401.1 = true then (some (t384, t385, 0, t387, t384, t385, t386, t387, bt401.2.1, bt401.2.2)) else (some (t384, t385, t386, t387, t384, t385, 0, t387, bt401.2.1, bt401.2.2)))) else (if bt398.1 = 1 then ((spec_l1Cur_one.f s0_0 bt398.2.1 bt398.2.2 2).bind fun bt404 => (if bt404.1 = true then (some (t384, 0, 0, t387, t384, t385, t386, t387, bt404.2.1, bt404.2.2)) else (some (t384, t385, t386, t387, t384, 0, 0, t387, bt404.2.1, bt404.2.2)))) else (if bt398.1 = 2 then ((spec_l1Cur_one.f s0_0 bt398.2.1 bt398.2.2 2).bind fun bt407 => (if bt407.1 = true then (some (t384, 0, 0, true, t384, t385, t386, t387, bt407.2.1, bt407.2.2)) else (some (t384, t385, t386, t387, t384, 0, 0, true, bt407.2.1, bt407.2.2)))) else ((spec_l1Cur_one.f s0_0 bt398.2.1 bt398.2.2 2).bind fun bt410 => (if bt410.1 = true then (some (t391, t392, t393, t394, t384, t385, t386, t387, bt410.2.1, bt410.2.2)) else (some (t384, t385, t386, t387, t391, t392, t393, t394, bt410.2.1, bt410.2.2)))))))) = some (r1, r2, r3, r4, r5, r6, r7, r8, r9, r10) := H
 have A3 := Aside0.mk A30
 clear A30
 replace H := Option.bind_eq_some_iff.mp H
 obtain ⟨⟨t398, t399, t400⟩, A40, H⟩ := H
 replace H : (if t398 = 0 then ((spec_l1Cur_one.f s0_0 t399 t400 2).bind fun bt401 => (if bt401.1 = true then (some (t384, t385, 0, t387, t384, t385, t386, t387, bt401.2.1, bt401.2.2)) else (some (t384, t385, t386, t387, t384, t385, 0, t387, bt401.2.1, bt401.2.2)))) else (if t398 = 1 then ((spec_l1Cur_one.f s0_0 t399 t400 2).bind fun bt404 => (if bt404.1 = true then (some (t384, 0, 0, t387, t384, t385, t386, t387, bt404.2.1, bt404.2.2)) else (some (t384, t385, t386, t387, t384, 0, 0, t387, bt404.2.1, bt404.2.2)))) else (if t398 = 2 then ((spec_l1Cur_one.f s0_0 t399 t400 2).bind fun bt407 => (if bt407.1 = true then (some (t384, 0, 0, true, t384, t385, t386, t387, bt407.2.1, bt407.2.2)) else (some (t384, t385, t386, t387, t384, 0, 0, true, bt407.2.1, bt407.2.2)))) else ((spec_l1Cur_one.f s0_0 t399 t400 2).bind fun bt410 => (if bt410.1 = true then (some (t391, t392, t393, t394, t384, t385, t386, t387, bt410.2.1, bt410.2.2)) else (some (t384, t385, t386, t387, t391, t392, t393, t394, bt410.2.1, bt410.2.2))))))) = some (r1, r2, r3, r4, r5, r6, r7, r8, r9, r10) := H
 have A4 := Aside0.mk A40
 clear A40
 by_cases c5 : t398 = 0
 ·
  rw [if_pos c5] at H
  have c5b0 : (t398 == 0) = true := beq_iff_eq.mpr c5
  have c5b1 : (t398 != 0) = false := bne_eq_false_iff_eq.mpr c5
  clear c5
  replace H := Option.bind_eq_some_iff.mp H
  obtain ⟨⟨t401, t402, t403⟩, A60, H⟩ := H
  replace H : (if t401 = true then (some (t384, t385, 0, t387, t384, t385, t386, t387, t402, t403)) else (some (t384, t385, t386, t387, t384, t385, 0, t387, t402, t403))) = some (r1, r2, r3, r4, r5, r6, r7, r8, r9, r10) := H
  have A6 := Aside0.mk A60
  clear A60
  by_cases c7 : t401 = true
  ·
   subst c7
   replace H := (if_pos rfl).symm.trans H
   simp only [Option.some.injEq, Prod.mk.injEq] at H
   obtain ⟨rfl, rfl, rfl, rfl, rfl, rfl, rfl, rfl, rfl, rfl⟩ := H
   go_enter Tryd.func56, Tryd.ntmps56
   try go_wp2_with (first | ((with_reducible refine gate_dst (N := 2) rfl ?_); refine box_event ?hg (N := 2) ?hd (cs := #[.int .i64 0, .int .i64 0, .int .i64 0, .bool false]) (t := 33) ?hr ?_; (case hd => rfl); (case hg => rfl); (case hr => first | (go_simp; done) | (go_simp; rfl)); intro gb382 hg w8 hbox hb; replace HB := Aside0.mk (below_step au82 hb); have BK382 := Aside0.mk (hbox); have GW382 := Aside0.mk ((by rw [hg]; exact (keep_size (w := w) (g := g) (row := none) au99) : w.heap.size ≤ gb382)); have GE382 := Aside0.mk ((Nat.le_trans HW0.out (by rw [hg]; exact (keep_size (w := w) (g := g) (row := none) au99) : w.heap.size ≤ gb382) : w0.heap.size ≤ gb382)); replace HK := Aside0.mk (KeepBut.trans au99 (KeepBut.of_below hb g none) (.inl rfl)); have NB0_382 := Aside0.mk ((by rw [hg]; exact Nat.ne_of_lt (IsS51.lt (show IsS51 w0 _ g s0_0 s0_1 s0_2 from by repeat (first | (with_reducible first | exact HI0.out | apply IsS51.alloc | apply IsS51.drewN | apply IsS51.drew | apply IsS51.set_1 | apply IsS51.set_2) | exact HI0.out))) : g ≠ gb382)); have NB382_0 := Aside0.mk ((by rw [hg]; exact Nat.ne_of_gt (IsS51.lt (show IsS51 w0 _ g s0_0 s0_1 s0_2 from by repeat (first | (with_reducible first | exact HI0.out | apply IsS51.alloc | apply IsS51.drewN | apply IsS51.drew | apply IsS51.set_1 | apply IsS51.set_2) | exact HI0.out))) : gb382 ≠ g)); replace HI0 := Aside0.mk (IsS51.below au83 hb); clear hb hbox hg) | ((with_reducible refine gate_dst (N := 3) rfl ?_); refine box_event ?hg (N := 3) ?hd (cs := #[.int .i64 0, .int .i64 0, .int .i64 0, .bool false]) (t := 33) ?hr ?_; (case hd => rfl); (case hg => rfl); (case hr => first | (go_simp; done) | (go_simp; rfl)); intro gb383 hg w9 hbox hb; replace HB := Aside0.mk (below_step au67 hb); have BK383 := Aside0.mk (hbox); have GW383 := Aside0.mk ((by rw [hg]; exact (keep_size (w := w) (g := g) (row := none) au79) : w.heap.size ≤ gb383)); have GE383 := Aside0.mk ((Nat.le_trans HW0.out (by rw [hg]; exact (keep_size (w := w) (g := g) (row := none) au79) : w.heap.size ≤ gb383) : w0.heap.size ≤ gb383)); replace HK := Aside0.mk (KeepBut.trans au79 (KeepBut.of_below hb g none) (.inl rfl)); have NB382_383 := Aside0.mk (bne (g := gb382) hg au115); have NB383_382 := Aside0.mk (ben (g := gb382) hg au115); replace BK382 := Aside0.mk (blk_below (g := gb382) au115 hb); have NB0_383 := Aside0.mk ((by rw [hg]; exact Nat.ne_of_lt (IsS51.lt (show IsS51 w0 _ g s0_0 s0_1 s0_2 from by repeat (first | (with_reducible first | exact HI0.out | apply IsS51.alloc | apply IsS51.drewN | apply IsS51.drew | apply IsS51.set_1 | apply IsS51.set_2 | refine IsS51.far ?_ NB0_382.out _) | exact HI0.out))) : g ≠ gb383)); have NB383_0 := Aside0.mk ((by rw [hg]; exact Nat.ne_of_gt (IsS51.lt (show IsS51 w0 _ g s0_0 s0_1 s0_2 from by repeat (first | (with_reducible first | exact HI0.out | apply IsS51.alloc | apply IsS51.drewN | apply IsS51.drew | apply IsS51.set_1 | apply IsS51.set_2 | refine IsS51.far ?_ NB0_382.out _) | exact HI0.out))) : gb383 ≠ g)); replace HI0 := Aside0.mk (IsS51.below au64 hb); clear hb hbox hg) | ((with_reducible refine gate_callee (f := 72) rfl ?_); refine goesL_ (some 7) rfl rfl Tryd.func72 (by kernel_rfl) rfl #[.pointer (some ⟨g, 0, none⟩)] rfl au100 ?_; (with_reducible refine (spec_l1Cur_anyDate.calls g s0_0 s0_1 s0_2 t384 t385 t386 t387 t388 t389 w0 _ ?side1 ?side2 A2.out).mono ?_); (case side1 => repeat (first | (with_reducible first | exact HI0.out | apply IsS51.alloc | apply IsS51.drewN | apply IsS51.drew | apply IsS51.set_1 | apply IsS51.set_2 | refine IsS51.far ?_ NB0_382.out _ | refine IsS51.far ?_ NB0_383.out _) | exact HI0.out)); (case side2 => repeat (first | (with_reducible first | exact HB.out | apply below_alloc | apply pw_below_drewN | apply below_drew1 | refine below_set ?_ (IsS51.ge HI0.out) | refine below_set ?_ GE382.out | refine below_set ?_ GE383.out) | exact HB.out)); rintro e w10 ⟨rfl, hi, hb, hk⟩; refine ⟨_, rfl, ?_⟩; replace BK382 := Aside0.mk (KeepBut.blk hk (g' := gb382) (o := .cells #[.int .i64 0, .int .i64 0, .int .i64 0, .bool false] 33 (0, 0)) au115 NB382_0.out (by simp)); replace BK383 := Aside0.mk (KeepBut.blk hk (g' := gb383) (o := .cells #[.int .i64 0, .int .i64 0, .int .i64 0, .bool false] 33 (0, 0)) au116 NB383_0.out (by simp)); replace HK := Aside0.mk (KeepBut.trans au61 hk (.inl rfl)); replace HB := Aside0.mk (hb); replace HI0 := Aside0.mk (hi); (try clear hb); (try clear hk); (try clear hi)) | ((with_reducible refine gate_dst (N := 4) rfl ?_); refine box_event ?hg (N := 4) ?hd (cs := #[.int .i64 0, .int .i64 0, .int .i64 0, .bool false]) (t := 33) ?hr ?_; (case hd => rfl); (case hg => rfl); (case hr => first | (go_simp; done) | (go_simp; rfl)); intro gb390 hg w11 hbox hb; replace HB := Aside0.mk (below_step au56 hb); have BK390 := Aside0.mk (hbox); have GW390 := Aside0.mk ((by rw [hg]; exact (keep_size (w := w) (g := g) (row := none) au61) : w.heap.size ≤ gb390)); have GE390 := Aside0.mk ((Nat.le_trans HW0.out (by rw [hg]; exact (keep_size (w := w) (g := g) (row := none) au61) : w.heap.size ≤ gb390) : w0.heap.size ≤ gb390)); replace HK := Aside0.mk (KeepBut.trans au61 (KeepBut.of_below hb g none) (.inl rfl)); have NB382_390 := Aside0.mk (bne (g := gb382) hg au115); have NB390_382 := Aside0.mk (ben (g := gb382) hg au115); replace BK382 := Aside0.mk (blk_below (g := gb382) au115 hb); have NB383_390 := Aside0.mk (bne (g := gb383) hg au116); have NB390_383 := Aside0.mk (ben (g := gb383) hg au116); replace BK383 := Aside0.mk (blk_below (g := gb383) au116 hb); have NB0_390 := Aside0.mk ((by rw [hg]; exact Nat.ne_of_lt (IsS51.lt (show IsS51 w0 _ g s0_0 t388 t389 from by repeat (first | (with_reducible first | exact HI0.out | apply IsS51.alloc | apply IsS51.drewN | apply IsS51.drew | apply IsS51.set_1 | apply IsS51.set_2 | refine IsS51.far ?_ NB0_382.out _ | refine IsS51.far ?_ NB0_383.out _) | exact HI0.out))) : g ≠ gb390)); have NB390_0 := Aside0.mk ((by rw [hg]; exact Nat.ne_of_gt (IsS51.lt (show IsS51 w0 _ g s0_0 t388 t389 from by repeat (first | (with_reducible first | exact HI0.out | apply IsS51.alloc | apply IsS51.drewN | apply IsS51.drew | apply IsS51.set_1 | apply IsS51.set_2 | refine IsS51.far ?_ NB0_382.out _ | refine IsS51.far ?_ NB0_383.out _) | exact HI0.out))) : gb390 ≠ g)); replace HI0 := Aside0.mk (IsS51.below au54 hb); clear hb hbox hg; have hnb12 := NB390_382.out; have hnc12 := NB382_390.out; have hnb13 := NB390_383.out; have hnc13 := NB383_390.out; have hnb14 := NB390_0.out; have hnc14 := NB0_390.out; obtain ⟨hcz15_0, hcz15_1, hcz15_2, hcz15_3, hfz15_0, hfz15_1, hfz15_2, hfz15_3⟩ := blkc4 BK390.out) | ((with_reducible refine gate_callee (f := 72) rfl ?_); refine goesL_ (some 9) rfl rfl Tryd.func72 (by kernel_rfl) rfl #[.pointer (some ⟨g, 0, none⟩)] rfl au100 ?_; (with_reducible refine (spec_l1Cur_anyDate.calls g s0_0 t388 t389 t391 t392 t393 t394 t395 t396 w0 _ ?side1 ?side2 A3.out).mono ?_); (case side1 => repeat (first | (with_reducible first | exact HI0.out | apply IsS51.alloc | apply IsS51.drewN | apply IsS51.drew | apply IsS51.set_1 | apply IsS51.set_2 | refine IsS51.far ?_ NB0_382.out _ | refine IsS51.far ?_ NB0_383.out _ | refine IsS51.far ?_ NB0_390.out _) | exact HI0.out)); (case side2 => repeat (first | (with_reducible first | exact HB.out | apply below_alloc | apply pw_below_drewN | apply below_drew1 | refine below_set ?_ (IsS51.ge HI0.out) | refine below_set ?_ GE382.out | refine below_set ?_ GE383.out | refine below_set ?_ GE390.out) | exact HB.out)); rintro e w16 ⟨rfl, hi, hb, hk⟩; refine ⟨_, rfl, ?_⟩; replace BK382 := Aside0.mk (KeepBut.blk hk (g' := gb382) (o := .cells #[.int .i64 0, .int .i64 0, .int .i64 0, .bool false] 33 (0, 0)) au30 NB382_0.out (by simp)); replace BK383 := Aside0.mk (KeepBut.blk hk (g' := gb383) (o := .cells #[.int .i64 0, .int .i64 0, .int .i64 0, .bool false] 33 (0, 0)) au31 NB383_0.out (by simp)); replace BK390 := Aside0.mk (KeepBut.blk hk (g' := gb390) (o := .cells #[.int .i64 t384, .int .i64 t385, .int .i64 t386, .bool t387] 33 (0, 0)) au19 NB390_0.out (by simp)); replace HK := Aside0.mk (KeepBut.trans au52 hk (.inl rfl)); replace HB := Aside0.mk (hb); replace HI0 := Aside0.mk (hi); (try clear hb); (try clear hk); (try clear hi)) | ((with_reducible refine gate_dst (N := 5) rfl ?_); refine box_event ?hg (N := 5) ?hd (cs := #[.int .i64 0, .int .i64 0, .int .i64 0, .bool false]) (t := 33) ?hr ?_; (case hd => rfl); (case hg => rfl); (case hr => first | (go_simp; done) | (go_simp; rfl)); intro gb397 hg w17 hbox hb; replace HB := Aside0.mk (below_step au48 hb); have BK397 := Aside0.mk (hbox); have GW397 := Aside0.mk ((by rw [hg]; exact (keep_size (w := w) (g := g) (row := none) au52) : w.heap.size ≤ gb397)); have GE397 := Aside0.mk ((Nat.le_trans HW0.out (by rw [hg]; exact (keep_size (w := w) (g := g) (row := none) au52) : w.heap.size ≤ gb397) : w0.heap.size ≤ gb397)); replace HK := Aside0.mk (KeepBut.trans au52 (KeepBut.of_below hb g none) (.inl rfl)); have NB382_397 := Aside0.mk (bne (g := gb382) hg au115); have NB397_382 := Aside0.mk (ben (g := gb382) hg au115); replace BK382 := Aside0.mk (blk_below (g := gb382) au115 hb); have NB383_397 := Aside0.mk (bne (g := gb383) hg au116); have NB397_383 := Aside0.mk (ben (g := gb383) hg au116); replace BK383 := Aside0.mk (blk_below (g := gb383) au116 hb); have NB390_397 := Aside0.mk (bne (g := gb390) hg au117); have NB397_390 := Aside0.mk (ben (g := gb390) hg au117); replace BK390 := Aside0.mk (blk_below (g := gb390) au117 hb); have NB0_397 := Aside0.mk ((by rw [hg]; exact Nat.ne_of_lt (IsS51.lt (show IsS51 w0 _ g s0_0 t395 t396 from by repeat (first | (with_reducible first | exact HI0.out | apply IsS51.alloc | apply IsS51.drewN | apply IsS51.drew | apply IsS51.set_1 | apply IsS51.set_2 | refine IsS51.far ?_ NB0_382.out _ | refine IsS51.far ?_ NB0_383.out _ | refine IsS51.far ?_ NB0_390.out _) | exact HI0.out))) : g ≠ gb397)); have NB397_0 := Aside0.mk ((by rw [hg]; exact Nat.ne_of_gt (IsS51.lt (show IsS51 w0 _ g s0_0 t395 t396 from by repeat (first | (with_reducible first | exact HI0.out | apply IsS51.alloc | apply IsS51.drewN | apply IsS51.drew | apply IsS51.set_1 | apply IsS51.set_2 | refine IsS51.far ?_ NB0_382.out _ | refine IsS51.far ?_ NB0_383.out _ | refine IsS51.far ?_ NB0_390.out _) | exact HI0.out))) : gb397 ≠ g)); replace HI0 := Aside0.mk (IsS51.below au46 hb); clear hb hbox hg; have hnb18 := NB397_382.out; have hnc18 := NB382_397.out; have hnb19 := NB397_383.out; have hnc19 := NB383_397.out; have hnb20 := NB397_390.out; have hnc20 := NB390_397.out; have hnb21 := NB397_0.out; have hnc21 := NB0_397.out; obtain ⟨hcz22_0, hcz22_1, hcz22_2, hcz22_3, hfz22_0, hfz22_1, hfz22_2, hfz22_3⟩ := blkc4 BK397.out) | ((with_reducible refine gate_callee (f := 31) rfl ?_); refine goesL_ (some 11) rfl rfl Tryd.func31 (by kernel_rfl) rfl #[.pointer (some ⟨g, 0, none⟩), .int .i64 4] rfl au100 ?_; (with_reducible refine (spec_l1Cur_pick.calls g s0_0 t395 t396 4 t398 t399 t400 w0 _ ?side1 ?side2 A4.out).mono ?_); (case side1 => repeat (first | (with_reducible first | exact HI0.out | apply IsS51.alloc | apply IsS51.drewN | apply IsS51.drew | apply IsS51.set_1 | apply IsS51.set_2 | refine IsS51.far ?_ NB0_382.out _ | refine IsS51.far ?_ NB0_383.out _ | refine IsS51.far ?_ NB0_390.out _ | refine IsS51.far ?_ NB0_397.out _) | exact HI0.out)); (case side2 => repeat (first | (with_reducible first | exact HB.out | apply below_alloc | apply pw_below_drewN | apply below_drew1 | refine below_set ?_ (IsS51.ge HI0.out) | refine below_set ?_ GE382.out | refine below_set ?_ GE383.out | refine below_set ?_ GE390.out | refine below_set ?_ GE397.out) | exact HB.out)); rintro e w23 ⟨rfl, hi, hb, hk⟩; refine ⟨_, rfl, ?_⟩; replace BK382 := Aside0.mk (KeepBut.blk hk (g' := gb382) (o := .cells #[.int .i64 0, .int .i64 0, .int .i64 0, .bool false] 33 (0, 0)) au32 NB382_0.out (by simp)); replace BK383 := Aside0.mk (KeepBut.blk hk (g' := gb383) (o := .cells #[.int .i64 0, .int .i64 0, .int .i64 0, .bool false] 33 (0, 0)) au33 NB383_0.out (by simp)); replace BK390 := Aside0.mk (KeepBut.blk hk (g' := gb390) (o := .cells #[.int .i64 t384, .int .i64 t385, .int .i64 t386, .bool t387] 33 (0, 0)) au34 NB390_0.out (by simp)); replace BK397 := Aside0.mk (KeepBut.blk hk (g' := gb397) (o := .cells #[.int .i64 t391, .int .i64 t392, .int .i64 t393, .bool t394] 33 (0, 0)) au20 NB397_0.out (by simp)); replace HK := Aside0.mk (KeepBut.trans au47 hk (.inl rfl)); replace HB := Aside0.mk (hb); replace HI0 := Aside0.mk (hi); (try clear hb); (try clear hk); (try clear hi); obtain ⟨hcz24_0, hcz24_1, hcz24_2, hcz24_3, hfz24_0, hfz24_1, hfz24_2, hfz24_3⟩ := blkc4 BK390.out; obtain ⟨hcz25_0, hcz25_1, hcz25_2, hcz25_3, hfz25_0, hfz25_1, hfz25_2, hfz25_3⟩ := blkc4 BK397.out) | ((with_reducible refine gate_callee (f := 36) rfl ?_); refine goesL_ (some 27) rfl rfl Tryd.func36 (by kernel_rfl) rfl #[.pointer (some ⟨g, 0, none⟩), .int .i64 2] rfl au100 ?_; (with_reducible refine (spec_l1Cur_one.calls g s0_0 t399 t400 2 true t402 t403 w0 _ ?side1 ?side2 A6.out).mono ?_); (case side1 => repeat (first | (with_reducible first | exact HI0.out | apply IsS51.alloc | apply IsS51.drewN | apply IsS51.drew | apply IsS51.set_1 | apply IsS51.set_2 | refine IsS51.far ?_ NB0_382.out _ | refine IsS51.far ?_ NB0_383.out _ | refine IsS51.far ?_ NB0_390.out _ | refine IsS51.far ?_ NB0_397.out _) | exact HI0.out)); (case side2 => repeat (first | (with_reducible first | exact HB.out | apply below_alloc | apply pw_below_drewN | apply below_drew1 | refine below_set ?_ (IsS51.ge HI0.out) | refine below_set ?_ GE382.out | refine below_set ?_ GE383.out | refine below_set ?_ GE390.out | refine below_set ?_ GE397.out) | exact HB.out)); rintro e w26 ⟨rfl, hi, hb, hk⟩; refine ⟨_, rfl, ?_⟩; replace BK382 := Aside0.mk (KeepBut.blk hk (g' := gb382) (o := .cells #[.int .i64 0, .int .i64 0, .int .i64 0, .bool false] 33 (0, 0)) au24 NB382_0.out (by simp)); replace BK383 := Aside0.mk (KeepBut.blk hk (g' := gb383) (o := .cells #[.int .i64 0, .int .i64 0, .int .i64 0, .bool false] 33 (0, 0)) au25 NB383_0.out (by simp)); replace BK390 := Aside0.mk (KeepBut.blk hk (g' := gb390) (o := .cells #[.int .i64 t384, .int .i64 t385, .int .i64 t386, .bool t387] 33 (0, 0)) au26 NB390_0.out (by simp)); replace BK397 := Aside0.mk (KeepBut.blk hk (g' := gb397) (o := .cells #[.int .i64 t384, .int .i64 t385, .int .i64 0, .bool t387] 33 (0, 0)) au12 NB397_0.out (by simp)); replace HK := Aside0.mk (KeepBut.trans au47 hk (.inl rfl)); replace HB := Aside0.mk (hb); replace HI0 := Aside0.mk (hi); (try clear hb); (try clear hk); (try clear hi)))
   replace BK382 := Aside0.mk (blk_drew BK382.out)
   replace BK383 := Aside0.mk (blk_drew BK383.out)
   replace BK390 := Aside0.mk (blk_drew BK390.out)
   replace BK397 := Aside0.mk (blk_drew BK397.out)
   replace HI0 := Aside0.mk (IsS51.drew HI0.out)
   replace HK := Aside0.mk (keep_drew HK.out)
   replace HB := Aside0.mk (below_drew1 HB.out)
   refine start_ (n := 4) (S := fun w' => w'.cell? ⟨gb397, 0, none⟩ = some (.int .i64 t384) ∧ w'.cell? ⟨gb397, 1, none⟩ = some (.int .i64 t385) ∧ w'.cell? ⟨gb397, 2, none⟩ = some (.int .i64 0) ∧ w'.cell? ⟨gb397, 3, none⟩ = some (.bool t387) ∧ w'.cell? ⟨gb390, 0, none⟩ = some (.int .i64 t384) ∧ w'.cell? ⟨gb390, 1, none⟩ = some (.int .i64 t385) ∧ w'.cell? ⟨gb390, 2, none⟩ = some (.int .i64 t386) ∧ w'.cell? ⟨gb390, 3, none⟩ = some (.bool t387)) (ds := []) #[false, false, false, false] (by kernel_rfl) rfl rfl ⟨(blk_cell BK397.out 0).trans rfl, (blk_cell BK397.out 1).trans rfl, (blk_cell BK397.out 2).trans rfl, (blk_cell BK397.out 3).trans rfl, (blk_cell BK390.out 0).trans rfl, (blk_cell BK390.out 1).trans rfl, (blk_cell BK390.out 2).trans rfl, (blk_cell BK390.out 3).trans rfl⟩ (fun hHeld => ?_)
   generalize w26.drew = w27 at BK382 BK383 BK390 BK397 HI0 HK HB hHeld ⊢
   refine take_ (i := 0) (N := some 28) (v := ?_) (a' := ?_) #[true, false, false, false] rfl rfl (by kernel_rfl) (fun _ _ _ h => h) (Or.inl ⟨by rfl, ?_⟩) hHeld ?_ ?_
   rotate_left
   ·
    rintro w' ⟨s0, s1, s2, s3, s4, s5, s6, s7⟩
    go_simp
    with_reducible rfl
   rotate_left
   ·
    simp only [Act.put, List.setIfInBounds_toArray, List.set_cons_zero, List.set_cons_succ, i64_w, i32_w]
    rfl
   refine take_ (i := 1) (N := some 29) (v := ?_) (a' := ?_) #[true, true, false, false] rfl rfl (by kernel_rfl) (fun _ _ _ h => h) (Or.inl ⟨by rfl, ?_⟩) hHeld ?_ ?_
   rotate_left
   ·
    rintro w' ⟨s0, s1, s2, s3, s4, s5, s6, s7⟩
    go_simp
    with_reducible rfl
   rotate_left
   ·
    simp only [Act.put, List.setIfInBounds_toArray, List.set_cons_zero, List.set_cons_succ, i64_w, i32_w]
    rfl
   refine one_ (i := 2) (N := none) #[true, true, true, false] rfl rfl (by kernel_rfl) (by decide) (fun K hK => ?_)
   have hs28 : w27.cell? ⟨gb382, 0, none⟩ = some (.int .i64 0) := (blk_cell BK382.out 0).trans rfl
   have hfs28 := blk_frozen BK382.out 0
   have hns28_1 := NB383_382.out
   have hns28_2 := NB390_382.out
   have hns28_3 := NB397_382.out
   have hms28_1 := NB382_383.out
   have hms28_2 := NB382_390.out
   have hms28_3 := NB382_397.out
   have hs29 : w27.cell? ⟨gb382, 1, none⟩ = some (.int .i64 0) := (blk_cell BK382.out 1).trans rfl
   have hfs29 := blk_frozen BK382.out 1
   have hns29_1 := NB383_382.out
   have hns29_2 := NB390_382.out
   have hns29_3 := NB397_382.out
   have hms29_1 := NB382_383.out
   have hms29_2 := NB382_390.out
   have hms29_3 := NB382_397.out
   have hs30 : w27.cell? ⟨gb382, 2, none⟩ = some (.int .i64 0) := (blk_cell BK382.out 2).trans rfl
   have hfs30 := blk_frozen BK382.out 2
   have hns30_1 := NB383_382.out
   have hns30_2 := NB390_382.out
   have hns30_3 := NB397_382.out
   have hms30_1 := NB382_383.out
   have hms30_2 := NB382_390.out
   have hms30_3 := NB382_397.out
   have hs31 : w27.cell? ⟨gb382, 3, none⟩ = some (.bool false) := (blk_cell BK382.out 3).trans rfl
   have hfs31 := blk_frozen BK382.out 3
   have hns31_1 := NB383_382.out
   have hns31_2 := NB390_382.out
   have hns31_3 := NB397_382.out
   have hms31_1 := NB382_383.out
   have hms31_2 := NB382_390.out
   have hms31_3 := NB382_397.out
   refine skip_ (w1 := ?_) (by rfl) rfl ?_ ?_
   rotate_left
   ·
    go_simp
    rfl
   refine hK.out _ _ ⟨((cell_far (p := ⟨gb382, _, none⟩) NB397_382.out _).trans (((cell_far (p := ⟨gb382, _, none⟩) NB397_382.out _).trans (((cell_far (p := ⟨gb382, _, none⟩) NB397_382.out _).trans (((cell_far (p := ⟨gb382, _, none⟩) NB397_382.out _).trans (hHeld.1)))))))), ((cell_far (p := ⟨gb382, _, none⟩) NB397_382.out _).trans (((cell_far (p := ⟨gb382, _, none⟩) NB397_382.out _).trans (((cell_far (p := ⟨gb382, _, none⟩) NB397_382.out _).trans (((cell_far (p := ⟨gb382, _, none⟩) NB397_382.out _).trans (hHeld.2.1)))))))), ((cell_far (p := ⟨gb382, _, none⟩) NB397_382.out _).trans (((cell_far (p := ⟨gb382, _, none⟩) NB397_382.out _).trans (((cell_far (p := ⟨gb382, _, none⟩) NB397_382.out _).trans (((cell_far (p := ⟨gb382, _, none⟩) NB397_382.out _).trans (hHeld.2.2.1)))))))), ((cell_far (p := ⟨gb382, _, none⟩) NB397_382.out _).trans (((cell_far (p := ⟨gb382, _, none⟩) NB397_382.out _).trans (((cell_far (p := ⟨gb382, _, none⟩) NB397_382.out _).trans (((cell_far (p := ⟨gb382, _, none⟩) NB397_382.out _).trans (hHeld.2.2.2.1)))))))), ((cell_far (p := ⟨gb382, _, none⟩) NB390_382.out _).trans (((cell_far (p := ⟨gb382, _, none⟩) NB390_382.out _).trans (((cell_far (p := ⟨gb382, _, none⟩) NB390_382.out _).trans (((cell_far (p := ⟨gb382, _, none⟩) NB390_382.out _).trans (hHeld.2.2.2.2.1)))))))), ((cell_far (p := ⟨gb382, _, none⟩) NB390_382.out _).trans (((cell_far (p := ⟨gb382, _, none⟩) NB390_382.out _).trans (((cell_far (p := ⟨gb382, _, none⟩) NB390_382.out _).trans (((cell_far (p := ⟨gb382, _, none⟩) NB390_382.out _).trans (hHeld.2.2.2.2.2.1)))))))), ((cell_far (p := ⟨gb382, _, none⟩) NB390_382.out _).trans (((cell_far (p := ⟨gb382, _, none⟩) NB390_382.out _).trans (((cell_far (p := ⟨gb382, _, none⟩) NB390_382.out _).trans (((cell_far (p := ⟨gb382, _, none⟩) NB390_382.out _).trans (hHeld.2.2.2.2.2.2.1)))))))), ((cell_far (p := ⟨gb382, _, none⟩) NB390_382.out _).trans (((cell_far (p := ⟨gb382, _, none⟩) NB390_382.out _).trans (((cell_far (p := ⟨gb382, _, none⟩) NB390_382.out _).trans (((cell_far (p := ⟨gb382, _, none⟩) NB390_382.out _).trans (hHeld.2.2.2.2.2.2.2))))))))⟩ (fun hHeld => ?_)
   clear hK K
   refine one_ (i := 3) (N := none) #[true, true, true, true] rfl rfl (by kernel_rfl) (by decide) (fun K hK => ?_)
   have hs32 : w27.cell? ⟨gb383, 0, none⟩ = some (.int .i64 0) := (blk_cell BK383.out 0).trans rfl
   have hfs32 := blk_frozen BK383.out 0
   have hns32_0 := NB382_383.out
   have hns32_2 := NB390_383.out
   have hns32_3 := NB397_383.out
   have hms32_0 := NB383_382.out
   have hms32_2 := NB383_390.out
   have hms32_3 := NB383_397.out
   have hs33 : w27.cell? ⟨gb383, 1, none⟩ = some (.int .i64 0) := (blk_cell BK383.out 1).trans rfl
   have hfs33 := blk_frozen BK383.out 1
   have hns33_0 := NB382_383.out
   have hns33_2 := NB390_383.out
   have hns33_3 := NB397_383.out
   have hms33_0 := NB383_382.out
   have hms33_2 := NB383_390.out
   have hms33_3 := NB383_397.out
   have hs34 : w27.cell? ⟨gb383, 2, none⟩ = some (.int .i64 0) := (blk_cell BK383.out 2).trans rfl
   have hfs34 := blk_frozen BK383.out 2
   have hns34_0 := NB382_383.out
   have hns34_2 := NB390_383.out
   have hns34_3 := NB397_383.out
   have hms34_0 := NB383_382.out
   have hms34_2 := NB383_390.out
   have hms34_3 := NB383_397.out
   have hs35 : w27.cell? ⟨gb383, 3, none⟩ = some (.bool false) := (blk_cell BK383.out 3).trans rfl
   have hfs35 := blk_frozen BK383.out 3
   have hns35_0 := NB382_383.out
   have hns35_2 := NB390_383.out
   have hns35_3 := NB397_383.out
   have hms35_0 := NB383_382.out
   have hms35_2 := NB383_390.out
   have hms35_3 := NB383_397.out
   refine skip_ (w1 := ?_) (by rfl) rfl ?_ ?_
   rotate_left
   ·
    go_simp
    rfl
   refine hK.out _ _ ⟨((cell_far (p := ⟨gb383, _, none⟩) NB397_383.out _).trans (((cell_far (p := ⟨gb383, _, none⟩) NB397_383.out _).trans (((cell_far (p := ⟨gb383, _, none⟩) NB397_383.out _).trans (((cell_far (p := ⟨gb383, _, none⟩) NB397_383.out _).trans (hHeld.1)))))))), ((cell_far (p := ⟨gb383, _, none⟩) NB397_383.out _).trans (((cell_far (p := ⟨gb383, _, none⟩) NB397_383.out _).trans (((cell_far (p := ⟨gb383, _, none⟩) NB397_383.out _).trans (((cell_far (p := ⟨gb383, _, none⟩) NB397_383.out _).trans (hHeld.2.1)))))))), ((cell_far (p := ⟨gb383, _, none⟩) NB397_383.out _).trans (((cell_far (p := ⟨gb383, _, none⟩) NB397_383.out _).trans (((cell_far (p := ⟨gb383, _, none⟩) NB397_383.out _).trans (((cell_far (p := ⟨gb383, _, none⟩) NB397_383.out _).trans (hHeld.2.2.1)))))))), ((cell_far (p := ⟨gb383, _, none⟩) NB397_383.out _).trans (((cell_far (p := ⟨gb383, _, none⟩) NB397_383.out _).trans (((cell_far (p := ⟨gb383, _, none⟩) NB397_383.out _).trans (((cell_far (p := ⟨gb383, _, none⟩) NB397_383.out _).trans (hHeld.2.2.2.1)))))))), ((cell_far (p := ⟨gb383, _, none⟩) NB390_383.out _).trans (((cell_far (p := ⟨gb383, _, none⟩) NB390_383.out _).trans (((cell_far (p := ⟨gb383, _, none⟩) NB390_383.out _).trans (((cell_far (p := ⟨gb383, _, none⟩) NB390_383.out _).trans (hHeld.2.2.2.2.1)))))))), ((cell_far (p := ⟨gb383, _, none⟩) NB390_383.out _).trans (((cell_far (p := ⟨gb383, _, none⟩) NB390_383.out _).trans (((cell_far (p := ⟨gb383, _, none⟩) NB390_383.out _).trans (((cell_far (p := ⟨gb383, _, none⟩) NB390_383.out _).trans (hHeld.2.2.2.2.2.1)))))))), ((cell_far (p := ⟨gb383, _, none⟩) NB390_383.out _).trans (((cell_far (p := ⟨gb383, _, none⟩) NB390_383.out _).trans (((cell_far (p := ⟨gb383, _, none⟩) NB390_383.out _).trans (((cell_far (p := ⟨gb383, _, none⟩) NB390_383.out _).trans (hHeld.2.2.2.2.2.2.1)))))))), ((cell_far (p := ⟨gb383, _, none⟩) NB390_383.out _).trans (((cell_far (p := ⟨gb383, _, none⟩) NB390_383.out _).trans (((cell_far (p := ⟨gb383, _, none⟩) NB390_383.out _).trans (((cell_far (p := ⟨gb383, _, none⟩) NB390_383.out _).trans (hHeld.2.2.2.2.2.2.2))))))))⟩ (fun hHeld => ?_)
   clear hK K
   refine done_ (by kernel_rfl) ?_
   try go_wp2
   refine bodyPost_ret (results_cc rfl _ _ gb382 gb383 33 33 #[.int .i64 t384, .int .i64 t385, .int .i64 0, .bool t387] #[.int .i64 t384, .int .i64 t385, .int .i64 t386, .bool t387] (0, 0) (0, 0) _ _ rfl (by (with_reducible repeat (first | refine blk_drewN ?_ _ | refine blk_drew ?_ | refine blk_alloc ?_ _)); refine blk_far ?_ NB382_383.out _; (with_reducible repeat (first | refine blk_drewN ?_ _ | refine blk_drew ?_ | refine blk_alloc ?_ _)); refine blk_far ?_ NB382_383.out _; (with_reducible repeat (first | refine blk_drewN ?_ _ | refine blk_drew ?_ | refine blk_alloc ?_ _)); refine blk_far ?_ NB382_383.out _; (with_reducible repeat (first | refine blk_drewN ?_ _ | refine blk_drew ?_ | refine blk_alloc ?_ _)); refine blk_far ?_ NB382_383.out _; (with_reducible repeat (first | refine blk_drewN ?_ _ | refine blk_drew ?_ | refine blk_alloc ?_ _)); refine blk_put (cs := #[.int .i64 t384, .int .i64 t385, .int .i64 0, .bool false]) ?_ 3 _ rfl; (with_reducible repeat (first | refine blk_drewN ?_ _ | refine blk_drew ?_ | refine blk_alloc ?_ _)); refine blk_put (cs := #[.int .i64 t384, .int .i64 t385, .int .i64 0, .bool false]) ?_ 2 _ rfl; (with_reducible repeat (first | refine blk_drewN ?_ _ | refine blk_drew ?_ | refine blk_alloc ?_ _)); refine blk_put (cs := #[.int .i64 t384, .int .i64 0, .int .i64 0, .bool false]) ?_ 1 _ rfl; (with_reducible repeat (first | refine blk_drewN ?_ _ | refine blk_drew ?_ | refine blk_alloc ?_ _)); refine blk_put (cs := #[.int .i64 0, .int .i64 0, .int .i64 0, .bool false]) ?_ 0 _ rfl; (with_reducible repeat (first | refine blk_drewN ?_ _ | refine blk_drew ?_ | refine blk_alloc ?_ _)); exact BK382.out) Tryd.underlying33 rfl (by kernel_rfl) rfl au0 Tryd.underlying33 rfl (by kernel_rfl)) rfl ?_
   exact ax11
  ·
   replace c7 := Bool.eq_false_iff.mpr c7
   subst c7
   replace H := (if_neg (show ¬ (false = true) by decide)).symm.trans H
   simp only [Option.some.injEq, Prod.mk.injEq] at H
   obtain ⟨rfl, rfl, rfl, rfl, rfl, rfl, rfl, rfl, rfl, rfl⟩ := H
   go_enter Tryd.func56, Tryd.ntmps56
   try go_wp2_with (first | ((with_reducible refine gate_dst (N := 2) rfl ?_); refine box_event ?hg (N := 2) ?hd (cs := #[.int .i64 0, .int .i64 0, .int .i64 0, .bool false]) (t := 33) ?hr ?_; (case hd => rfl); (case hg => rfl); (case hr => first | (go_simp; done) | (go_simp; rfl)); intro gb382 hg w36 hbox hb; replace HB := Aside0.mk (below_step au82 hb); have BK382 := Aside0.mk (hbox); have GW382 := Aside0.mk ((by rw [hg]; exact (keep_size (w := w) (g := g) (row := none) au99) : w.heap.size ≤ gb382)); have GE382 := Aside0.mk ((Nat.le_trans HW0.out (by rw [hg]; exact (keep_size (w := w) (g := g) (row := none) au99) : w.heap.size ≤ gb382) : w0.heap.size ≤ gb382)); replace HK := Aside0.mk (KeepBut.trans au99 (KeepBut.of_below hb g none) (.inl rfl)); have NB0_382 := Aside0.mk ((by rw [hg]; exact Nat.ne_of_lt (IsS51.lt (show IsS51 w0 _ g s0_0 s0_1 s0_2 from by repeat (first | (with_reducible first | exact HI0.out | apply IsS51.alloc | apply IsS51.drewN | apply IsS51.drew | apply IsS51.set_1 | apply IsS51.set_2) | exact HI0.out))) : g ≠ gb382)); have NB382_0 := Aside0.mk ((by rw [hg]; exact Nat.ne_of_gt (IsS51.lt (show IsS51 w0 _ g s0_0 s0_1 s0_2 from by repeat (first | (with_reducible first | exact HI0.out | apply IsS51.alloc | apply IsS51.drewN | apply IsS51.drew | apply IsS51.set_1 | apply IsS51.set_2) | exact HI0.out))) : gb382 ≠ g)); replace HI0 := Aside0.mk (IsS51.below au83 hb); clear hb hbox hg) | ((with_reducible refine gate_dst (N := 3) rfl ?_); refine box_event ?hg (N := 3) ?hd (cs := #[.int .i64 0, .int .i64 0, .int .i64 0, .bool false]) (t := 33) ?hr ?_; (case hd => rfl); (case hg => rfl); (case hr => first | (go_simp; done) | (go_simp; rfl)); intro gb383 hg w37 hbox hb; replace HB := Aside0.mk (below_step au67 hb); have BK383 := Aside0.mk (hbox); have GW383 := Aside0.mk ((by rw [hg]; exact (keep_size (w := w) (g := g) (row := none) au79) : w.heap.size ≤ gb383)); have GE383 := Aside0.mk ((Nat.le_trans HW0.out (by rw [hg]; exact (keep_size (w := w) (g := g) (row := none) au79) : w.heap.size ≤ gb383) : w0.heap.size ≤ gb383)); replace HK := Aside0.mk (KeepBut.trans au79 (KeepBut.of_below hb g none) (.inl rfl)); have NB382_383 := Aside0.mk (bne (g := gb382) hg au115); have NB383_382 := Aside0.mk (ben (g := gb382) hg au115); replace BK382 := Aside0.mk (blk_below (g := gb382) au115 hb); have NB0_383 := Aside0.mk ((by rw [hg]; exact Nat.ne_of_lt (IsS51.lt (show IsS51 w0 _ g s0_0 s0_1 s0_2 from by repeat (first | (with_reducible first | exact HI0.out | apply IsS51.alloc | apply IsS51.drewN | apply IsS51.drew | apply IsS51.set_1 | apply IsS51.set_2 | refine IsS51.far ?_ NB0_382.out _) | exact HI0.out))) : g ≠ gb383)); have NB383_0 := Aside0.mk ((by rw [hg]; exact Nat.ne_of_gt (IsS51.lt (show IsS51 w0 _ g s0_0 s0_1 s0_2 from by repeat (first | (with_reducible first | exact HI0.out | apply IsS51.alloc | apply IsS51.drewN | apply IsS51.drew | apply IsS51.set_1 | apply IsS51.set_2 | refine IsS51.far ?_ NB0_382.out _) | exact HI0.out))) : gb383 ≠ g)); replace HI0 := Aside0.mk (IsS51.below au64 hb); clear hb hbox hg) | ((with_reducible refine gate_callee (f := 72) rfl ?_); refine goesL_ (some 7) rfl rfl Tryd.func72 (by kernel_rfl) rfl #[.pointer (some ⟨g, 0, none⟩)] rfl au100 ?_; (with_reducible refine (spec_l1Cur_anyDate.calls g s0_0 s0_1 s0_2 t384 t385 t386 t387 t388 t389 w0 _ ?side1 ?side2 A2.out).mono ?_); (case side1 => repeat (first | (with_reducible first | exact HI0.out | apply IsS51.alloc | apply IsS51.drewN | apply IsS51.drew | apply IsS51.set_1 | apply IsS51.set_2 | refine IsS51.far ?_ NB0_382.out _ | refine IsS51.far ?_ NB0_383.out _) | exact HI0.out)); (case side2 => repeat (first | (with_reducible first | exact HB.out | apply below_alloc | apply pw_below_drewN | apply below_drew1 | refine below_set ?_ (IsS51.ge HI0.out) | refine below_set ?_ GE382.out | refine below_set ?_ GE383.out) | exact HB.out)); rintro e w38 ⟨rfl, hi, hb, hk⟩; refine ⟨_, rfl, ?_⟩; replace BK382 := Aside0.mk (KeepBut.blk hk (g' := gb382) (o := .cells #[.int .i64 0, .int .i64 0, .int .i64 0, .bool false] 33 (0, 0)) au115 NB382_0.out (by simp)); replace BK383 := Aside0.mk (KeepBut.blk hk (g' := gb383) (o := .cells #[.int .i64 0, .int .i64 0, .int .i64 0, .bool false] 33 (0, 0)) au116 NB383_0.out (by simp)); replace HK := Aside0.mk (KeepBut.trans au61 hk (.inl rfl)); replace HB := Aside0.mk (hb); replace HI0 := Aside0.mk (hi); (try clear hb); (try clear hk); (try clear hi)) | ((with_reducible refine gate_dst (N := 4) rfl ?_); refine box_event ?hg (N := 4) ?hd (cs := #[.int .i64 0, .int .i64 0, .int .i64 0, .bool false]) (t := 33) ?hr ?_; (case hd => rfl); (case hg => rfl); (case hr => first | (go_simp; done) | (go_simp; rfl)); intro gb390 hg w39 hbox hb; replace HB := Aside0.mk (below_step au56 hb); have BK390 := Aside0.mk (hbox); have GW390 := Aside0.mk ((by rw [hg]; exact (keep_size (w := w) (g := g) (row := none) au61) : w.heap.size ≤ gb390)); have GE390 := Aside0.mk ((Nat.le_trans HW0.out (by rw [hg]; exact (keep_size (w := w) (g := g) (row := none) au61) : w.heap.size ≤ gb390) : w0.heap.size ≤ gb390)); replace HK := Aside0.mk (KeepBut.trans au61 (KeepBut.of_below hb g none) (.inl rfl)); have NB382_390 := Aside0.mk (bne (g := gb382) hg au115); have NB390_382 := Aside0.mk (ben (g := gb382) hg au115); replace BK382 := Aside0.mk (blk_below (g := gb382) au115 hb); have NB383_390 := Aside0.mk (bne (g := gb383) hg au116); have NB390_383 := Aside0.mk (ben (g := gb383) hg au116); replace BK383 := Aside0.mk (blk_below (g := gb383) au116 hb); have NB0_390 := Aside0.mk ((by rw [hg]; exact Nat.ne_of_lt (IsS51.lt (show IsS51 w0 _ g s0_0 t388 t389 from by repeat (first | (with_reducible first | exact HI0.out | apply IsS51.alloc | apply IsS51.drewN | apply IsS51.drew | apply IsS51.set_1 | apply IsS51.set_2 | refine IsS51.far ?_ NB0_382.out _ | refine IsS51.far ?_ NB0_383.out _) | exact HI0.out))) : g ≠ gb390)); have NB390_0 := Aside0.mk ((by rw [hg]; exact Nat.ne_of_gt (IsS51.lt (show IsS51 w0 _ g s0_0 t388 t389 from by repeat (first | (with_reducible first | exact HI0.out | apply IsS51.alloc | apply IsS51.drewN | apply IsS51.drew | apply IsS51.set_1 | apply IsS51.set_2 | refine IsS51.far ?_ NB0_382.out _ | refine IsS51.far ?_ NB0_383.out _) | exact HI0.out))) : gb390 ≠ g)); replace HI0 := Aside0.mk (IsS51.below au54 hb); clear hb hbox hg; have hnb40 := NB390_382.out; have hnc40 := NB382_390.out; have hnb41 := NB390_383.out; have hnc41 := NB383_390.out; have hnb42 := NB390_0.out; have hnc42 := NB0_390.out; obtain ⟨hcz43_0, hcz43_1, hcz43_2, hcz43_3, hfz43_0, hfz43_1, hfz43_2, hfz43_3⟩ := blkc4 BK390.out) | ((with_reducible refine gate_callee (f := 72) rfl ?_); refine goesL_ (some 9) rfl rfl Tryd.func72 (by kernel_rfl) rfl #[.pointer (some ⟨g, 0, none⟩)] rfl au100 ?_; (with_reducible refine (spec_l1Cur_anyDate.calls g s0_0 t388 t389 t391 t392 t393 t394 t395 t396 w0 _ ?side1 ?side2 A3.out).mono ?_); (case side1 => repeat (first | (with_reducible first | exact HI0.out | apply IsS51.alloc | apply IsS51.drewN | apply IsS51.drew | apply IsS51.set_1 | apply IsS51.set_2 | refine IsS51.far ?_ NB0_382.out _ | refine IsS51.far ?_ NB0_383.out _ | refine IsS51.far ?_ NB0_390.out _) | exact HI0.out)); (case side2 => repeat (first | (with_reducible first | exact HB.out | apply below_alloc | apply pw_below_drewN | apply below_drew1 | refine below_set ?_ (IsS51.ge HI0.out) | refine below_set ?_ GE382.out | refine below_set ?_ GE383.out | refine below_set ?_ GE390.out) | exact HB.out)); rintro e w44 ⟨rfl, hi, hb, hk⟩; refine ⟨_, rfl, ?_⟩; replace BK382 := Aside0.mk (KeepBut.blk hk (g' := gb382) (o := .cells #[.int .i64 0, .int .i64 0, .int .i64 0, .bool false] 33 (0, 0)) au30 NB382_0.out (by simp)); replace BK383 := Aside0.mk (KeepBut.blk hk (g' := gb383) (o := .cells #[.int .i64 0, .int .i64 0, .int .i64 0, .bool false] 33 (0, 0)) au31 NB383_0.out (by simp)); replace BK390 := Aside0.mk (KeepBut.blk hk (g' := gb390) (o := .cells #[.int .i64 t384, .int .i64 t385, .int .i64 t386, .bool t387] 33 (0, 0)) au19 NB390_0.out (by simp)); replace HK := Aside0.mk (KeepBut.trans au52 hk (.inl rfl)); replace HB := Aside0.mk (hb); replace HI0 := Aside0.mk (hi); (try clear hb); (try clear hk); (try clear hi)) | ((with_reducible refine gate_dst (N := 5) rfl ?_); refine box_event ?hg (N := 5) ?hd (cs := #[.int .i64 0, .int .i64 0, .int .i64 0, .bool false]) (t := 33) ?hr ?_; (case hd => rfl); (case hg => rfl); (case hr => first | (go_simp; done) | (go_simp; rfl)); intro gb397 hg w45 hbox hb; replace HB := Aside0.mk (below_step au48 hb); have BK397 := Aside0.mk (hbox); have GW397 := Aside0.mk ((by rw [hg]; exact (keep_size (w := w) (g := g) (row := none) au52) : w.heap.size ≤ gb397)); have GE397 := Aside0.mk ((Nat.le_trans HW0.out (by rw [hg]; exact (keep_size (w := w) (g := g) (row := none) au52) : w.heap.size ≤ gb397) : w0.heap.size ≤ gb397)); replace HK := Aside0.mk (KeepBut.trans au52 (KeepBut.of_below hb g none) (.inl rfl)); have NB382_397 := Aside0.mk (bne (g := gb382) hg au115); have NB397_382 := Aside0.mk (ben (g := gb382) hg au115); replace BK382 := Aside0.mk (blk_below (g := gb382) au115 hb); have NB383_397 := Aside0.mk (bne (g := gb383) hg au116); have NB397_383 := Aside0.mk (ben (g := gb383) hg au116); replace BK383 := Aside0.mk (blk_below (g := gb383) au116 hb); have NB390_397 := Aside0.mk (bne (g := gb390) hg au117); have NB397_390 := Aside0.mk (ben (g := gb390) hg au117); replace BK390 := Aside0.mk (blk_below (g := gb390) au117 hb); have NB0_397 := Aside0.mk ((by rw [hg]; exact Nat.ne_of_lt (IsS51.lt (show IsS51 w0 _ g s0_0 t395 t396 from by repeat (first | (with_reducible first | exact HI0.out | apply IsS51.alloc | apply IsS51.drewN | apply IsS51.drew | apply IsS51.set_1 | apply IsS51.set_2 | refine IsS51.far ?_ NB0_382.out _ | refine IsS51.far ?_ NB0_383.out _ | refine IsS51.far ?_ NB0_390.out _) | exact HI0.out))) : g ≠ gb397)); have NB397_0 := Aside0.mk ((by rw [hg]; exact Nat.ne_of_gt (IsS51.lt (show IsS51 w0 _ g s0_0 t395 t396 from by repeat (first | (with_reducible first | exact HI0.out | apply IsS51.alloc | apply IsS51.drewN | apply IsS51.drew | apply IsS51.set_1 | apply IsS51.set_2 | refine IsS51.far ?_ NB0_382.out _ | refine IsS51.far ?_ NB0_383.out _ | refine IsS51.far ?_ NB0_390.out _) | exact HI0.out))) : gb397 ≠ g)); replace HI0 := Aside0.mk (IsS51.below au46 hb); clear hb hbox hg; have hnb46 := NB397_382.out; have hnc46 := NB382_397.out; have hnb47 := NB397_383.out; have hnc47 := NB383_397.out; have hnb48 := NB397_390.out; have hnc48 := NB390_397.out; have hnb49 := NB397_0.out; have hnc49 := NB0_397.out; obtain ⟨hcz50_0, hcz50_1, hcz50_2, hcz50_3, hfz50_0, hfz50_1, hfz50_2, hfz50_3⟩ := blkc4 BK397.out) | ((with_reducible refine gate_callee (f := 31) rfl ?_); refine goesL_ (some 11) rfl rfl Tryd.func31 (by kernel_rfl) rfl #[.pointer (some ⟨g, 0, none⟩), .int .i64 4] rfl au100 ?_; (with_reducible refine (spec_l1Cur_pick.calls g s0_0 t395 t396 4 t398 t399 t400 w0 _ ?side1 ?side2 A4.out).mono ?_); (case side1 => repeat (first | (with_reducible first | exact HI0.out | apply IsS51.alloc | apply IsS51.drewN | apply IsS51.drew | apply IsS51.set_1 | apply IsS51.set_2 | refine IsS51.far ?_ NB0_382.out _ | refine IsS51.far ?_ NB0_383.out _ | refine IsS51.far ?_ NB0_390.out _ | refine IsS51.far ?_ NB0_397.out _) | exact HI0.out)); (case side2 => repeat (first | (with_reducible first | exact HB.out | apply below_alloc | apply pw_below_drewN | apply below_drew1 | refine below_set ?_ (IsS51.ge HI0.out) | refine below_set ?_ GE382.out | refine below_set ?_ GE383.out | refine below_set ?_ GE390.out | refine below_set ?_ GE397.out) | exact HB.out)); rintro e w51 ⟨rfl, hi, hb, hk⟩; refine ⟨_, rfl, ?_⟩; replace BK382 := Aside0.mk (KeepBut.blk hk (g' := gb382) (o := .cells #[.int .i64 0, .int .i64 0, .int .i64 0, .bool false] 33 (0, 0)) au32 NB382_0.out (by simp)); replace BK383 := Aside0.mk (KeepBut.blk hk (g' := gb383) (o := .cells #[.int .i64 0, .int .i64 0, .int .i64 0, .bool false] 33 (0, 0)) au33 NB383_0.out (by simp)); replace BK390 := Aside0.mk (KeepBut.blk hk (g' := gb390) (o := .cells #[.int .i64 t384, .int .i64 t385, .int .i64 t386, .bool t387] 33 (0, 0)) au34 NB390_0.out (by simp)); replace BK397 := Aside0.mk (KeepBut.blk hk (g' := gb397) (o := .cells #[.int .i64 t391, .int .i64 t392, .int .i64 t393, .bool t394] 33 (0, 0)) au20 NB397_0.out (by simp)); replace HK := Aside0.mk (KeepBut.trans au47 hk (.inl rfl)); replace HB := Aside0.mk (hb); replace HI0 := Aside0.mk (hi); (try clear hb); (try clear hk); (try clear hi); obtain ⟨hcz52_0, hcz52_1, hcz52_2, hcz52_3, hfz52_0, hfz52_1, hfz52_2, hfz52_3⟩ := blkc4 BK390.out; obtain ⟨hcz53_0, hcz53_1, hcz53_2, hcz53_3, hfz53_0, hfz53_1, hfz53_2, hfz53_3⟩ := blkc4 BK397.out) | ((with_reducible refine gate_callee (f := 36) rfl ?_); refine goesL_ (some 27) rfl rfl Tryd.func36 (by kernel_rfl) rfl #[.pointer (some ⟨g, 0, none⟩), .int .i64 2] rfl au100 ?_; (with_reducible refine (spec_l1Cur_one.calls g s0_0 t399 t400 2 false t402 t403 w0 _ ?side1 ?side2 A6.out).mono ?_); (case side1 => repeat (first | (with_reducible first | exact HI0.out | apply IsS51.alloc | apply IsS51.drewN | apply IsS51.drew | apply IsS51.set_1 | apply IsS51.set_2 | refine IsS51.far ?_ NB0_382.out _ | refine IsS51.far ?_ NB0_383.out _ | refine IsS51.far ?_ NB0_390.out _ | refine IsS51.far ?_ NB0_397.out _) | exact HI0.out)); (case side2 => repeat (first | (with_reducible first | exact HB.out | apply below_alloc | apply pw_below_drewN | apply below_drew1 | refine below_set ?_ (IsS51.ge HI0.out) | refine below_set ?_ GE382.out | refine below_set ?_ GE383.out | refine below_set ?_ GE390.out | refine below_set ?_ GE397.out) | exact HB.out)); rintro e w54 ⟨rfl, hi, hb, hk⟩; refine ⟨_, rfl, ?_⟩; replace BK382 := Aside0.mk (KeepBut.blk hk (g' := gb382) (o := .cells #[.int .i64 0, .int .i64 0, .int .i64 0, .bool false] 33 (0, 0)) au24 NB382_0.out (by simp)); replace BK383 := Aside0.mk (KeepBut.blk hk (g' := gb383) (o := .cells #[.int .i64 0, .int .i64 0, .int .i64 0, .bool false] 33 (0, 0)) au25 NB383_0.out (by simp)); replace BK390 := Aside0.mk (KeepBut.blk hk (g' := gb390) (o := .cells #[.int .i64 t384, .int .i64 t385, .int .i64 t386, .bool t387] 33 (0, 0)) au26 NB390_0.out (by simp)); replace BK397 := Aside0.mk (KeepBut.blk hk (g' := gb397) (o := .cells #[.int .i64 t384, .int .i64 t385, .int .i64 0, .bool t387] 33 (0, 0)) au12 NB397_0.out (by simp)); replace HK := Aside0.mk (KeepBut.trans au47 hk (.inl rfl)); replace HB := Aside0.mk (hb); replace HI0 := Aside0.mk (hi); (try clear hb); (try clear hk); (try clear hi)))
   replace BK382 := Aside0.mk (blk_drew BK382.out)
   replace BK383 := Aside0.mk (blk_drew BK383.out)
   replace BK390 := Aside0.mk (blk_drew BK390.out)
   replace BK397 := Aside0.mk (blk_drew BK397.out)
   replace HI0 := Aside0.mk (IsS51.drew HI0.out)
   replace HK := Aside0.mk (keep_drew HK.out)
   replace HB := Aside0.mk (below_drew1 HB.out)
   refine start_ (n := 4) (S := fun w' => w'.cell? ⟨gb390, 0, none⟩ = some (.int .i64 t384) ∧ w'.cell? ⟨gb390, 1, none⟩ = some (.int .i64 t385) ∧ w'.cell? ⟨gb390, 2, none⟩ = some (.int .i64 t386) ∧ w'.cell? ⟨gb390, 3, none⟩ = some (.bool t387) ∧ w'.cell? ⟨gb397, 0, none⟩ = some (.int .i64 t384) ∧ w'.cell? ⟨gb397, 1, none⟩ = some (.int .i64 t385) ∧ w'.cell? ⟨gb397, 2, none⟩ = some (.int .i64 0) ∧ w'.cell? ⟨gb397, 3, none⟩ = some (.bool t387)) (ds := []) #[false, false, false, false] (by kernel_rfl) rfl rfl ⟨(blk_cell BK390.out 0).trans rfl, (blk_cell BK390.out 1).trans rfl, (blk_cell BK390.out 2).trans rfl, (blk_cell BK390.out 3).trans rfl, (blk_cell BK397.out 0).trans rfl, (blk_cell BK397.out 1).trans rfl, (blk_cell BK397.out 2).trans rfl, (blk_cell BK397.out 3).trans rfl⟩ (fun hHeld => ?_)
   generalize w54.drew = w55 at BK382 BK383 BK390 BK397 HI0 HK HB hHeld ⊢
   refine take_ (i := 0) (N := some 30) (v := ?_) (a' := ?_) #[true, false, false, false] rfl rfl (by kernel_rfl) (fun _ _ _ h => h) (Or.inl ⟨by rfl, ?_⟩) hHeld ?_ ?_
   rotate_left
   ·
    rintro w' ⟨s0, s1, s2, s3, s4, s5, s6, s7⟩
    go_simp
    with_reducible rfl
   rotate_left
   ·
    simp only [Act.put, List.setIfInBounds_toArray, List.set_cons_zero, List.set_cons_succ, i64_w, i32_w]
    rfl
   refine take_ (i := 1) (N := some 31) (v := ?_) (a' := ?_) #[true, true, false, false] rfl rfl (by kernel_rfl) (fun _ _ _ h => h) (Or.inl ⟨by rfl, ?_⟩) hHeld ?_ ?_
   rotate_left
   ·
    rintro w' ⟨s0, s1, s2, s3, s4, s5, s6, s7⟩
    go_simp
    with_reducible rfl
   rotate_left
   ·
    simp only [Act.put, List.setIfInBounds_toArray, List.set_cons_zero, List.set_cons_succ, i64_w, i32_w]
    rfl
   refine one_ (i := 2) (N := none) #[true, true, true, false] rfl rfl (by kernel_rfl) (by decide) (fun K hK => ?_)
   have hs56 : w55.cell? ⟨gb382, 0, none⟩ = some (.int .i64 0) := (blk_cell BK382.out 0).trans rfl
   have hfs56 := blk_frozen BK382.out 0
   have hns56_1 := NB383_382.out
   have hns56_2 := NB390_382.out
   have hns56_3 := NB397_382.out
   have hms56_1 := NB382_383.out
   have hms56_2 := NB382_390.out
   have hms56_3 := NB382_397.out
   have hs57 : w55.cell? ⟨gb382, 1, none⟩ = some (.int .i64 0) := (blk_cell BK382.out 1).trans rfl
   have hfs57 := blk_frozen BK382.out 1
   have hns57_1 := NB383_382.out
   have hns57_2 := NB390_382.out
   have hns57_3 := NB397_382.out
   have hms57_1 := NB382_383.out
   have hms57_2 := NB382_390.out
   have hms57_3 := NB382_397.out
   have hs58 : w55.cell? ⟨gb382, 2, none⟩ = some (.int .i64 0) := (blk_cell BK382.out 2).trans rfl
   have hfs58 := blk_frozen BK382.out 2
   have hns58_1 := NB383_382.out
   have hns58_2 := NB390_382.out
   have hns58_3 := NB397_382.out
   have hms58_1 := NB382_383.out
   have hms58_2 := NB382_390.out
   have hms58_3 := NB382_397.out
   have hs59 : w55.cell? ⟨gb382, 3, none⟩ = some (.bool false) := (blk_cell BK382.out 3).trans rfl
   have hfs59 := blk_frozen BK382.out 3
   have hns59_1 := NB383_382.out
   have hns59_2 := NB390_382.out
   have hns59_3 := NB397_382.out
   have hms59_1 := NB382_383.out
   have hms59_2 := NB382_390.out
   have hms59_3 := NB382_397.out
   refine skip_ (w1 := ?_) (by rfl) rfl ?_ ?_
   rotate_left
   ·
    go_simp
    rfl
   refine hK.out _ _ ⟨((cell_far (p := ⟨gb382, _, none⟩) NB390_382.out _).trans (((cell_far (p := ⟨gb382, _, none⟩) NB390_382.out _).trans (((cell_far (p := ⟨gb382, _, none⟩) NB390_382.out _).trans (((cell_far (p := ⟨gb382, _, none⟩) NB390_382.out _).trans (hHeld.1)))))))), ((cell_far (p := ⟨gb382, _, none⟩) NB390_382.out _).trans (((cell_far (p := ⟨gb382, _, none⟩) NB390_382.out _).trans (((cell_far (p := ⟨gb382, _, none⟩) NB390_382.out _).trans (((cell_far (p := ⟨gb382, _, none⟩) NB390_382.out _).trans (hHeld.2.1)))))))), ((cell_far (p := ⟨gb382, _, none⟩) NB390_382.out _).trans (((cell_far (p := ⟨gb382, _, none⟩) NB390_382.out _).trans (((cell_far (p := ⟨gb382, _, none⟩) NB390_382.out _).trans (((cell_far (p := ⟨gb382, _, none⟩) NB390_382.out _).trans (hHeld.2.2.1)))))))), ((cell_far (p := ⟨gb382, _, none⟩) NB390_382.out _).trans (((cell_far (p := ⟨gb382, _, none⟩) NB390_382.out _).trans (((cell_far (p := ⟨gb382, _, none⟩) NB390_382.out _).trans (((cell_far (p := ⟨gb382, _, none⟩) NB390_382.out _).trans (hHeld.2.2.2.1)))))))), ((cell_far (p := ⟨gb382, _, none⟩) NB397_382.out _).trans (((cell_far (p := ⟨gb382, _, none⟩) NB397_382.out _).trans (((cell_far (p := ⟨gb382, _, none⟩) NB397_382.out _).trans (((cell_far (p := ⟨gb382, _, none⟩) NB397_382.out _).trans (hHeld.2.2.2.2.1)))))))), ((cell_far (p := ⟨gb382, _, none⟩) NB397_382.out _).trans (((cell_far (p := ⟨gb382, _, none⟩) NB397_382.out _).trans (((cell_far (p := ⟨gb382, _, none⟩) NB397_382.out _).trans (((cell_far (p := ⟨gb382, _, none⟩) NB397_382.out _).trans (hHeld.2.2.2.2.2.1)))))))), ((cell_far (p := ⟨gb382, _, none⟩) NB397_382.out _).trans (((cell_far (p := ⟨gb382, _, none⟩) NB397_382.out _).trans (((cell_far (p := ⟨gb382, _, none⟩) NB397_382.out _).trans (((cell_far (p := ⟨gb382, _, none⟩) NB397_382.out _).trans (hHeld.2.2.2.2.2.2.1)))))))), ((cell_far (p := ⟨gb382, _, none⟩) NB397_382.out _).trans (((cell_far (p := ⟨gb382, _, none⟩) NB397_382.out _).trans (((cell_far (p := ⟨gb382, _, none⟩) NB397_382.out _).trans (((cell_far (p := ⟨gb382, _, none⟩) NB397_382.out _).trans (hHeld.2.2.2.2.2.2.2))))))))⟩ (fun hHeld => ?_)
   clear hK K
   refine one_ (i := 3) (N := none) #[true, true, true, true] rfl rfl (by kernel_rfl) (by decide) (fun K hK => ?_)
   have hs60 : w55.cell? ⟨gb383, 0, none⟩ = some (.int .i64 0) := (blk_cell BK383.out 0).trans rfl
   have hfs60 := blk_frozen BK383.out 0
   have hns60_0 := NB382_383.out
   have hns60_2 := NB390_383.out
   have hns60_3 := NB397_383.out
   have hms60_0 := NB383_382.out
   have hms60_2 := NB383_390.out
   have hms60_3 := NB383_397.out
   have hs61 : w55.cell? ⟨gb383, 1, none⟩ = some (.int .i64 0) := (blk_cell BK383.out 1).trans rfl
   have hfs61 := blk_frozen BK383.out 1
   have hns61_0 := NB382_383.out
   have hns61_2 := NB390_383.out
   have hns61_3 := NB397_383.out
   have hms61_0 := NB383_382.out
   have hms61_2 := NB383_390.out
   have hms61_3 := NB383_397.out
   have hs62 : w55.cell? ⟨gb383, 2, none⟩ = some (.int .i64 0) := (blk_cell BK383.out 2).trans rfl
   have hfs62 := blk_frozen BK383.out 2
   have hns62_0 := NB382_383.out
   have hns62_2 := NB390_383.out
   have hns62_3 := NB397_383.out
   have hms62_0 := NB383_382.out
   have hms62_2 := NB383_390.out
   have hms62_3 := NB383_397.out
   have hs63 : w55.cell? ⟨gb383, 3, none⟩ = some (.bool false) := (blk_cell BK383.out 3).trans rfl
   have hfs63 := blk_frozen BK383.out 3
   have hns63_0 := NB382_383.out
   have hns63_2 := NB390_383.out
   have hns63_3 := NB397_383.out
   have hms63_0 := NB383_382.out
   have hms63_2 := NB383_390.out
   have hms63_3 := NB383_397.out
   refine skip_ (w1 := ?_) (by rfl) rfl ?_ ?_
   rotate_left
   ·
    go_simp
    rfl
   refine hK.out _ _ ⟨((cell_far (p := ⟨gb383, _, none⟩) NB390_383.out _).trans (((cell_far (p := ⟨gb383, _, none⟩) NB390_383.out _).trans (((cell_far (p := ⟨gb383, _, none⟩) NB390_383.out _).trans (((cell_far (p := ⟨gb383, _, none⟩) NB390_383.out _).trans (hHeld.1)))))))), ((cell_far (p := ⟨gb383, _, none⟩) NB390_383.out _).trans (((cell_far (p := ⟨gb383, _, none⟩) NB390_383.out _).trans (((cell_far (p := ⟨gb383, _, none⟩) NB390_383.out _).trans (((cell_far (p := ⟨gb383, _, none⟩) NB390_383.out _).trans (hHeld.2.1)))))))), ((cell_far (p := ⟨gb383, _, none⟩) NB390_383.out _).trans (((cell_far (p := ⟨gb383, _, none⟩) NB390_383.out _).trans (((cell_far (p := ⟨gb383, _, none⟩) NB390_383.out _).trans (((cell_far (p := ⟨gb383, _, none⟩) NB390_383.out _).trans (hHeld.2.2.1)))))))), ((cell_far (p := ⟨gb383, _, none⟩) NB390_383.out _).trans (((cell_far (p := ⟨gb383, _, none⟩) NB390_383.out _).trans (((cell_far (p := ⟨gb383, _, none⟩) NB390_383.out _).trans (((cell_far (p := ⟨gb383, _, none⟩) NB390_383.out _).trans (hHeld.2.2.2.1)))))))), ((cell_far (p := ⟨gb383, _, none⟩) NB397_383.out _).trans (((cell_far (p := ⟨gb383, _, none⟩) NB397_383.out _).trans (((cell_far (p := ⟨gb383, _, none⟩) NB397_383.out _).trans (((cell_far (p := ⟨gb383, _, none⟩) NB397_383.out _).trans (hHeld.2.2.2.2.1)))))))), ((cell_far (p := ⟨gb383, _, none⟩) NB397_383.out _).trans (((cell_far (p := ⟨gb383, _, none⟩) NB397_383.out _).trans (((cell_far (p := ⟨gb383, _, none⟩) NB397_383.out _).trans (((cell_far (p := ⟨gb383, _, none⟩) NB397_383.out _).trans (hHeld.2.2.2.2.2.1)))))))), ((cell_far (p := ⟨gb383, _, none⟩) NB397_383.out _).trans (((cell_far (p := ⟨gb383, _, none⟩) NB397_383.out _).trans (((cell_far (p := ⟨gb383, _, none⟩) NB397_383.out _).trans (((cell_far (p := ⟨gb383, _, none⟩) NB397_383.out _).trans (hHeld.2.2.2.2.2.2.1)))))))), ((cell_far (p := ⟨gb383, _, none⟩) NB397_383.out _).trans (((cell_far (p := ⟨gb383, _, none⟩) NB397_383.out _).trans (((cell_far (p := ⟨gb383, _, none⟩) NB397_383.out _).trans (((cell_far (p := ⟨gb383, _, none⟩) NB397_383.out _).trans (hHeld.2.2.2.2.2.2.2))))))))⟩ (fun hHeld => ?_)
   clear hK K
   refine done_ (by kernel_rfl) ?_
   try go_wp2
   refine bodyPost_ret (results_cc rfl _ _ gb382 gb383 33 33 #[.int .i64 t384, .int .i64 t385, .int .i64 t386, .bool t387] #[.int .i64 t384, .int .i64 t385, .int .i64 0, .bool t387] (0, 0) (0, 0) _ _ rfl au1 Tryd.underlying33 rfl (by kernel_rfl) rfl (by (with_reducible repeat (first | refine blk_drewN ?_ _ | refine blk_drew ?_ | refine blk_alloc ?_ _)); refine blk_put (cs := #[.int .i64 t384, .int .i64 t385, .int .i64 0, .bool false]) ?_ 3 _ rfl; (with_reducible repeat (first | refine blk_drewN ?_ _ | refine blk_drew ?_ | refine blk_alloc ?_ _)); refine blk_put (cs := #[.int .i64 t384, .int .i64 t385, .int .i64 0, .bool false]) ?_ 2 _ rfl; (with_reducible repeat (first | refine blk_drewN ?_ _ | refine blk_drew ?_ | refine blk_alloc ?_ _)); refine blk_put (cs := #[.int .i64 t384, .int .i64 0, .int .i64 0, .bool false]) ?_ 1 _ rfl; (with_reducible repeat (first | refine blk_drewN ?_ _ | refine blk_drew ?_ | refine blk_alloc ?_ _)); refine blk_put (cs := #[.int .i64 0, .int .i64 0, .int .i64 0, .bool false]) ?_ 0 _ rfl; (with_reducible repeat (first | refine blk_drewN ?_ _ | refine blk_drew ?_ | refine blk_alloc ?_ _)); refine blk_far ?_ NB383_382.out _; (with_reducible repeat (first | refine blk_drewN ?_ _ | refine blk_drew ?_ | refine blk_alloc ?_ _)); refine blk_far ?_ NB383_382.out _; (with_reducible repeat (first | refine blk_drewN ?_ _ | refine blk_drew ?_ | refine blk_alloc ?_ _)); refine blk_far ?_ NB383_382.out _; (with_reducible repeat (first | refine blk_drewN ?_ _ | refine blk_drew ?_ | refine blk_alloc ?_ _)); refine blk_far ?_ NB383_382.out _; (with_reducible repeat (first | refine blk_drewN ?_ _ | refine blk_drew ?_ | refine blk_alloc ?_ _)); exact BK383.out) Tryd.underlying33 rfl (by kernel_rfl)) rfl ?_
   exact ax11
 ·
  rw [if_neg c5] at H
  have c5b0 : (t398 == 0) = false := beq_eq_false_iff_ne.mpr c5
  have c5b1 : (t398 != 0) = true := bne_iff_ne.mpr c5
  by_cases c64 : t398 = 1
  ·
   rw [if_pos c64] at H
   have c64b0 : (t398 == 1) = true := beq_iff_eq.mpr c64
   have c64b1 : (t398 != 1) = false := bne_eq_false_iff_eq.mpr c64
   clear c64
   replace H := Option.bind_eq_some_iff.mp H
   obtain ⟨⟨t404, t405, t406⟩, A650, H⟩ := H
   replace H : (if t404 = true then (some (t384, 0, 0, t387, t384, t385, t386, t387, t405, t406)) else (some (t384, t385, t386, t387, t384, 0, 0, t387, t405, t406))) = some (r1, r2, r3, r4, r5, r6, r7, r8, r9, r10) := H
   have A65 := Aside0.mk A650
   clear A650
   by_cases c66 : t404 = true
   ·
    subst c66
    replace H := (if_pos rfl).symm.trans H
    simp only [Option.some.injEq, Prod.mk.injEq] at H
    obtain ⟨rfl, rfl, rfl, rfl, rfl, rfl, rfl, rfl, rfl, rfl⟩ := H
    go_enter Tryd.func56, Tryd.ntmps56
    try go_wp2_with (first | ((with_reducible refine gate_dst (N := 2) rfl ?_); refine box_event ?hg (N := 2) ?hd (cs := #[.int .i64 0, .int .i64 0, .int .i64 0, .bool false]) (t := 33) ?hr ?_; (case hd => rfl); (case hg => rfl); (case hr => first | (go_simp; done) | (go_simp; rfl)); intro gb382 hg w67 hbox hb; replace HB := Aside0.mk (below_step au82 hb); have BK382 := Aside0.mk (hbox); have GW382 := Aside0.mk ((by rw [hg]; exact (keep_size (w := w) (g := g) (row := none) au99) : w.heap.size ≤ gb382)); have GE382 := Aside0.mk ((Nat.le_trans HW0.out (by rw [hg]; exact (keep_size (w := w) (g := g) (row := none) au99) : w.heap.size ≤ gb382) : w0.heap.size ≤ gb382)); replace HK := Aside0.mk (KeepBut.trans au99 (KeepBut.of_below hb g none) (.inl rfl)); have NB0_382 := Aside0.mk ((by rw [hg]; exact Nat.ne_of_lt (IsS51.lt (show IsS51 w0 _ g s0_0 s0_1 s0_2 from by repeat (first | (with_reducible first | exact HI0.out | apply IsS51.alloc | apply IsS51.drewN | apply IsS51.drew | apply IsS51.set_1 | apply IsS51.set_2) | exact HI0.out))) : g ≠ gb382)); have NB382_0 := Aside0.mk ((by rw [hg]; exact Nat.ne_of_gt (IsS51.lt (show IsS51 w0 _ g s0_0 s0_1 s0_2 from by repeat (first | (with_reducible first | exact HI0.out | apply IsS51.alloc | apply IsS51.drewN | apply IsS51.drew | apply IsS51.set_1 | apply IsS51.set_2) | exact HI0.out))) : gb382 ≠ g)); replace HI0 := Aside0.mk (IsS51.below au83 hb); clear hb hbox hg) | ((with_reducible refine gate_dst (N := 3) rfl ?_); refine box_event ?hg (N := 3) ?hd (cs := #[.int .i64 0, .int .i64 0, .int .i64 0, .bool false]) (t := 33) ?hr ?_; (case hd => rfl); (case hg => rfl); (case hr => first | (go_simp; done) | (go_simp; rfl)); intro gb383 hg w68 hbox hb; replace HB := Aside0.mk (below_step au67 hb); have BK383 := Aside0.mk (hbox); have GW383 := Aside0.mk ((by rw [hg]; exact (keep_size (w := w) (g := g) (row := none) au79) : w.heap.size ≤ gb383)); have GE383 := Aside0.mk ((Nat.le_trans HW0.out (by rw [hg]; exact (keep_size (w := w) (g := g) (row := none) au79) : w.heap.size ≤ gb383) : w0.heap.size ≤ gb383)); replace HK := Aside0.mk (KeepBut.trans au79 (KeepBut.of_below hb g none) (.inl rfl)); have NB382_383 := Aside0.mk (bne (g := gb382) hg au115); have NB383_382 := Aside0.mk (ben (g := gb382) hg au115); replace BK382 := Aside0.mk (blk_below (g := gb382) au115 hb); have NB0_383 := Aside0.mk ((by rw [hg]; exact Nat.ne_of_lt (IsS51.lt (show IsS51 w0 _ g s0_0 s0_1 s0_2 from by repeat (first | (with_reducible first | exact HI0.out | apply IsS51.alloc | apply IsS51.drewN | apply IsS51.drew | apply IsS51.set_1 | apply IsS51.set_2 | refine IsS51.far ?_ NB0_382.out _) | exact HI0.out))) : g ≠ gb383)); have NB383_0 := Aside0.mk ((by rw [hg]; exact Nat.ne_of_gt (IsS51.lt (show IsS51 w0 _ g s0_0 s0_1 s0_2 from by repeat (first | (with_reducible first | exact HI0.out | apply IsS51.alloc | apply IsS51.drewN | apply IsS51.drew | apply IsS51.set_1 | apply IsS51.set_2 | refine IsS51.far ?_ NB0_382.out _) | exact HI0.out))) : gb383 ≠ g)); replace HI0 := Aside0.mk (IsS51.below au64 hb); clear hb hbox hg) | ((with_reducible refine gate_callee (f := 72) rfl ?_); refine goesL_ (some 7) rfl rfl Tryd.func72 (by kernel_rfl) rfl #[.pointer (some ⟨g, 0, none⟩)] rfl au100 ?_; (with_reducible refine (spec_l1Cur_anyDate.calls g s0_0 s0_1 s0_2 t384 t385 t386 t387 t388 t389 w0 _ ?side1 ?side2 A2.out).mono ?_); (case side1 => repeat (first | (with_reducible first | exact HI0.out | apply IsS51.alloc | apply IsS51.drewN | apply IsS51.drew | apply IsS51.set_1 | apply IsS51.set_2 | refine IsS51.far ?_ NB0_382.out _ | refine IsS51.far ?_ NB0_383.out _) | exact HI0.out)); (case side2 => repeat (first | (with_reducible first | exact HB.out | apply below_alloc | apply pw_below_drewN | apply below_drew1 | refine below_set ?_ (IsS51.ge HI0.out) | refine below_set ?_ GE382.out | refine below_set ?_ GE383.out) | exact HB.out)); rintro e w69 ⟨rfl, hi, hb, hk⟩; refine ⟨_, rfl, ?_⟩; replace BK382 := Aside0.mk (KeepBut.blk hk (g' := gb382) (o := .cells #[.int .i64 0, .int .i64 0, .int .i64 0, .bool false] 33 (0, 0)) au115 NB382_0.out (by simp)); replace BK383 := Aside0.mk (KeepBut.blk hk (g' := gb383) (o := .cells #[.int .i64 0, .int .i64 0, .int .i64 0, .bool false] 33 (0, 0)) au116 NB383_0.out (by simp)); replace HK := Aside0.mk (KeepBut.trans au61 hk (.inl rfl)); replace HB := Aside0.mk (hb); replace HI0 := Aside0.mk (hi); (try clear hb); (try clear hk); (try clear hi)) | ((with_reducible refine gate_dst (N := 4) rfl ?_); refine box_event ?hg (N := 4) ?hd (cs := #[.int .i64 0, .int .i64 0, .int .i64 0, .bool false]) (t := 33) ?hr ?_; (case hd => rfl); (case hg => rfl); (case hr => first | (go_simp; done) | (go_simp; rfl)); intro gb390 hg w70 hbox hb; replace HB := Aside0.mk (below_step au56 hb); have BK390 := Aside0.mk (hbox); have GW390 := Aside0.mk ((by rw [hg]; exact (keep_size (w := w) (g := g) (row := none) au61) : w.heap.size ≤ gb390)); have GE390 := Aside0.mk ((Nat.le_trans HW0.out (by rw [hg]; exact (keep_size (w := w) (g := g) (row := none) au61) : w.heap.size ≤ gb390) : w0.heap.size ≤ gb390)); replace HK := Aside0.mk (KeepBut.trans au61 (KeepBut.of_below hb g none) (.inl rfl)); have NB382_390 := Aside0.mk (bne (g := gb382) hg au115); have NB390_382 := Aside0.mk (ben (g := gb382) hg au115); replace BK382 := Aside0.mk (blk_below (g := gb382) au115 hb); have NB383_390 := Aside0.mk (bne (g := gb383) hg au116); have NB390_383 := Aside0.mk (ben (g := gb383) hg au116); replace BK383 := Aside0.mk (blk_below (g := gb383) au116 hb); have NB0_390 := Aside0.mk ((by rw [hg]; exact Nat.ne_of_lt (IsS51.lt (show IsS51 w0 _ g s0_0 t388 t389 from by repeat (first | (with_reducible first | exact HI0.out | apply IsS51.alloc | apply IsS51.drewN | apply IsS51.drew | apply IsS51.set_1 | apply IsS51.set_2 | refine IsS51.far ?_ NB0_382.out _ | refine IsS51.far ?_ NB0_383.out _) | exact HI0.out))) : g ≠ gb390)); have NB390_0 := Aside0.mk ((by rw [hg]; exact Nat.ne_of_gt (IsS51.lt (show IsS51 w0 _ g s0_0 t388 t389 from by repeat (first | (with_reducible first | exact HI0.out | apply IsS51.alloc | apply IsS51.drewN | apply IsS51.drew | apply IsS51.set_1 | apply IsS51.set_2 | refine IsS51.far ?_ NB0_382.out _ | refine IsS51.far ?_ NB0_383.out _) | exact HI0.out))) : gb390 ≠ g)); replace HI0 := Aside0.mk (IsS51.below au54 hb); clear hb hbox hg; have hnb71 := NB390_382.out; have hnc71 := NB382_390.out; have hnb72 := NB390_383.out; have hnc72 := NB383_390.out; have hnb73 := NB390_0.out; have hnc73 := NB0_390.out; obtain ⟨hcz74_0, hcz74_1, hcz74_2, hcz74_3, hfz74_0, hfz74_1, hfz74_2, hfz74_3⟩ := blkc4 BK390.out) | ((with_reducible refine gate_callee (f := 72) rfl ?_); refine goesL_ (some 9) rfl rfl Tryd.func72 (by kernel_rfl) rfl #[.pointer (some ⟨g, 0, none⟩)] rfl au100 ?_; (with_reducible refine (spec_l1Cur_anyDate.calls g s0_0 t388 t389 t391 t392 t393 t394 t395 t396 w0 _ ?side1 ?side2 A3.out).mono ?_); (case side1 => repeat (first | (with_reducible first | exact HI0.out | apply IsS51.alloc | apply IsS51.drewN | apply IsS51.drew | apply IsS51.set_1 | apply IsS51.set_2 | refine IsS51.far ?_ NB0_382.out _ | refine IsS51.far ?_ NB0_383.out _ | refine IsS51.far ?_ NB0_390.out _) | exact HI0.out)); (case side2 => repeat (first | (with_reducible first | exact HB.out | apply below_alloc | apply pw_below_drewN | apply below_drew1 | refine below_set ?_ (IsS51.ge HI0.out) | refine below_set ?_ GE382.out | refine below_set ?_ GE383.out | refine below_set ?_ GE390.out) | exact HB.out)); rintro e w75 ⟨rfl, hi, hb, hk⟩; refine ⟨_, rfl, ?_⟩; replace BK382 := Aside0.mk (KeepBut.blk hk (g' := gb382) (o := .cells #[.int .i64 0, .int .i64 0, .int .i64 0, .bool false] 33 (0, 0)) au30 NB382_0.out (by simp)); replace BK383 := Aside0.mk (KeepBut.blk hk (g' := gb383) (o := .cells #[.int .i64 0, .int .i64 0, .int .i64 0, .bool false] 33 (0, 0)) au31 NB383_0.out (by simp)); replace BK390 := Aside0.mk (KeepBut.blk hk (g' := gb390) (o := .cells #[.int .i64 t384, .int .i64 t385, .int .i64 t386, .bool t387] 33 (0, 0)) au19 NB390_0.out (by simp)); replace HK := Aside0.mk (KeepBut.trans au52 hk (.inl rfl)); replace HB := Aside0.mk (hb); replace HI0 := Aside0.mk (hi); (try clear hb); (try clear hk); (try clear hi)) | ((with_reducible refine gate_dst (N := 5) rfl ?_); refine box_event ?hg (N := 5) ?hd (cs := #[.int .i64 0, .int .i64 0, .int .i64 0, .bool false]) (t := 33) ?hr ?_; (case hd => rfl); (case hg => rfl); (case hr => first | (go_simp; done) | (go_simp; rfl)); intro gb397 hg w76 hbox hb; replace HB := Aside0.mk (below_step au48 hb); have BK397 := Aside0.mk (hbox); have GW397 := Aside0.mk ((by rw [hg]; exact (keep_size (w := w) (g := g) (row := none) au52) : w.heap.size ≤ gb397)); have GE397 := Aside0.mk ((Nat.le_trans HW0.out (by rw [hg]; exact (keep_size (w := w) (g := g) (row := none) au52) : w.heap.size ≤ gb397) : w0.heap.size ≤ gb397)); replace HK := Aside0.mk (KeepBut.trans au52 (KeepBut.of_below hb g none) (.inl rfl)); have NB382_397 := Aside0.mk (bne (g := gb382) hg au115); have NB397_382 := Aside0.mk (ben (g := gb382) hg au115); replace BK382 := Aside0.mk (blk_below (g := gb382) au115 hb); have NB383_397 := Aside0.mk (bne (g := gb383) hg au116); have NB397_383 := Aside0.mk (ben (g := gb383) hg au116); replace BK383 := Aside0.mk (blk_below (g := gb383) au116 hb); have NB390_397 := Aside0.mk (bne (g := gb390) hg au117); have NB397_390 := Aside0.mk (ben (g := gb390) hg au117); replace BK390 := Aside0.mk (blk_below (g := gb390) au117 hb); have NB0_397 := Aside0.mk ((by rw [hg]; exact Nat.ne_of_lt (IsS51.lt (show IsS51 w0 _ g s0_0 t395 t396 from by repeat (first | (with_reducible first | exact HI0.out | apply IsS51.alloc | apply IsS51.drewN | apply IsS51.drew | apply IsS51.set_1 | apply IsS51.set_2 | refine IsS51.far ?_ NB0_382.out _ | refine IsS51.far ?_ NB0_383.out _ | refine IsS51.far ?_ NB0_390.out _) | exact HI0.out))) : g ≠ gb397)); have NB397_0 := Aside0.mk ((by rw [hg]; exact Nat.ne_of_gt (IsS51.lt (show IsS51 w0 _ g s0_0 t395 t396 from by repeat (first | (with_reducible first | exact HI0.out | apply IsS51.alloc | apply IsS51.drewN | apply IsS51.drew | apply IsS51.set_1 | apply IsS51.set_2 | refine IsS51.far ?_ NB0_382.out _ | refine IsS51.far ?_ NB0_383.out _ | refine IsS51.far ?_ NB0_390.out _) | exact HI0.out))) : gb397 ≠ g)); replace HI0 := Aside0.mk (IsS51.below au46 hb); clear hb hbox hg; have hnb77 := NB397_382.out; have hnc77 := NB382_397.out; have hnb78 := NB397_383.out; have hnc78 := NB383_397.out; have hnb79 := NB397_390.out; have hnc79 := NB390_397.out; have hnb80 := NB397_0.out; have hnc80 := NB0_397.out; obtain ⟨hcz81_0, hcz81_1, hcz81_2, hcz81_3, hfz81_0, hfz81_1, hfz81_2, hfz81_3⟩ := blkc4 BK397.out) | ((with_reducible refine gate_callee (f := 31) rfl ?_); refine goesL_ (some 11) rfl rfl Tryd.func31 (by kernel_rfl) rfl #[.pointer (some ⟨g, 0, none⟩), .int .i64 4] rfl au100 ?_; (with_reducible refine (spec_l1Cur_pick.calls g s0_0 t395 t396 4 t398 t399 t400 w0 _ ?side1 ?side2 A4.out).mono ?_); (case side1 => repeat (first | (with_reducible first | exact HI0.out | apply IsS51.alloc | apply IsS51.drewN | apply IsS51.drew | apply IsS51.set_1 | apply IsS51.set_2 | refine IsS51.far ?_ NB0_382.out _ | refine IsS51.far ?_ NB0_383.out _ | refine IsS51.far ?_ NB0_390.out _ | refine IsS51.far ?_ NB0_397.out _) | exact HI0.out)); (case side2 => repeat (first | (with_reducible first | exact HB.out | apply below_alloc | apply pw_below_drewN | apply below_drew1 | refine below_set ?_ (IsS51.ge HI0.out) | refine below_set ?_ GE382.out | refine below_set ?_ GE383.out | refine below_set ?_ GE390.out | refine below_set ?_ GE397.out) | exact HB.out)); rintro e w82 ⟨rfl, hi, hb, hk⟩; refine ⟨_, rfl, ?_⟩; replace BK382 := Aside0.mk (KeepBut.blk hk (g' := gb382) (o := .cells #[.int .i64 0, .int .i64 0, .int .i64 0, .bool false] 33 (0, 0)) au32 NB382_0.out (by simp)); replace BK383 := Aside0.mk (KeepBut.blk hk (g' := gb383) (o := .cells #[.int .i64 0, .int .i64 0, .int .i64 0, .bool false] 33 (0, 0)) au33 NB383_0.out (by simp)); replace BK390 := Aside0.mk (KeepBut.blk hk (g' := gb390) (o := .cells #[.int .i64 t384, .int .i64 t385, .int .i64 t386, .bool t387] 33 (0, 0)) au34 NB390_0.out (by simp)); replace BK397 := Aside0.mk (KeepBut.blk hk (g' := gb397) (o := .cells #[.int .i64 t391, .int .i64 t392, .int .i64 t393, .bool t394] 33 (0, 0)) au20 NB397_0.out (by simp)); replace HK := Aside0.mk (KeepBut.trans au47 hk (.inl rfl)); replace HB := Aside0.mk (hb); replace HI0 := Aside0.mk (hi); (try clear hb); (try clear hk); (try clear hi); obtain ⟨hcz83_0, hcz83_1, hcz83_2, hcz83_3, hfz83_0, hfz83_1, hfz83_2, hfz83_3⟩ := blkc4 BK390.out; obtain ⟨hcz84_0, hcz84_1, hcz84_2, hcz84_3, hfz84_0, hfz84_1, hfz84_2, hfz84_3⟩ := blkc4 BK397.out) | ((with_reducible refine gate_callee (f := 36) rfl ?_); refine goesL_ (some 27) rfl rfl Tryd.func36 (by kernel_rfl) rfl #[.pointer (some ⟨g, 0, none⟩), .int .i64 2] rfl au100 ?_; (with_reducible refine (spec_l1Cur_one.calls g s0_0 t399 t400 2 true t405 t406 w0 _ ?side1 ?side2 A65.out).mono ?_); (case side1 => repeat (first | (with_reducible first | exact HI0.out | apply IsS51.alloc | apply IsS51.drewN | apply IsS51.drew | apply IsS51.set_1 | apply IsS51.set_2 | refine IsS51.far ?_ NB0_382.out _ | refine IsS51.far ?_ NB0_383.out _ | refine IsS51.far ?_ NB0_390.out _ | refine IsS51.far ?_ NB0_397.out _) | exact HI0.out)); (case side2 => repeat (first | (with_reducible first | exact HB.out | apply below_alloc | apply pw_below_drewN | apply below_drew1 | refine below_set ?_ (IsS51.ge HI0.out) | refine below_set ?_ GE382.out | refine below_set ?_ GE383.out | refine below_set ?_ GE390.out | refine below_set ?_ GE397.out) | exact HB.out)); rintro e w85 ⟨rfl, hi, hb, hk⟩; refine ⟨_, rfl, ?_⟩; replace BK382 := Aside0.mk (KeepBut.blk hk (g' := gb382) (o := .cells #[.int .i64 0, .int .i64 0, .int .i64 0, .bool false] 33 (0, 0)) au14 NB382_0.out (by simp)); replace BK383 := Aside0.mk (KeepBut.blk hk (g' := gb383) (o := .cells #[.int .i64 0, .int .i64 0, .int .i64 0, .bool false] 33 (0, 0)) au15 NB383_0.out (by simp)); replace BK390 := Aside0.mk (KeepBut.blk hk (g' := gb390) (o := .cells #[.int .i64 t384, .int .i64 t385, .int .i64 t386, .bool t387] 33 (0, 0)) au16 NB390_0.out (by simp)); replace BK397 := Aside0.mk (KeepBut.blk hk (g' := gb397) (o := .cells #[.int .i64 t384, .int .i64 0, .int .i64 0, .bool t387] 33 (0, 0)) au6 NB397_0.out (by simp)); replace HK := Aside0.mk (KeepBut.trans au47 hk (.inl rfl)); replace HB := Aside0.mk (hb); replace HI0 := Aside0.mk (hi); (try clear hb); (try clear hk); (try clear hi)))
    replace BK382 := Aside0.mk (blk_drew BK382.out)
    replace BK383 := Aside0.mk (blk_drew BK383.out)
    replace BK390 := Aside0.mk (blk_drew BK390.out)
    replace BK397 := Aside0.mk (blk_drew BK397.out)
    replace HI0 := Aside0.mk (IsS51.drew HI0.out)
    replace HK := Aside0.mk (keep_drew HK.out)
    replace HB := Aside0.mk (below_drew1 HB.out)
    refine start_ (n := 4) (S := fun w' => w'.cell? ⟨gb397, 0, none⟩ = some (.int .i64 t384) ∧ w'.cell? ⟨gb397, 1, none⟩ = some (.int .i64 0) ∧ w'.cell? ⟨gb397, 2, none⟩ = some (.int .i64 0) ∧ w'.cell? ⟨gb397, 3, none⟩ = some (.bool t387) ∧ w'.cell? ⟨gb390, 0, none⟩ = some (.int .i64 t384) ∧ w'.cell? ⟨gb390, 1, none⟩ = some (.int .i64 t385) ∧ w'.cell? ⟨gb390, 2, none⟩ = some (.int .i64 t386) ∧ w'.cell? ⟨gb390, 3, none⟩ = some (.bool t387)) (ds := []) #[false, false, false, false] (by kernel_rfl) rfl rfl ⟨(blk_cell BK397.out 0).trans rfl, (blk_cell BK397.out 1).trans rfl, (blk_cell BK397.out 2).trans rfl, (blk_cell BK397.out 3).trans rfl, (blk_cell BK390.out 0).trans rfl, (blk_cell BK390.out 1).trans rfl, (blk_cell BK390.out 2).trans rfl, (blk_cell BK390.out 3).trans rfl⟩ (fun hHeld => ?_)
    generalize w85.drew = w86 at BK382 BK383 BK390 BK397 HI0 HK HB hHeld ⊢
    refine take_ (i := 0) (N := some 28) (v := ?_) (a' := ?_) #[true, false, false, false] rfl rfl (by kernel_rfl) (fun _ _ _ h => h) (Or.inl ⟨by rfl, ?_⟩) hHeld ?_ ?_
    rotate_left
    ·
     rintro w' ⟨s0, s1, s2, s3, s4, s5, s6, s7⟩
     go_simp
     with_reducible rfl
    rotate_left
    ·
     simp only [Act.put, List.setIfInBounds_toArray, List.set_cons_zero, List.set_cons_succ, i64_w, i32_w]
     rfl
    refine take_ (i := 1) (N := some 29) (v := ?_) (a' := ?_) #[true, true, false, false] rfl rfl (by kernel_rfl) (fun _ _ _ h => h) (Or.inl ⟨by rfl, ?_⟩) hHeld ?_ ?_
    rotate_left
    ·
     rintro w' ⟨s0, s1, s2, s3, s4, s5, s6, s7⟩
     go_simp
     with_reducible rfl
    rotate_left
    ·
     simp only [Act.put, List.setIfInBounds_toArray, List.set_cons_zero, List.set_cons_succ, i64_w, i32_w]
     rfl
    refine one_ (i := 2) (N := none) #[true, true, true, false] rfl rfl (by kernel_rfl) (by decide) (fun K hK => ?_)
    have hs87 : w86.cell? ⟨gb382, 0, none⟩ = some (.int .i64 0) := (blk_cell BK382.out 0).trans rfl
    have hfs87 := blk_frozen BK382.out 0
    have hns87_1 := NB383_382.out
    have hns87_2 := NB390_382.out
    have hns87_3 := NB397_382.out
    have hms87_1 := NB382_383.out
    have hms87_2 := NB382_390.out
    have hms87_3 := NB382_397.out
    have hs88 : w86.cell? ⟨gb382, 1, none⟩ = some (.int .i64 0) := (blk_cell BK382.out 1).trans rfl
    have hfs88 := blk_frozen BK382.out 1
    have hns88_1 := NB383_382.out
    have hns88_2 := NB390_382.out
    have hns88_3 := NB397_382.out
    have hms88_1 := NB382_383.out
    have hms88_2 := NB382_390.out
    have hms88_3 := NB382_397.out
    have hs89 : w86.cell? ⟨gb382, 2, none⟩ = some (.int .i64 0) := (blk_cell BK382.out 2).trans rfl
    have hfs89 := blk_frozen BK382.out 2
    have hns89_1 := NB383_382.out
    have hns89_2 := NB390_382.out
    have hns89_3 := NB397_382.out
    have hms89_1 := NB382_383.out
    have hms89_2 := NB382_390.out
    have hms89_3 := NB382_397.out
    have hs90 : w86.cell? ⟨gb382, 3, none⟩ = some (.bool false) := (blk_cell BK382.out 3).trans rfl
    have hfs90 := blk_frozen BK382.out 3
    have hns90_1 := NB383_382.out
    have hns90_2 := NB390_382.out
    have hns90_3 := NB397_382.out
    have hms90_1 := NB382_383.out
    have hms90_2 := NB382_390.out
    have hms90_3 := NB382_397.out
    refine skip_ (w1 := ?_) (by rfl) rfl ?_ ?_
    rotate_left
    ·
     go_simp
     rfl
    refine hK.out _ _ ⟨((cell_far (p := ⟨gb382, _, none⟩) NB397_382.out _).trans (((cell_far (p := ⟨gb382, _, none⟩) NB397_382.out _).trans (((cell_far (p := ⟨gb382, _, none⟩) NB397_382.out _).trans (((cell_far (p := ⟨gb382, _, none⟩) NB397_382.out _).trans (hHeld.1)))))))), ((cell_far (p := ⟨gb382, _, none⟩) NB397_382.out _).trans (((cell_far (p := ⟨gb382, _, none⟩) NB397_382.out _).trans (((cell_far (p := ⟨gb382, _, none⟩) NB397_382.out _).trans (((cell_far (p := ⟨gb382, _, none⟩) NB397_382.out _).trans (hHeld.2.1)))))))), ((cell_far (p := ⟨gb382, _, none⟩) NB397_382.out _).trans (((cell_far (p := ⟨gb382, _, none⟩) NB397_382.out _).trans (((cell_far (p := ⟨gb382, _, none⟩) NB397_382.out _).trans (((cell_far (p := ⟨gb382, _, none⟩) NB397_382.out _).trans (hHeld.2.2.1)))))))), ((cell_far (p := ⟨gb382, _, none⟩) NB397_382.out _).trans (((cell_far (p := ⟨gb382, _, none⟩) NB397_382.out _).trans (((cell_far (p := ⟨gb382, _, none⟩) NB397_382.out _).trans (((cell_far (p := ⟨gb382, _, none⟩) NB397_382.out _).trans (hHeld.2.2.2.1)))))))), ((cell_far (p := ⟨gb382, _, none⟩) NB390_382.out _).trans (((cell_far (p := ⟨gb382, _, none⟩) NB390_382.out _).trans (((cell_far (p := ⟨gb382, _, none⟩) NB390_382.out _).trans (((cell_far (p := ⟨gb382, _, none⟩) NB390_382.out _).trans (hHeld.2.2.2.2.1)))))))), ((cell_far (p := ⟨gb382, _, none⟩) NB390_382.out _).trans (((cell_far (p := ⟨gb382, _, none⟩) NB390_382.out _).trans (((cell_far (p := ⟨gb382, _, none⟩) NB390_382.out _).trans (((cell_far (p := ⟨gb382, _, none⟩) NB390_382.out _).trans (hHeld.2.2.2.2.2.1)))))))), ((cell_far (p := ⟨gb382, _, none⟩) NB390_382.out _).trans (((cell_far (p := ⟨gb382, _, none⟩) NB390_382.out _).trans (((cell_far (p := ⟨gb382, _, none⟩) NB390_382.out _).trans (((cell_far (p := ⟨gb382, _, none⟩) NB390_382.out _).trans (hHeld.2.2.2.2.2.2.1)))))))), ((cell_far (p := ⟨gb382, _, none⟩) NB390_382.out _).trans (((cell_far (p := ⟨gb382, _, none⟩) NB390_382.out _).trans (((cell_far (p := ⟨gb382, _, none⟩) NB390_382.out _).trans (((cell_far (p := ⟨gb382, _, none⟩) NB390_382.out _).trans (hHeld.2.2.2.2.2.2.2))))))))⟩ (fun hHeld => ?_)
    clear hK K
    refine one_ (i := 3) (N := none) #[true, true, true, true] rfl rfl (by kernel_rfl) (by decide) (fun K hK => ?_)
    have hs91 : w86.cell? ⟨gb383, 0, none⟩ = some (.int .i64 0) := (blk_cell BK383.out 0).trans rfl
    have hfs91 := blk_frozen BK383.out 0
    have hns91_0 := NB382_383.out
    have hns91_2 := NB390_383.out
    have hns91_3 := NB397_383.out
    have hms91_0 := NB383_382.out
    have hms91_2 := NB383_390.out
    have hms91_3 := NB383_397.out
    have hs92 : w86.cell? ⟨gb383, 1, none⟩ = some (.int .i64 0) := (blk_cell BK383.out 1).trans rfl
    have hfs92 := blk_frozen BK383.out 1
    have hns92_0 := NB382_383.out
    have hns92_2 := NB390_383.out
    have hns92_3 := NB397_383.out
    have hms92_0 := NB383_382.out
    have hms92_2 := NB383_390.out
    have hms92_3 := NB383_397.out
    have hs93 : w86.cell? ⟨gb383, 2, none⟩ = some (.int .i64 0) := (blk_cell BK383.out 2).trans rfl
    have hfs93 := blk_frozen BK383.out 2
    have hns93_0 := NB382_383.out
    have hns93_2 := NB390_383.out
    have hns93_3 := NB397_383.out
    have hms93_0 := NB383_382.out
    have hms93_2 := NB383_390.out
    have hms93_3 := NB383_397.out
    have hs94 : w86.cell? ⟨gb383, 3, none⟩ = some (.bool false) := (blk_cell BK383.out 3).trans rfl
    have hfs94 := blk_frozen BK383.out 3
    have hns94_0 := NB382_383.out
    have hns94_2 := NB390_383.out
    have hns94_3 := NB397_383.out
    have hms94_0 := NB383_382.out
    have hms94_2 := NB383_390.out
    have hms94_3 := NB383_397.out
    refine skip_ (w1 := ?_) (by rfl) rfl ?_ ?_
    rotate_left
    ·
     go_simp
     rfl
    refine hK.out _ _ ⟨((cell_far (p := ⟨gb383, _, none⟩) NB397_383.out _).trans (((cell_far (p := ⟨gb383, _, none⟩) NB397_383.out _).trans (((cell_far (p := ⟨gb383, _, none⟩) NB397_383.out _).trans (((cell_far (p := ⟨gb383, _, none⟩) NB397_383.out _).trans (hHeld.1)))))))), ((cell_far (p := ⟨gb383, _, none⟩) NB397_383.out _).trans (((cell_far (p := ⟨gb383, _, none⟩) NB397_383.out _).trans (((cell_far (p := ⟨gb383, _, none⟩) NB397_383.out _).trans (((cell_far (p := ⟨gb383, _, none⟩) NB397_383.out _).trans (hHeld.2.1)))))))), ((cell_far (p := ⟨gb383, _, none⟩) NB397_383.out _).trans (((cell_far (p := ⟨gb383, _, none⟩) NB397_383.out _).trans (((cell_far (p := ⟨gb383, _, none⟩) NB397_383.out _).trans (((cell_far (p := ⟨gb383, _, none⟩) NB397_383.out _).trans (hHeld.2.2.1)))))))), ((cell_far (p := ⟨gb383, _, none⟩) NB397_383.out _).trans (((cell_far (p := ⟨gb383, _, none⟩) NB397_383.out _).trans (((cell_far (p := ⟨gb383, _, none⟩) NB397_383.out _).trans (((cell_far (p := ⟨gb383, _, none⟩) NB397_383.out _).trans (hHeld.2.2.2.1)))))))), ((cell_far (p := ⟨gb383, _, none⟩) NB390_383.out _).trans (((cell_far (p := ⟨gb383, _, none⟩) NB390_383.out _).trans (((cell_far (p := ⟨gb383, _, none⟩) NB390_383.out _).trans (((cell_far (p := ⟨gb383, _, none⟩) NB390_383.out _).trans (hHeld.2.2.2.2.1)))))))), ((cell_far (p := ⟨gb383, _, none⟩) NB390_383.out _).trans (((cell_far (p := ⟨gb383, _, none⟩) NB390_383.out _).trans (((cell_far (p := ⟨gb383, _, none⟩) NB390_383.out _).trans (((cell_far (p := ⟨gb383, _, none⟩) NB390_383.out _).trans (hHeld.2.2.2.2.2.1)))))))), ((cell_far (p := ⟨gb383, _, none⟩) NB390_383.out _).trans (((cell_far (p := ⟨gb383, _, none⟩) NB390_383.out _).trans (((cell_far (p := ⟨gb383, _, none⟩) NB390_383.out _).trans (((cell_far (p := ⟨gb383, _, none⟩) NB390_383.out _).trans (hHeld.2.2.2.2.2.2.1)))))))), ((cell_far (p := ⟨gb383, _, none⟩) NB390_383.out _).trans (((cell_far (p := ⟨gb383, _, none⟩) NB390_383.out _).trans (((cell_far (p := ⟨gb383, _, none⟩) NB390_383.out _).trans (((cell_far (p := ⟨gb383, _, none⟩) NB390_383.out _).trans (hHeld.2.2.2.2.2.2.2))))))))⟩ (fun hHeld => ?_)
    clear hK K
    refine done_ (by kernel_rfl) ?_
    try go_wp2
    refine bodyPost_ret (results_cc rfl _ _ gb382 gb383 33 33 #[.int .i64 t384, .int .i64 0, .int .i64 0, .bool t387] #[.int .i64 t384, .int .i64 t385, .int .i64 t386, .bool t387] (0, 0) (0, 0) _ _ rfl au4 Tryd.underlying33 rfl (by kernel_rfl) rfl au0 Tryd.underlying33 rfl (by kernel_rfl)) rfl ?_
    exact ax11
   ·
    replace c66 := Bool.eq_false_iff.mpr c66
    subst c66
    replace H := (if_neg (show ¬ (false = true) by decide)).symm.trans H
    simp only [Option.some.injEq, Prod.mk.injEq] at H
    obtain ⟨rfl, rfl, rfl, rfl, rfl, rfl, rfl, rfl, rfl, rfl⟩ := H
    go_enter Tryd.func56, Tryd.ntmps56
    try go_wp2_with (first | ((with_reducible refine gate_dst (N := 2) rfl ?_); refine box_event ?hg (N := 2) ?hd (cs := #[.int .i64 0, .int .i64 0, .int .i64 0, .bool false]) (t := 33) ?hr ?_; (case hd => rfl); (case hg => rfl); (case hr => first | (go_simp; done) | (go_simp; rfl)); intro gb382 hg w95 hbox hb; replace HB := Aside0.mk (below_step au82 hb); have BK382 := Aside0.mk (hbox); have GW382 := Aside0.mk ((by rw [hg]; exact (keep_size (w := w) (g := g) (row := none) au99) : w.heap.size ≤ gb382)); have GE382 := Aside0.mk ((Nat.le_trans HW0.out (by rw [hg]; exact (keep_size (w := w) (g := g) (row := none) au99) : w.heap.size ≤ gb382) : w0.heap.size ≤ gb382)); replace HK := Aside0.mk (KeepBut.trans au99 (KeepBut.of_below hb g none) (.inl rfl)); have NB0_382 := Aside0.mk ((by rw [hg]; exact Nat.ne_of_lt (IsS51.lt (show IsS51 w0 _ g s0_0 s0_1 s0_2 from by repeat (first | (with_reducible first | exact HI0.out | apply IsS51.alloc | apply IsS51.drewN | apply IsS51.drew | apply IsS51.set_1 | apply IsS51.set_2) | exact HI0.out))) : g ≠ gb382)); have NB382_0 := Aside0.mk ((by rw [hg]; exact Nat.ne_of_gt (IsS51.lt (show IsS51 w0 _ g s0_0 s0_1 s0_2 from by repeat (first | (with_reducible first | exact HI0.out | apply IsS51.alloc | apply IsS51.drewN | apply IsS51.drew | apply IsS51.set_1 | apply IsS51.set_2) | exact HI0.out))) : gb382 ≠ g)); replace HI0 := Aside0.mk (IsS51.below au83 hb); clear hb hbox hg) | ((with_reducible refine gate_dst (N := 3) rfl ?_); refine box_event ?hg (N := 3) ?hd (cs := #[.int .i64 0, .int .i64 0, .int .i64 0, .bool false]) (t := 33) ?hr ?_; (case hd => rfl); (case hg => rfl); (case hr => first | (go_simp; done) | (go_simp; rfl)); intro gb383 hg w96 hbox hb; replace HB := Aside0.mk (below_step au67 hb); have BK383 := Aside0.mk (hbox); have GW383 := Aside0.mk ((by rw [hg]; exact (keep_size (w := w) (g := g) (row := none) au79) : w.heap.size ≤ gb383)); have GE383 := Aside0.mk ((Nat.le_trans HW0.out (by rw [hg]; exact (keep_size (w := w) (g := g) (row := none) au79) : w.heap.size ≤ gb383) : w0.heap.size ≤ gb383)); replace HK := Aside0.mk (KeepBut.trans au79 (KeepBut.of_below hb g none) (.inl rfl)); have NB382_383 := Aside0.mk (bne (g := gb382) hg au115); have NB383_382 := Aside0.mk (ben (g := gb382) hg au115); replace BK382 := Aside0.mk (blk_below (g := gb382) au115 hb); have NB0_383 := Aside0.mk ((by rw [hg]; exact Nat.ne_of_lt (IsS51.lt (show IsS51 w0 _ g s0_0 s0_1 s0_2 from by repeat (first | (with_reducible first | exact HI0.out | apply IsS51.alloc | apply IsS51.drewN | apply IsS51.drew | apply IsS51.set_1 | apply IsS51.set_2 | refine IsS51.far ?_ NB0_382.out _) | exact HI0.out))) : g ≠ gb383)); have NB383_0 := Aside0.mk ((by rw [hg]; exact Nat.ne_of_gt (IsS51.lt (show IsS51 w0 _ g s0_0 s0_1 s0_2 from by repeat (first | (with_reducible first | exact HI0.out | apply IsS51.alloc | apply IsS51.drewN | apply IsS51.drew | apply IsS51.set_1 | apply IsS51.set_2 | refine IsS51.far ?_ NB0_382.out _) | exact HI0.out))) : gb383 ≠ g)); replace HI0 := Aside0.mk (IsS51.below au64 hb); clear hb hbox hg) | ((with_reducible refine gate_callee (f := 72) rfl ?_); refine goesL_ (some 7) rfl rfl Tryd.func72 (by kernel_rfl) rfl #[.pointer (some ⟨g, 0, none⟩)] rfl au100 ?_; (with_reducible refine (spec_l1Cur_anyDate.calls g s0_0 s0_1 s0_2 t384 t385 t386 t387 t388 t389 w0 _ ?side1 ?side2 A2.out).mono ?_); (case side1 => repeat (first | (with_reducible first | exact HI0.out | apply IsS51.alloc | apply IsS51.drewN | apply IsS51.drew | apply IsS51.set_1 | apply IsS51.set_2 | refine IsS51.far ?_ NB0_382.out _ | refine IsS51.far ?_ NB0_383.out _) | exact HI0.out)); (case side2 => repeat (first | (with_reducible first | exact HB.out | apply below_alloc | apply pw_below_drewN | apply below_drew1 | refine below_set ?_ (IsS51.ge HI0.out) | refine below_set ?_ GE382.out | refine below_set ?_ GE383.out) | exact HB.out)); rintro e w97 ⟨rfl, hi, hb, hk⟩; refine ⟨_, rfl, ?_⟩; replace BK382 := Aside0.mk (KeepBut.blk hk (g' := gb382) (o := .cells #[.int .i64 0, .int .i64 0, .int .i64 0, .bool false] 33 (0, 0)) au115 NB382_0.out (by simp)); replace BK383 := Aside0.mk (KeepBut.blk hk (g' := gb383) (o := .cells #[.int .i64 0, .int .i64 0, .int .i64 0, .bool false] 33 (0, 0)) au116 NB383_0.out (by simp)); replace HK := Aside0.mk (KeepBut.trans au61 hk (.inl rfl)); replace HB := Aside0.mk (hb); replace HI0 := Aside0.mk (hi); (try clear hb); (try clear hk); (try clear hi)) | ((with_reducible refine gate_dst (N := 4) rfl ?_); refine box_event ?hg (N := 4) ?hd (cs := #[.int .i64 0, .int .i64 0, .int .i64 0, .bool false]) (t := 33) ?hr ?_; (case hd => rfl); (case hg => rfl); (case hr => first | (go_simp; done) | (go_simp; rfl)); intro gb390 hg w98 hbox hb; replace HB := Aside0.mk (below_step au56 hb); have BK390 := Aside0.mk (hbox); have GW390 := Aside0.mk ((by rw [hg]; exact (keep_size (w := w) (g := g) (row := none) au61) : w.heap.size ≤ gb390)); have GE390 := Aside0.mk ((Nat.le_trans HW0.out (by rw [hg]; exact (keep_size (w := w) (g := g) (row := none) au61) : w.heap.size ≤ gb390) : w0.heap.size ≤ gb390)); replace HK := Aside0.mk (KeepBut.trans au61 (KeepBut.of_below hb g none) (.inl rfl)); have NB382_390 := Aside0.mk (bne (g := gb382) hg au115); have NB390_382 := Aside0.mk (ben (g := gb382) hg au115); replace BK382 := Aside0.mk (blk_below (g := gb382) au115 hb); have NB383_390 := Aside0.mk (bne (g := gb383) hg au116); have NB390_383 := Aside0.mk (ben (g := gb383) hg au116); replace BK383 := Aside0.mk (blk_below (g := gb383) au116 hb); have NB0_390 := Aside0.mk ((by rw [hg]; exact Nat.ne_of_lt (IsS51.lt (show IsS51 w0 _ g s0_0 t388 t389 from by repeat (first | (with_reducible first | exact HI0.out | apply IsS51.alloc | apply IsS51.drewN | apply IsS51.drew | apply IsS51.set_1 | apply IsS51.set_2 | refine IsS51.far ?_ NB0_382.out _ | refine IsS51.far ?_ NB0_383.out _) | exact HI0.out))) : g ≠ gb390)); have NB390_0 := Aside0.mk ((by rw [hg]; exact Nat.ne_of_gt (IsS51.lt (show IsS51 w0 _ g s0_0 t388 t389 from by repeat (first | (with_reducible first | exact HI0.out | apply IsS51.alloc | apply IsS51.drewN | apply IsS51.drew | apply IsS51.set_1 | apply IsS51.set_2 | refine IsS51.far ?_ NB0_382.out _ | refine IsS51.far ?_ NB0_383.out _) | exact HI0.out))) : gb390 ≠ g)); replace HI0 := Aside0.mk (IsS51.below au54 hb); clear hb hbox hg; have hnb99 := NB390_382.out; have hnc99 := NB382_390.out; have hnb100 := NB390_383.out; have hnc100 := NB383_390.out; have hnb101 := NB390_0.out; have hnc101 := NB0_390.out; obtain ⟨hcz102_0, hcz102_1, hcz102_2, hcz102_3, hfz102_0, hfz102_1, hfz102_2, hfz102_3⟩ := blkc4 BK390.out) | ((with_reducible refine gate_callee (f := 72) rfl ?_); refine goesL_ (some 9) rfl rfl Tryd.func72 (by kernel_rfl) rfl #[.pointer (some ⟨g, 0, none⟩)] rfl au100 ?_; (with_reducible refine (spec_l1Cur_anyDate.calls g s0_0 t388 t389 t391 t392 t393 t394 t395 t396 w0 _ ?side1 ?side2 A3.out).mono ?_); (case side1 => repeat (first | (with_reducible first | exact HI0.out | apply IsS51.alloc | apply IsS51.drewN | apply IsS51.drew | apply IsS51.set_1 | apply IsS51.set_2 | refine IsS51.far ?_ NB0_382.out _ | refine IsS51.far ?_ NB0_383.out _ | refine IsS51.far ?_ NB0_390.out _) | exact HI0.out)); (case side2 => repeat (first | (with_reducible first | exact HB.out | apply below_alloc | apply pw_below_drewN | apply below_drew1 | refine below_set ?_ (IsS51.ge HI0.out) | refine below_set ?_ GE382.out | refine below_set ?_ GE383.out | refine below_set ?_ GE390.out) | exact HB.out)); rintro e w103 ⟨rfl, hi, hb, hk⟩; refine ⟨_, rfl, ?_⟩; replace BK382 := Aside0.mk (KeepBut.blk hk (g' := gb382) (o := .cells #[.int .i64 0, .int .i64 0, .int .i64 0, .bool false] 33 (0, 0)) au30 NB382_0.out (by simp)); replace BK383 := Aside0.mk (KeepBut.blk hk (g' := gb383) (o := .cells #[.int .i64 0, .int .i64 0, .int .i64 0, .bool false] 33 (0, 0)) au31 NB383_0.out (by simp)); replace BK390 := Aside0.mk (KeepBut.blk hk (g' := gb390) (o := .cells #[.int .i64 t384, .int .i64 t385, .int .i64 t386, .bool t387] 33 (0, 0)) au19 NB390_0.out (by simp)); replace HK := Aside0.mk (KeepBut.trans au52 hk (.inl rfl)); replace HB := Aside0.mk (hb); replace HI0 := Aside0.mk (hi); (try clear hb); (try clear hk); (try clear hi)) | ((with_reducible refine gate_dst (N := 5) rfl ?_); refine box_event ?hg (N := 5) ?hd (cs := #[.int .i64 0, .int .i64 0, .int .i64 0, .bool false]) (t := 33) ?hr ?_; (case hd => rfl); (case hg => rfl); (case hr => first | (go_simp; done) | (go_simp; rfl)); intro gb397 hg w104 hbox hb; replace HB := Aside0.mk (below_step au48 hb); have BK397 := Aside0.mk (hbox); have GW397 := Aside0.mk ((by rw [hg]; exact (keep_size (w := w) (g := g) (row := none) au52) : w.heap.size ≤ gb397)); have GE397 := Aside0.mk ((Nat.le_trans HW0.out (by rw [hg]; exact (keep_size (w := w) (g := g) (row := none) au52) : w.heap.size ≤ gb397) : w0.heap.size ≤ gb397)); replace HK := Aside0.mk (KeepBut.trans au52 (KeepBut.of_below hb g none) (.inl rfl)); have NB382_397 := Aside0.mk (bne (g := gb382) hg au115); have NB397_382 := Aside0.mk (ben (g := gb382) hg au115); replace BK382 := Aside0.mk (blk_below (g := gb382) au115 hb); have NB383_397 := Aside0.mk (bne (g := gb383) hg au116); have NB397_383 := Aside0.mk (ben (g := gb383) hg au116); replace BK383 := Aside0.mk (blk_below (g := gb383) au116 hb); have NB390_397 := Aside0.mk (bne (g := gb390) hg au117); have NB397_390 := Aside0.mk (ben (g := gb390) hg au117); replace BK390 := Aside0.mk (blk_below (g := gb390) au117 hb); have NB0_397 := Aside0.mk ((by rw [hg]; exact Nat.ne_of_lt (IsS51.lt (show IsS51 w0 _ g s0_0 t395 t396 from by repeat (first | (with_reducible first | exact HI0.out | apply IsS51.alloc | apply IsS51.drewN | apply IsS51.drew | apply IsS51.set_1 | apply IsS51.set_2 | refine IsS51.far ?_ NB0_382.out _ | refine IsS51.far ?_ NB0_383.out _ | refine IsS51.far ?_ NB0_390.out _) | exact HI0.out))) : g ≠ gb397)); have NB397_0 := Aside0.mk ((by rw [hg]; exact Nat.ne_of_gt (IsS51.lt (show IsS51 w0 _ g s0_0 t395 t396 from by repeat (first | (with_reducible first | exact HI0.out | apply IsS51.alloc | apply IsS51.drewN | apply IsS51.drew | apply IsS51.set_1 | apply IsS51.set_2 | refine IsS51.far ?_ NB0_382.out _ | refine IsS51.far ?_ NB0_383.out _ | refine IsS51.far ?_ NB0_390.out _) | exact HI0.out))) : gb397 ≠ g)); replace HI0 := Aside0.mk (IsS51.below au46 hb); clear hb hbox hg; have hnb105 := NB397_382.out; have hnc105 := NB382_397.out; have hnb106 := NB397_383.out; have hnc106 := NB383_397.out; have hnb107 := NB397_390.out; have hnc107 := NB390_397.out; have hnb108 := NB397_0.out; have hnc108 := NB0_397.out; obtain ⟨hcz109_0, hcz109_1, hcz109_2, hcz109_3, hfz109_0, hfz109_1, hfz109_2, hfz109_3⟩ := blkc4 BK397.out) | ((with_reducible refine gate_callee (f := 31) rfl ?_); refine goesL_ (some 11) rfl rfl Tryd.func31 (by kernel_rfl) rfl #[.pointer (some ⟨g, 0, none⟩), .int .i64 4] rfl au100 ?_; (with_reducible refine (spec_l1Cur_pick.calls g s0_0 t395 t396 4 t398 t399 t400 w0 _ ?side1 ?side2 A4.out).mono ?_); (case side1 => repeat (first | (with_reducible first | exact HI0.out | apply IsS51.alloc | apply IsS51.drewN | apply IsS51.drew | apply IsS51.set_1 | apply IsS51.set_2 | refine IsS51.far ?_ NB0_382.out _ | refine IsS51.far ?_ NB0_383.out _ | refine IsS51.far ?_ NB0_390.out _ | refine IsS51.far ?_ NB0_397.out _) | exact HI0.out)); (case side2 => repeat (first | (with_reducible first | exact HB.out | apply below_alloc | apply pw_below_drewN | apply below_drew1 | refine below_set ?_ (IsS51.ge HI0.out) | refine below_set ?_ GE382.out | refine below_set ?_ GE383.out | refine below_set ?_ GE390.out | refine below_set ?_ GE397.out) | exact HB.out)); rintro e w110 ⟨rfl, hi, hb, hk⟩; refine ⟨_, rfl, ?_⟩; replace BK382 := Aside0.mk (KeepBut.blk hk (g' := gb382) (o := .cells #[.int .i64 0, .int .i64 0, .int .i64 0, .bool false] 33 (0, 0)) au32 NB382_0.out (by simp)); replace BK383 := Aside0.mk (KeepBut.blk hk (g' := gb383) (o := .cells #[.int .i64 0, .int .i64 0, .int .i64 0, .bool false] 33 (0, 0)) au33 NB383_0.out (by simp)); replace BK390 := Aside0.mk (KeepBut.blk hk (g' := gb390) (o := .cells #[.int .i64 t384, .int .i64 t385, .int .i64 t386, .bool t387] 33 (0, 0)) au34 NB390_0.out (by simp)); replace BK397 := Aside0.mk (KeepBut.blk hk (g' := gb397) (o := .cells #[.int .i64 t391, .int .i64 t392, .int .i64 t393, .bool t394] 33 (0, 0)) au20 NB397_0.out (by simp)); replace HK := Aside0.mk (KeepBut.trans au47 hk (.inl rfl)); replace HB := Aside0.mk (hb); replace HI0 := Aside0.mk (hi); (try clear hb); (try clear hk); (try clear hi); obtain ⟨hcz111_0, hcz111_1, hcz111_2, hcz111_3, hfz111_0, hfz111_1, hfz111_2, hfz111_3⟩ := blkc4 BK390.out; obtain ⟨hcz112_0, hcz112_1, hcz112_2, hcz112_3, hfz112_0, hfz112_1, hfz112_2, hfz112_3⟩ := blkc4 BK397.out) | ((with_reducible refine gate_callee (f := 36) rfl ?_); refine goesL_ (some 27) rfl rfl Tryd.func36 (by kernel_rfl) rfl #[.pointer (some ⟨g, 0, none⟩), .int .i64 2] rfl au100 ?_; (with_reducible refine (spec_l1Cur_one.calls g s0_0 t399 t400 2 false t405 t406 w0 _ ?side1 ?side2 A65.out).mono ?_); (case side1 => repeat (first | (with_reducible first | exact HI0.out | apply IsS51.alloc | apply IsS51.drewN | apply IsS51.drew | apply IsS51.set_1 | apply IsS51.set_2 | refine IsS51.far ?_ NB0_382.out _ | refine IsS51.far ?_ NB0_383.out _ | refine IsS51.far ?_ NB0_390.out _ | refine IsS51.far ?_ NB0_397.out _) | exact HI0.out)); (case side2 => repeat (first | (with_reducible first | exact HB.out | apply below_alloc | apply pw_below_drewN | apply below_drew1 | refine below_set ?_ (IsS51.ge HI0.out) | refine below_set ?_ GE382.out | refine below_set ?_ GE383.out | refine below_set ?_ GE390.out | refine below_set ?_ GE397.out) | exact HB.out)); rintro e w113 ⟨rfl, hi, hb, hk⟩; refine ⟨_, rfl, ?_⟩; replace BK382 := Aside0.mk (KeepBut.blk hk (g' := gb382) (o := .cells #[.int .i64 0, .int .i64 0, .int .i64 0, .bool false] 33 (0, 0)) au14 NB382_0.out (by simp)); replace BK383 := Aside0.mk (KeepBut.blk hk (g' := gb383) (o := .cells #[.int .i64 0, .int .i64 0, .int .i64 0, .bool false] 33 (0, 0)) au15 NB383_0.out (by simp)); replace BK390 := Aside0.mk (KeepBut.blk hk (g' := gb390) (o := .cells #[.int .i64 t384, .int .i64 t385, .int .i64 t386, .bool t387] 33 (0, 0)) au16 NB390_0.out (by simp)); replace BK397 := Aside0.mk (KeepBut.blk hk (g' := gb397) (o := .cells #[.int .i64 t384, .int .i64 0, .int .i64 0, .bool t387] 33 (0, 0)) au6 NB397_0.out (by simp)); replace HK := Aside0.mk (KeepBut.trans au47 hk (.inl rfl)); replace HB := Aside0.mk (hb); replace HI0 := Aside0.mk (hi); (try clear hb); (try clear hk); (try clear hi)))
    replace BK382 := Aside0.mk (blk_drew BK382.out)
    replace BK383 := Aside0.mk (blk_drew BK383.out)
    replace BK390 := Aside0.mk (blk_drew BK390.out)
    replace BK397 := Aside0.mk (blk_drew BK397.out)
    replace HI0 := Aside0.mk (IsS51.drew HI0.out)
    replace HK := Aside0.mk (keep_drew HK.out)
    replace HB := Aside0.mk (below_drew1 HB.out)
    refine start_ (n := 4) (S := fun w' => w'.cell? ⟨gb390, 0, none⟩ = some (.int .i64 t384) ∧ w'.cell? ⟨gb390, 1, none⟩ = some (.int .i64 t385) ∧ w'.cell? ⟨gb390, 2, none⟩ = some (.int .i64 t386) ∧ w'.cell? ⟨gb390, 3, none⟩ = some (.bool t387) ∧ w'.cell? ⟨gb397, 0, none⟩ = some (.int .i64 t384) ∧ w'.cell? ⟨gb397, 1, none⟩ = some (.int .i64 0) ∧ w'.cell? ⟨gb397, 2, none⟩ = some (.int .i64 0) ∧ w'.cell? ⟨gb397, 3, none⟩ = some (.bool t387)) (ds := []) #[false, false, false, false] (by kernel_rfl) rfl rfl ⟨(blk_cell BK390.out 0).trans rfl, (blk_cell BK390.out 1).trans rfl, (blk_cell BK390.out 2).trans rfl, (blk_cell BK390.out 3).trans rfl, (blk_cell BK397.out 0).trans rfl, (blk_cell BK397.out 1).trans rfl, (blk_cell BK397.out 2).trans rfl, (blk_cell BK397.out 3).trans rfl⟩ (fun hHeld => ?_)
    generalize w113.drew = w114 at BK382 BK383 BK390 BK397 HI0 HK HB hHeld ⊢
    refine take_ (i := 0) (N := some 30) (v := ?_) (a' := ?_) #[true, false, false, false] rfl rfl (by kernel_rfl) (fun _ _ _ h => h) (Or.inl ⟨by rfl, ?_⟩) hHeld ?_ ?_
    rotate_left
    ·
     rintro w' ⟨s0, s1, s2, s3, s4, s5, s6, s7⟩
     go_simp
     with_reducible rfl
    rotate_left
    ·
     simp only [Act.put, List.setIfInBounds_toArray, List.set_cons_zero, List.set_cons_succ, i64_w, i32_w]
     rfl
    refine take_ (i := 1) (N := some 31) (v := ?_) (a' := ?_) #[true, true, false, false] rfl rfl (by kernel_rfl) (fun _ _ _ h => h) (Or.inl ⟨by rfl, ?_⟩) hHeld ?_ ?_
    rotate_left
    ·
     rintro w' ⟨s0, s1, s2, s3, s4, s5, s6, s7⟩
     go_simp
     with_reducible rfl
    rotate_left
    ·
     simp only [Act.put, List.setIfInBounds_toArray, List.set_cons_zero, List.set_cons_succ, i64_w, i32_w]
     rfl
    refine one_ (i := 2) (N := none) #[true, true, true, false] rfl rfl (by kernel_rfl) (by decide) (fun K hK => ?_)
    have hs115 : w114.cell? ⟨gb382, 0, none⟩ = some (.int .i64 0) := (blk_cell BK382.out 0).trans rfl
    have hfs115 := blk_frozen BK382.out 0
    have hns115_1 := NB383_382.out
    have hns115_2 := NB390_382.out
    have hns115_3 := NB397_382.out
    have hms115_1 := NB382_383.out
    have hms115_2 := NB382_390.out
    have hms115_3 := NB382_397.out
    have hs116 : w114.cell? ⟨gb382, 1, none⟩ = some (.int .i64 0) := (blk_cell BK382.out 1).trans rfl
    have hfs116 := blk_frozen BK382.out 1
    have hns116_1 := NB383_382.out
    have hns116_2 := NB390_382.out
    have hns116_3 := NB397_382.out
    have hms116_1 := NB382_383.out
    have hms116_2 := NB382_390.out
    have hms116_3 := NB382_397.out
    have hs117 : w114.cell? ⟨gb382, 2, none⟩ = some (.int .i64 0) := (blk_cell BK382.out 2).trans rfl
    have hfs117 := blk_frozen BK382.out 2
    have hns117_1 := NB383_382.out
    have hns117_2 := NB390_382.out
    have hns117_3 := NB397_382.out
    have hms117_1 := NB382_383.out
    have hms117_2 := NB382_390.out
    have hms117_3 := NB382_397.out
    have hs118 : w114.cell? ⟨gb382, 3, none⟩ = some (.bool false) := (blk_cell BK382.out 3).trans rfl
    have hfs118 := blk_frozen BK382.out 3
    have hns118_1 := NB383_382.out
    have hns118_2 := NB390_382.out
    have hns118_3 := NB397_382.out
    have hms118_1 := NB382_383.out
    have hms118_2 := NB382_390.out
    have hms118_3 := NB382_397.out
    refine skip_ (w1 := ?_) (by rfl) rfl ?_ ?_
    rotate_left
    ·
     go_simp
     rfl
    refine hK.out _ _ ⟨((cell_far (p := ⟨gb382, _, none⟩) NB390_382.out _).trans (((cell_far (p := ⟨gb382, _, none⟩) NB390_382.out _).trans (((cell_far (p := ⟨gb382, _, none⟩) NB390_382.out _).trans (((cell_far (p := ⟨gb382, _, none⟩) NB390_382.out _).trans (hHeld.1)))))))), ((cell_far (p := ⟨gb382, _, none⟩) NB390_382.out _).trans (((cell_far (p := ⟨gb382, _, none⟩) NB390_382.out _).trans (((cell_far (p := ⟨gb382, _, none⟩) NB390_382.out _).trans (((cell_far (p := ⟨gb382, _, none⟩) NB390_382.out _).trans (hHeld.2.1)))))))), ((cell_far (p := ⟨gb382, _, none⟩) NB390_382.out _).trans (((cell_far (p := ⟨gb382, _, none⟩) NB390_382.out _).trans (((cell_far (p := ⟨gb382, _, none⟩) NB390_382.out _).trans (((cell_far (p := ⟨gb382, _, none⟩) NB390_382.out _).trans (hHeld.2.2.1)))))))), ((cell_far (p := ⟨gb382, _, none⟩) NB390_382.out _).trans (((cell_far (p := ⟨gb382, _, none⟩) NB390_382.out _).trans (((cell_far (p := ⟨gb382, _, none⟩) NB390_382.out _).trans (((cell_far (p := ⟨gb382, _, none⟩) NB390_382.out _).trans (hHeld.2.2.2.1)))))))), ((cell_far (p := ⟨gb382, _, none⟩) NB397_382.out _).trans (((cell_far (p := ⟨gb382, _, none⟩) NB397_382.out _).trans (((cell_far (p := ⟨gb382, _, none⟩) NB397_382.out _).trans (((cell_far (p := ⟨gb382, _, none⟩) NB397_382.out _).trans (hHeld.2.2.2.2.1)))))))), ((cell_far (p := ⟨gb382, _, none⟩) NB397_382.out _).trans (((cell_far (p := ⟨gb382, _, none⟩) NB397_382.out _).trans (((cell_far (p := ⟨gb382, _, none⟩) NB397_382.out _).trans (((cell_far (p := ⟨gb382, _, none⟩) NB397_382.out _).trans (hHeld.2.2.2.2.2.1)))))))), ((cell_far (p := ⟨gb382, _, none⟩) NB397_382.out _).trans (((cell_far (p := ⟨gb382, _, none⟩) NB397_382.out _).trans (((cell_far (p := ⟨gb382, _, none⟩) NB397_382.out _).trans (((cell_far (p := ⟨gb382, _, none⟩) NB397_382.out _).trans (hHeld.2.2.2.2.2.2.1)))))))), ((cell_far (p := ⟨gb382, _, none⟩) NB397_382.out _).trans (((cell_far (p := ⟨gb382, _, none⟩) NB397_382.out _).trans (((cell_far (p := ⟨gb382, _, none⟩) NB397_382.out _).trans (((cell_far (p := ⟨gb382, _, none⟩) NB397_382.out _).trans (hHeld.2.2.2.2.2.2.2))))))))⟩ (fun hHeld => ?_)
    clear hK K
    refine one_ (i := 3) (N := none) #[true, true, true, true] rfl rfl (by kernel_rfl) (by decide) (fun K hK => ?_)
    have hs119 : w114.cell? ⟨gb383, 0, none⟩ = some (.int .i64 0) := (blk_cell BK383.out 0).trans rfl
    have hfs119 := blk_frozen BK383.out 0
    have hns119_0 := NB382_383.out
    have hns119_2 := NB390_383.out
    have hns119_3 := NB397_383.out
    have hms119_0 := NB383_382.out
    have hms119_2 := NB383_390.out
    have hms119_3 := NB383_397.out
    have hs120 : w114.cell? ⟨gb383, 1, none⟩ = some (.int .i64 0) := (blk_cell BK383.out 1).trans rfl
    have hfs120 := blk_frozen BK383.out 1
    have hns120_0 := NB382_383.out
    have hns120_2 := NB390_383.out
    have hns120_3 := NB397_383.out
    have hms120_0 := NB383_382.out
    have hms120_2 := NB383_390.out
    have hms120_3 := NB383_397.out
    have hs121 : w114.cell? ⟨gb383, 2, none⟩ = some (.int .i64 0) := (blk_cell BK383.out 2).trans rfl
    have hfs121 := blk_frozen BK383.out 2
    have hns121_0 := NB382_383.out
    have hns121_2 := NB390_383.out
    have hns121_3 := NB397_383.out
    have hms121_0 := NB383_382.out
    have hms121_2 := NB383_390.out
    have hms121_3 := NB383_397.out
    have hs122 : w114.cell? ⟨gb383, 3, none⟩ = some (.bool false) := (blk_cell BK383.out 3).trans rfl
    have hfs122 := blk_frozen BK383.out 3
    have hns122_0 := NB382_383.out
    have hns122_2 := NB390_383.out
    have hns122_3 := NB397_383.out
    have hms122_0 := NB383_382.out
    have hms122_2 := NB383_390.out
    have hms122_3 := NB383_397.out
    refine skip_ (w1 := ?_) (by rfl) rfl ?_ ?_
    rotate_left
    ·
     go_simp
     rfl
    refine hK.out _ _ ⟨((cell_far (p := ⟨gb383, _, none⟩) NB390_383.out _).trans (((cell_far (p := ⟨gb383, _, none⟩) NB390_383.out _).trans (((cell_far (p := ⟨gb383, _, none⟩) NB390_383.out _).trans (((cell_far (p := ⟨gb383, _, none⟩) NB390_383.out _).trans (hHeld.1)))))))), ((cell_far (p := ⟨gb383, _, none⟩) NB390_383.out _).trans (((cell_far (p := ⟨gb383, _, none⟩) NB390_383.out _).trans (((cell_far (p := ⟨gb383, _, none⟩) NB390_383.out _).trans (((cell_far (p := ⟨gb383, _, none⟩) NB390_383.out _).trans (hHeld.2.1)))))))), ((cell_far (p := ⟨gb383, _, none⟩) NB390_383.out _).trans (((cell_far (p := ⟨gb383, _, none⟩) NB390_383.out _).trans (((cell_far (p := ⟨gb383, _, none⟩) NB390_383.out _).trans (((cell_far (p := ⟨gb383, _, none⟩) NB390_383.out _).trans (hHeld.2.2.1)))))))), ((cell_far (p := ⟨gb383, _, none⟩) NB390_383.out _).trans (((cell_far (p := ⟨gb383, _, none⟩) NB390_383.out _).trans (((cell_far (p := ⟨gb383, _, none⟩) NB390_383.out _).trans (((cell_far (p := ⟨gb383, _, none⟩) NB390_383.out _).trans (hHeld.2.2.2.1)))))))), ((cell_far (p := ⟨gb383, _, none⟩) NB397_383.out _).trans (((cell_far (p := ⟨gb383, _, none⟩) NB397_383.out _).trans (((cell_far (p := ⟨gb383, _, none⟩) NB397_383.out _).trans (((cell_far (p := ⟨gb383, _, none⟩) NB397_383.out _).trans (hHeld.2.2.2.2.1)))))))), ((cell_far (p := ⟨gb383, _, none⟩) NB397_383.out _).trans (((cell_far (p := ⟨gb383, _, none⟩) NB397_383.out _).trans (((cell_far (p := ⟨gb383, _, none⟩) NB397_383.out _).trans (((cell_far (p := ⟨gb383, _, none⟩) NB397_383.out _).trans (hHeld.2.2.2.2.2.1)))))))), ((cell_far (p := ⟨gb383, _, none⟩) NB397_383.out _).trans (((cell_far (p := ⟨gb383, _, none⟩) NB397_383.out _).trans (((cell_far (p := ⟨gb383, _, none⟩) NB397_383.out _).trans (((cell_far (p := ⟨gb383, _, none⟩) NB397_383.out _).trans (hHeld.2.2.2.2.2.2.1)))))))), ((cell_far (p := ⟨gb383, _, none⟩) NB397_383.out _).trans (((cell_far (p := ⟨gb383, _, none⟩) NB397_383.out _).trans (((cell_far (p := ⟨gb383, _, none⟩) NB397_383.out _).trans (((cell_far (p := ⟨gb383, _, none⟩) NB397_383.out _).trans (hHeld.2.2.2.2.2.2.2))))))))⟩ (fun hHeld => ?_)
    clear hK K
    refine done_ (by kernel_rfl) ?_
    try go_wp2
    refine bodyPost_ret (results_cc rfl _ _ gb382 gb383 33 33 #[.int .i64 t384, .int .i64 t385, .int .i64 t386, .bool t387] #[.int .i64 t384, .int .i64 0, .int .i64 0, .bool t387] (0, 0) (0, 0) _ _ rfl au1 Tryd.underlying33 rfl (by kernel_rfl) rfl au5 Tryd.underlying33 rfl (by kernel_rfl)) rfl ?_
    exact ax11
  ·
   rw [if_neg c64] at H
   have c64b0 : (t398 == 1) = false := beq_eq_false_iff_ne.mpr c64
   have c64b1 : (t398 != 1) = true := bne_iff_ne.mpr c64
   by_cases c123 : t398 = 2
   ·
    rw [if_pos c123] at H
    have c123b0 : (t398 == 2) = true := beq_iff_eq.mpr c123
    have c123b1 : (t398 != 2) = false := bne_eq_false_iff_eq.mpr c123
    clear c123
    replace H := Option.bind_eq_some_iff.mp H
    obtain ⟨⟨t407, t408, t409⟩, A1240, H⟩ := H
    replace H : (if t407 = true then (some (t384, 0, 0, true, t384, t385, t386, t387, t408, t409)) else (some (t384, t385, t386, t387, t384, 0, 0, true, t408, t409))) = some (r1, r2, r3, r4, r5, r6, r7, r8, r9, r10) := H
    have A124 := Aside0.mk A1240
    clear A1240
    by_cases c125 : t407 = true
    ·
     subst c125
     replace H := (if_pos rfl).symm.trans H
     simp only [Option.some.injEq, Prod.mk.injEq] at H
     obtain ⟨rfl, rfl, rfl, rfl, rfl, rfl, rfl, rfl, rfl, rfl⟩ := H
     go_enter Tryd.func56, Tryd.ntmps56
     try go_wp2_with (first | ((with_reducible refine gate_dst (N := 2) rfl ?_); refine box_event ?hg (N := 2) ?hd (cs := #[.int .i64 0, .int .i64 0, .int .i64 0, .bool false]) (t := 33) ?hr ?_; (case hd => rfl); (case hg => rfl); (case hr => first | (go_simp; done) | (go_simp; rfl)); intro gb382 hg w126 hbox hb; replace HB := Aside0.mk (below_step au82 hb); have BK382 := Aside0.mk (hbox); have GW382 := Aside0.mk ((by rw [hg]; exact (keep_size (w := w) (g := g) (row := none) au99) : w.heap.size ≤ gb382)); have GE382 := Aside0.mk ((Nat.le_trans HW0.out (by rw [hg]; exact (keep_size (w := w) (g := g) (row := none) au99) : w.heap.size ≤ gb382) : w0.heap.size ≤ gb382)); replace HK := Aside0.mk (KeepBut.trans au99 (KeepBut.of_below hb g none) (.inl rfl)); have NB0_382 := Aside0.mk ((by rw [hg]; exact Nat.ne_of_lt (IsS51.lt (show IsS51 w0 _ g s0_0 s0_1 s0_2 from by repeat (first | (with_reducible first | exact HI0.out | apply IsS51.alloc | apply IsS51.drewN | apply IsS51.drew | apply IsS51.set_1 | apply IsS51.set_2) | exact HI0.out))) : g ≠ gb382)); have NB382_0 := Aside0.mk ((by rw [hg]; exact Nat.ne_of_gt (IsS51.lt (show IsS51 w0 _ g s0_0 s0_1 s0_2 from by repeat (first | (with_reducible first | exact HI0.out | apply IsS51.alloc | apply IsS51.drewN | apply IsS51.drew | apply IsS51.set_1 | apply IsS51.set_2) | exact HI0.out))) : gb382 ≠ g)); replace HI0 := Aside0.mk (IsS51.below au83 hb); clear hb hbox hg) | ((with_reducible refine gate_dst (N := 3) rfl ?_); refine box_event ?hg (N := 3) ?hd (cs := #[.int .i64 0, .int .i64 0, .int .i64 0, .bool false]) (t := 33) ?hr ?_; (case hd => rfl); (case hg => rfl); (case hr => first | (go_simp; done) | (go_simp; rfl)); intro gb383 hg w127 hbox hb; replace HB := Aside0.mk (below_step au67 hb); have BK383 := Aside0.mk (hbox); have GW383 := Aside0.mk ((by rw [hg]; exact (keep_size (w := w) (g := g) (row := none) au79) : w.heap.size ≤ gb383)); have GE383 := Aside0.mk ((Nat.le_trans HW0.out (by rw [hg]; exact (keep_size (w := w) (g := g) (row := none) au79) : w.heap.size ≤ gb383) : w0.heap.size ≤ gb383)); replace HK := Aside0.mk (KeepBut.trans au79 (KeepBut.of_below hb g none) (.inl rfl)); have NB382_383 := Aside0.mk (bne (g := gb382) hg au115); have NB383_382 := Aside0.mk (ben (g := gb382) hg au115); replace BK382 := Aside0.mk (blk_below (g := gb382) au115 hb); have NB0_383 := Aside0.mk ((by rw [hg]; exact Nat.ne_of_lt (IsS51.lt (show IsS51 w0 _ g s0_0 s0_1 s0_2 from by repeat (first | (with_reducible first | exact HI0.out | apply IsS51.alloc | apply IsS51.drewN | apply IsS51.drew | apply IsS51.set_1 | apply IsS51.set_2 | refine IsS51.far ?_ NB0_382.out _) | exact HI0.out))) : g ≠ gb383)); have NB383_0 := Aside0.mk ((by rw [hg]; exact Nat.ne_of_gt (IsS51.lt (show IsS51 w0 _ g s0_0 s0_1 s0_2 from by repeat (first | (with_reducible first | exact HI0.out | apply IsS51.alloc | apply IsS51.drewN | apply IsS51.drew | apply IsS51.set_1 | apply IsS51.set_2 | refine IsS51.far ?_ NB0_382.out _) | exact HI0.out))) : gb383 ≠ g)); replace HI0 := Aside0.mk (IsS51.below au64 hb); clear hb hbox hg) | ((with_reducible refine gate_callee (f := 72) rfl ?_); refine goesL_ (some 7) rfl rfl Tryd.func72 (by kernel_rfl) rfl #[.pointer (some ⟨g, 0, none⟩)] rfl au100 ?_; (with_reducible refine (spec_l1Cur_anyDate.calls g s0_0 s0_1 s0_2 t384 t385 t386 t387 t388 t389 w0 _ ?side1 ?side2 A2.out).mono ?_); (case side1 => repeat (first | (with_reducible first | exact HI0.out | apply IsS51.alloc | apply IsS51.drewN | apply IsS51.drew | apply IsS51.set_1 | apply IsS51.set_2 | refine IsS51.far ?_ NB0_382.out _ | refine IsS51.far ?_ NB0_383.out _) | exact HI0.out)); (case side2 => repeat (first | (with_reducible first | exact HB.out | apply below_alloc | apply pw_below_drewN | apply below_drew1 | refine below_set ?_ (IsS51.ge HI0.out) | refine below_set ?_ GE382.out | refine below_set ?_ GE383.out) | exact HB.out)); rintro e w128 ⟨rfl, hi, hb, hk⟩; refine ⟨_, rfl, ?_⟩; replace BK382 := Aside0.mk (KeepBut.blk hk (g' := gb382) (o := .cells #[.int .i64 0, .int .i64 0, .int .i64 0, .bool false] 33 (0, 0)) au115 NB382_0.out (by simp)); replace BK383 := Aside0.mk (KeepBut.blk hk (g' := gb383) (o := .cells #[.int .i64 0, .int .i64 0, .int .i64 0, .bool false] 33 (0, 0)) au116 NB383_0.out (by simp)); replace HK := Aside0.mk (KeepBut.trans au61 hk (.inl rfl)); replace HB := Aside0.mk (hb); replace HI0 := Aside0.mk (hi); (try clear hb); (try clear hk); (try clear hi)) | ((with_reducible refine gate_dst (N := 4) rfl ?_); refine box_event ?hg (N := 4) ?hd (cs := #[.int .i64 0, .int .i64 0, .int .i64 0, .bool false]) (t := 33) ?hr ?_; (case hd => rfl); (case hg => rfl); (case hr => first | (go_simp; done) | (go_simp; rfl)); intro gb390 hg w129 hbox hb; replace HB := Aside0.mk (below_step au56 hb); have BK390 := Aside0.mk (hbox); have GW390 := Aside0.mk ((by rw [hg]; exact (keep_size (w := w) (g := g) (row := none) au61) : w.heap.size ≤ gb390)); have GE390 := Aside0.mk ((Nat.le_trans HW0.out (by rw [hg]; exact (keep_size (w := w) (g := g) (row := none) au61) : w.heap.size ≤ gb390) : w0.heap.size ≤ gb390)); replace HK := Aside0.mk (KeepBut.trans au61 (KeepBut.of_below hb g none) (.inl rfl)); have NB382_390 := Aside0.mk (bne (g := gb382) hg au115); have NB390_382 := Aside0.mk (ben (g := gb382) hg au115); replace BK382 := Aside0.mk (blk_below (g := gb382) au115 hb); have NB383_390 := Aside0.mk (bne (g := gb383) hg au116); have NB390_383 := Aside0.mk (ben (g := gb383) hg au116); replace BK383 := Aside0.mk (blk_below (g := gb383) au116 hb); have NB0_390 := Aside0.mk ((by rw [hg]; exact Nat.ne_of_lt (IsS51.lt (show IsS51 w0 _ g s0_0 t388 t389 from by repeat (first | (with_reducible first | exact HI0.out | apply IsS51.alloc | apply IsS51.drewN | apply IsS51.drew | apply IsS51.set_1 | apply IsS51.set_2 | refine IsS51.far ?_ NB0_382.out _ | refine IsS51.far ?_ NB0_383.out _) | exact HI0.out))) : g ≠ gb390)); have NB390_0 := Aside0.mk ((by rw [hg]; exact Nat.ne_of_gt (IsS51.lt (show IsS51 w0 _ g s0_0 t388 t389 from by repeat (first | (with_reducible first | exact HI0.out | apply IsS51.alloc | apply IsS51.drewN | apply IsS51.drew | apply IsS51.set_1 | apply IsS51.set_2 | refine IsS51.far ?_ NB0_382.out _ | refine IsS51.far ?_ NB0_383.out _) | exact HI0.out))) : gb390 ≠ g)); replace HI0 := Aside0.mk (IsS51.below au54 hb); clear hb hbox hg; have hnb130 := NB390_382.out; have hnc130 := NB382_390.out; have hnb131 := NB390_383.out; have hnc131 := NB383_390.out; have hnb132 := NB390_0.out; have hnc132 := NB0_390.out; obtain ⟨hcz133_0, hcz133_1, hcz133_2, hcz133_3, hfz133_0, hfz133_1, hfz133_2, hfz133_3⟩ := blkc4 BK390.out) | ((with_reducible refine gate_callee (f := 72) rfl ?_); refine goesL_ (some 9) rfl rfl Tryd.func72 (by kernel_rfl) rfl #[.pointer (some ⟨g, 0, none⟩)] rfl au100 ?_; (with_reducible refine (spec_l1Cur_anyDate.calls g s0_0 t388 t389 t391 t392 t393 t394 t395 t396 w0 _ ?side1 ?side2 A3.out).mono ?_); (case side1 => repeat (first | (with_reducible first | exact HI0.out | apply IsS51.alloc | apply IsS51.drewN | apply IsS51.drew | apply IsS51.set_1 | apply IsS51.set_2 | refine IsS51.far ?_ NB0_382.out _ | refine IsS51.far ?_ NB0_383.out _ | refine IsS51.far ?_ NB0_390.out _) | exact HI0.out)); (case side2 => repeat (first | (with_reducible first | exact HB.out | apply below_alloc | apply pw_below_drewN | apply below_drew1 | refine below_set ?_ (IsS51.ge HI0.out) | refine below_set ?_ GE382.out | refine below_set ?_ GE383.out | refine below_set ?_ GE390.out) | exact HB.out)); rintro e w134 ⟨rfl, hi, hb, hk⟩; refine ⟨_, rfl, ?_⟩; replace BK382 := Aside0.mk (KeepBut.blk hk (g' := gb382) (o := .cells #[.int .i64 0, .int .i64 0, .int .i64 0, .bool false] 33 (0, 0)) au30 NB382_0.out (by simp)); replace BK383 := Aside0.mk (KeepBut.blk hk (g' := gb383) (o := .cells #[.int .i64 0, .int .i64 0, .int .i64 0, .bool false] 33 (0, 0)) au31 NB383_0.out (by simp)); replace BK390 := Aside0.mk (KeepBut.blk hk (g' := gb390) (o := .cells #[.int .i64 t384, .int .i64 t385, .int .i64 t386, .bool t387] 33 (0, 0)) au19 NB390_0.out (by simp)); replace HK := Aside0.mk (KeepBut.trans au52 hk (.inl rfl)); replace HB := Aside0.mk (hb); replace HI0 := Aside0.mk (hi); (try clear hb); (try clear hk); (try clear hi)) | ((with_reducible refine gate_dst (N := 5) rfl ?_); refine box_event ?hg (N := 5) ?hd (cs := #[.int .i64 0, .int .i64 0, .int .i64 0, .bool false]) (t := 33) ?hr ?_; (case hd => rfl); (case hg => rfl); (case hr => first | (go_simp; done) | (go_simp; rfl)); intro gb397 hg w135 hbox hb; replace HB := Aside0.mk (below_step au48 hb); have BK397 := Aside0.mk (hbox); have GW397 := Aside0.mk ((by rw [hg]; exact (keep_size (w := w) (g := g) (row := none) au52) : w.heap.size ≤ gb397)); have GE397 := Aside0.mk ((Nat.le_trans HW0.out (by rw [hg]; exact (keep_size (w := w) (g := g) (row := none) au52) : w.heap.size ≤ gb397) : w0.heap.size ≤ gb397)); replace HK := Aside0.mk (KeepBut.trans au52 (KeepBut.of_below hb g none) (.inl rfl)); have NB382_397 := Aside0.mk (bne (g := gb382) hg au115); have NB397_382 := Aside0.mk (ben (g := gb382) hg au115); replace BK382 := Aside0.mk (blk_below (g := gb382) au115 hb); have NB383_397 := Aside0.mk (bne (g := gb383) hg au116); have NB397_383 := Aside0.mk (ben (g := gb383) hg au116); replace BK383 := Aside0.mk (blk_below (g := gb383) au116 hb); have NB390_397 := Aside0.mk (bne (g := gb390) hg au117); have NB397_390 := Aside0.mk (ben (g := gb390) hg au117); replace BK390 := Aside0.mk (blk_below (g := gb390) au117 hb); have NB0_397 := Aside0.mk ((by rw [hg]; exact Nat.ne_of_lt (IsS51.lt (show IsS51 w0 _ g s0_0 t395 t396 from by repeat (first | (with_reducible first | exact HI0.out | apply IsS51.alloc | apply IsS51.drewN | apply IsS51.drew | apply IsS51.set_1 | apply IsS51.set_2 | refine IsS51.far ?_ NB0_382.out _ | refine IsS51.far ?_ NB0_383.out _ | refine IsS51.far ?_ NB0_390.out _) | exact HI0.out))) : g ≠ gb397)); have NB397_0 := Aside0.mk ((by rw [hg]; exact Nat.ne_of_gt (IsS51.lt (show IsS51 w0 _ g s0_0 t395 t396 from by repeat (first | (with_reducible first | exact HI0.out | apply IsS51.alloc | apply IsS51.drewN | apply IsS51.drew | apply IsS51.set_1 | apply IsS51.set_2 | refine IsS51.far ?_ NB0_382.out _ | refine IsS51.far ?_ NB0_383.out _ | refine IsS51.far ?_ NB0_390.out _) | exact HI0.out))) : gb397 ≠ g)); replace HI0 := Aside0.mk (IsS51.below au46 hb); clear hb hbox hg; have hnb136 := NB397_382.out; have hnc136 := NB382_397.out; have hnb137 := NB397_383.out; have hnc137 := NB383_397.out; have hnb138 := NB397_390.out; have hnc138 := NB390_397.out; have hnb139 := NB397_0.out; have hnc139 := NB0_397.out; obtain ⟨hcz140_0, hcz140_1, hcz140_2, hcz140_3, hfz140_0, hfz140_1, hfz140_2, hfz140_3⟩ := blkc4 BK397.out) | ((with_reducible refine gate_callee (f := 31) rfl ?_); refine goesL_ (some 11) rfl rfl Tryd.func31 (by kernel_rfl) rfl #[.pointer (some ⟨g, 0, none⟩), .int .i64 4] rfl au100 ?_; (with_reducible refine (spec_l1Cur_pick.calls g s0_0 t395 t396 4 t398 t399 t400 w0 _ ?side1 ?side2 A4.out).mono ?_); (case side1 => repeat (first | (with_reducible first | exact HI0.out | apply IsS51.alloc | apply IsS51.drewN | apply IsS51.drew | apply IsS51.set_1 | apply IsS51.set_2 | refine IsS51.far ?_ NB0_382.out _ | refine IsS51.far ?_ NB0_383.out _ | refine IsS51.far ?_ NB0_390.out _ | refine IsS51.far ?_ NB0_397.out _) | exact HI0.out)); (case side2 => repeat (first | (with_reducible first | exact HB.out | apply below_alloc | apply pw_below_drewN | apply below_drew1 | refine below_set ?_ (IsS51.ge HI0.out) | refine below_set ?_ GE382.out | refine below_set ?_ GE383.out | refine below_set ?_ GE390.out | refine below_set ?_ GE397.out) | exact HB.out)); rintro e w141 ⟨rfl, hi, hb, hk⟩; refine ⟨_, rfl, ?_⟩; replace BK382 := Aside0.mk (KeepBut.blk hk (g' := gb382) (o := .cells #[.int .i64 0, .int .i64 0, .int .i64 0, .bool false] 33 (0, 0)) au32 NB382_0.out (by simp)); replace BK383 := Aside0.mk (KeepBut.blk hk (g' := gb383) (o := .cells #[.int .i64 0, .int .i64 0, .int .i64 0, .bool false] 33 (0, 0)) au33 NB383_0.out (by simp)); replace BK390 := Aside0.mk (KeepBut.blk hk (g' := gb390) (o := .cells #[.int .i64 t384, .int .i64 t385, .int .i64 t386, .bool t387] 33 (0, 0)) au34 NB390_0.out (by simp)); replace BK397 := Aside0.mk (KeepBut.blk hk (g' := gb397) (o := .cells #[.int .i64 t391, .int .i64 t392, .int .i64 t393, .bool t394] 33 (0, 0)) au20 NB397_0.out (by simp)); replace HK := Aside0.mk (KeepBut.trans au47 hk (.inl rfl)); replace HB := Aside0.mk (hb); replace HI0 := Aside0.mk (hi); (try clear hb); (try clear hk); (try clear hi); obtain ⟨hcz142_0, hcz142_1, hcz142_2, hcz142_3, hfz142_0, hfz142_1, hfz142_2, hfz142_3⟩ := blkc4 BK390.out; obtain ⟨hcz143_0, hcz143_1, hcz143_2, hcz143_3, hfz143_0, hfz143_1, hfz143_2, hfz143_3⟩ := blkc4 BK397.out) | ((with_reducible refine gate_callee (f := 36) rfl ?_); refine goesL_ (some 27) rfl rfl Tryd.func36 (by kernel_rfl) rfl #[.pointer (some ⟨g, 0, none⟩), .int .i64 2] rfl au100 ?_; (with_reducible refine (spec_l1Cur_one.calls g s0_0 t399 t400 2 true t408 t409 w0 _ ?side1 ?side2 A124.out).mono ?_); (case side1 => repeat (first | (with_reducible first | exact HI0.out | apply IsS51.alloc | apply IsS51.drewN | apply IsS51.drew | apply IsS51.set_1 | apply IsS51.set_2 | refine IsS51.far ?_ NB0_382.out _ | refine IsS51.far ?_ NB0_383.out _ | refine IsS51.far ?_ NB0_390.out _ | refine IsS51.far ?_ NB0_397.out _) | exact HI0.out)); (case side2 => repeat (first | (with_reducible first | exact HB.out | apply below_alloc | apply pw_below_drewN | apply below_drew1 | refine below_set ?_ (IsS51.ge HI0.out) | refine below_set ?_ GE382.out | refine below_set ?_ GE383.out | refine below_set ?_ GE390.out | refine below_set ?_ GE397.out) | exact HB.out)); rintro e w144 ⟨rfl, hi, hb, hk⟩; refine ⟨_, rfl, ?_⟩; replace BK382 := Aside0.mk (KeepBut.blk hk (g' := gb382) (o := .cells #[.int .i64 0, .int .i64 0, .int .i64 0, .bool false] 33 (0, 0)) au32 NB382_0.out (by simp)); replace BK383 := Aside0.mk (KeepBut.blk hk (g' := gb383) (o := .cells #[.int .i64 0, .int .i64 0, .int .i64 0, .bool false] 33 (0, 0)) au33 NB383_0.out (by simp)); replace BK390 := Aside0.mk (KeepBut.blk hk (g' := gb390) (o := .cells #[.int .i64 t384, .int .i64 t385, .int .i64 t386, .bool t387] 33 (0, 0)) au34 NB390_0.out (by simp)); replace BK397 := Aside0.mk (KeepBut.blk hk (g' := gb397) (o := .cells #[.int .i64 t384, .int .i64 0, .int .i64 0, .bool true] 33 (0, 0)) au17 NB397_0.out (by simp)); replace HK := Aside0.mk (KeepBut.trans au47 hk (.inl rfl)); replace HB := Aside0.mk (hb); replace HI0 := Aside0.mk (hi); (try clear hb); (try clear hk); (try clear hi)))
     replace BK382 := Aside0.mk (blk_drew BK382.out)
     replace BK383 := Aside0.mk (blk_drew BK383.out)
     replace BK390 := Aside0.mk (blk_drew BK390.out)
     replace BK397 := Aside0.mk (blk_drew BK397.out)
     replace HI0 := Aside0.mk (IsS51.drew HI0.out)
     replace HK := Aside0.mk (keep_drew HK.out)
     replace HB := Aside0.mk (below_drew1 HB.out)
     refine start_ (n := 4) (S := fun w' => w'.cell? ⟨gb397, 0, none⟩ = some (.int .i64 t384) ∧ w'.cell? ⟨gb397, 1, none⟩ = some (.int .i64 0) ∧ w'.cell? ⟨gb397, 2, none⟩ = some (.int .i64 0) ∧ w'.cell? ⟨gb397, 3, none⟩ = some (.bool true) ∧ w'.cell? ⟨gb390, 0, none⟩ = some (.int .i64 t384) ∧ w'.cell? ⟨gb390, 1, none⟩ = some (.int .i64 t385) ∧ w'.cell? ⟨gb390, 2, none⟩ = some (.int .i64 t386) ∧ w'.cell? ⟨gb390, 3, none⟩ = some (.bool t387)) (ds := []) #[false, false, false, false] (by kernel_rfl) rfl rfl ⟨(blk_cell BK397.out 0).trans rfl, (blk_cell BK397.out 1).trans rfl, (blk_cell BK397.out 2).trans rfl, (blk_cell BK397.out 3).trans rfl, (blk_cell BK390.out 0).trans rfl, (blk_cell BK390.out 1).trans rfl, (blk_cell BK390.out 2).trans rfl, (blk_cell BK390.out 3).trans rfl⟩ (fun hHeld => ?_)
     generalize w144.drew = w145 at BK382 BK383 BK390 BK397 HI0 HK HB hHeld ⊢
     refine take_ (i := 0) (N := some 28) (v := ?_) (a' := ?_) #[true, false, false, false] rfl rfl (by kernel_rfl) (fun _ _ _ h => h) (Or.inl ⟨by rfl, ?_⟩) hHeld ?_ ?_
     rotate_left
     ·
      rintro w' ⟨s0, s1, s2, s3, s4, s5, s6, s7⟩
      go_simp
      with_reducible rfl
     rotate_left
     ·
      simp only [Act.put, List.setIfInBounds_toArray, List.set_cons_zero, List.set_cons_succ, i64_w, i32_w]
      rfl
     refine take_ (i := 1) (N := some 29) (v := ?_) (a' := ?_) #[true, true, false, false] rfl rfl (by kernel_rfl) (fun _ _ _ h => h) (Or.inl ⟨by rfl, ?_⟩) hHeld ?_ ?_
     rotate_left
     ·
      rintro w' ⟨s0, s1, s2, s3, s4, s5, s6, s7⟩
      go_simp
      with_reducible rfl
     rotate_left
     ·
      simp only [Act.put, List.setIfInBounds_toArray, List.set_cons_zero, List.set_cons_succ, i64_w, i32_w]
      rfl
     refine one_ (i := 2) (N := none) #[true, true, true, false] rfl rfl (by kernel_rfl) (by decide) (fun K hK => ?_)
     have hs146 : w145.cell? ⟨gb382, 0, none⟩ = some (.int .i64 0) := (blk_cell BK382.out 0).trans rfl
     have hfs146 := blk_frozen BK382.out 0
     have hns146_1 := NB383_382.out
     have hns146_2 := NB390_382.out
     have hns146_3 := NB397_382.out
     have hms146_1 := NB382_383.out
     have hms146_2 := NB382_390.out
     have hms146_3 := NB382_397.out
     have hs147 : w145.cell? ⟨gb382, 1, none⟩ = some (.int .i64 0) := (blk_cell BK382.out 1).trans rfl
     have hfs147 := blk_frozen BK382.out 1
     have hns147_1 := NB383_382.out
     have hns147_2 := NB390_382.out
     have hns147_3 := NB397_382.out
     have hms147_1 := NB382_383.out
     have hms147_2 := NB382_390.out
     have hms147_3 := NB382_397.out
     have hs148 : w145.cell? ⟨gb382, 2, none⟩ = some (.int .i64 0) := (blk_cell BK382.out 2).trans rfl
     have hfs148 := blk_frozen BK382.out 2
     have hns148_1 := NB383_382.out
     have hns148_2 := NB390_382.out
     have hns148_3 := NB397_382.out
     have hms148_1 := NB382_383.out
     have hms148_2 := NB382_390.out
     have hms148_3 := NB382_397.out
     have hs149 : w145.cell? ⟨gb382, 3, none⟩ = some (.bool false) := (blk_cell BK382.out 3).trans rfl
     have hfs149 := blk_frozen BK382.out 3
     have hns149_1 := NB383_382.out
     have hns149_2 := NB390_382.out
     have hns149_3 := NB397_382.out
     have hms149_1 := NB382_383.out
     have hms149_2 := NB382_390.out
     have hms149_3 := NB382_397.out
     refine skip_ (w1 := ?_) (by rfl) rfl ?_ ?_
     rotate_left
     ·
      go_simp
      rfl
     refine hK.out _ _ ⟨((cell_far (p := ⟨gb382, _, none⟩) NB397_382.out _).trans (((cell_far (p := ⟨gb382, _, none⟩) NB397_382.out _).trans (((cell_far (p := ⟨gb382, _, none⟩) NB397_382.out _).trans (((cell_far (p := ⟨gb382, _, none⟩) NB397_382.out _).trans (hHeld.1)))))))), ((cell_far (p := ⟨gb382, _, none⟩) NB397_382.out _).trans (((cell_far (p := ⟨gb382, _, none⟩) NB397_382.out _).trans (((cell_far (p := ⟨gb382, _, none⟩) NB397_382.out _).trans (((cell_far (p := ⟨gb382, _, none⟩) NB397_382.out _).trans (hHeld.2.1)))))))), ((cell_far (p := ⟨gb382, _, none⟩) NB397_382.out _).trans (((cell_far (p := ⟨gb382, _, none⟩) NB397_382.out _).trans (((cell_far (p := ⟨gb382, _, none⟩) NB397_382.out _).trans (((cell_far (p := ⟨gb382, _, none⟩) NB397_382.out _).trans (hHeld.2.2.1)))))))), ((cell_far (p := ⟨gb382, _, none⟩) NB397_382.out _).trans (((cell_far (p := ⟨gb382, _, none⟩) NB397_382.out _).trans (((cell_far (p := ⟨gb382, _, none⟩) NB397_382.out _).trans (((cell_far (p := ⟨gb382, _, none⟩) NB397_382.out _).trans (hHeld.2.2.2.1)))))))), ((cell_far (p := ⟨gb382, _, none⟩) NB390_382.out _).trans (((cell_far (p := ⟨gb382, _, none⟩) NB390_382.out _).trans (((cell_far (p := ⟨gb382, _, none⟩) NB390_382.out _).trans (((cell_far (p := ⟨gb382, _, none⟩) NB390_382.out _).trans (hHeld.2.2.2.2.1)))))))), ((cell_far (p := ⟨gb382, _, none⟩) NB390_382.out _).trans (((cell_far (p := ⟨gb382, _, none⟩) NB390_382.out _).trans (((cell_far (p := ⟨gb382, _, none⟩) NB390_382.out _).trans (((cell_far (p := ⟨gb382, _, none⟩) NB390_382.out _).trans (hHeld.2.2.2.2.2.1)))))))), ((cell_far (p := ⟨gb382, _, none⟩) NB390_382.out _).trans (((cell_far (p := ⟨gb382, _, none⟩) NB390_382.out _).trans (((cell_far (p := ⟨gb382, _, none⟩) NB390_382.out _).trans (((cell_far (p := ⟨gb382, _, none⟩) NB390_382.out _).trans (hHeld.2.2.2.2.2.2.1)))))))), ((cell_far (p := ⟨gb382, _, none⟩) NB390_382.out _).trans (((cell_far (p := ⟨gb382, _, none⟩) NB390_382.out _).trans (((cell_far (p := ⟨gb382, _, none⟩) NB390_382.out _).trans (((cell_far (p := ⟨gb382, _, none⟩) NB390_382.out _).trans (hHeld.2.2.2.2.2.2.2))))))))⟩ (fun hHeld => ?_)
     clear hK K
     refine one_ (i := 3) (N := none) #[true, true, true, true] rfl rfl (by kernel_rfl) (by decide) (fun K hK => ?_)
     have hs150 : w145.cell? ⟨gb383, 0, none⟩ = some (.int .i64 0) := (blk_cell BK383.out 0).trans rfl
     have hfs150 := blk_frozen BK383.out 0
     have hns150_0 := NB382_383.out
     have hns150_2 := NB390_383.out
     have hns150_3 := NB397_383.out
     have hms150_0 := NB383_382.out
     have hms150_2 := NB383_390.out
     have hms150_3 := NB383_397.out
     have hs151 : w145.cell? ⟨gb383, 1, none⟩ = some (.int .i64 0) := (blk_cell BK383.out 1).trans rfl
     have hfs151 := blk_frozen BK383.out 1
     have hns151_0 := NB382_383.out
     have hns151_2 := NB390_383.out
     have hns151_3 := NB397_383.out
     have hms151_0 := NB383_382.out
     have hms151_2 := NB383_390.out
     have hms151_3 := NB383_397.out
     have hs152 : w145.cell? ⟨gb383, 2, none⟩ = some (.int .i64 0) := (blk_cell BK383.out 2).trans rfl
     have hfs152 := blk_frozen BK383.out 2
     have hns152_0 := NB382_383.out
     have hns152_2 := NB390_383.out
     have hns152_3 := NB397_383.out
     have hms152_0 := NB383_382.out
     have hms152_2 := NB383_390.out
     have hms152_3 := NB383_397.out
     have hs153 : w145.cell? ⟨gb383, 3, none⟩ = some (.bool false) := (blk_cell BK383.out 3).trans rfl
     have hfs153 := blk_frozen BK383.out 3
     have hns153_0 := NB382_383.out
     have hns153_2 := NB390_383.out
     have hns153_3 := NB397_383.out
     have hms153_0 := NB383_382.out
     have hms153_2 := NB383_390.out
     have hms153_3 := NB383_397.out
     refine skip_ (w1 := ?_) (by rfl) rfl ?_ ?_
     rotate_left
     ·
      go_simp
      rfl
     refine hK.out _ _ ⟨((cell_far (p := ⟨gb383, _, none⟩) NB397_383.out _).trans (((cell_far (p := ⟨gb383, _, none⟩) NB397_383.out _).trans (((cell_far (p := ⟨gb383, _, none⟩) NB397_383.out _).trans (((cell_far (p := ⟨gb383, _, none⟩) NB397_383.out _).trans (hHeld.1)))))))), ((cell_far (p := ⟨gb383, _, none⟩) NB397_383.out _).trans (((cell_far (p := ⟨gb383, _, none⟩) NB397_383.out _).trans (((cell_far (p := ⟨gb383, _, none⟩) NB397_383.out _).trans (((cell_far (p := ⟨gb383, _, none⟩) NB397_383.out _).trans (hHeld.2.1)))))))), ((cell_far (p := ⟨gb383, _, none⟩) NB397_383.out _).trans (((cell_far (p := ⟨gb383, _, none⟩) NB397_383.out _).trans (((cell_far (p := ⟨gb383, _, none⟩) NB397_383.out _).trans (((cell_far (p := ⟨gb383, _, none⟩) NB397_383.out _).trans (hHeld.2.2.1)))))))), ((cell_far (p := ⟨gb383, _, none⟩) NB397_383.out _).trans (((cell_far (p := ⟨gb383, _, none⟩) NB397_383.out _).trans (((cell_far (p := ⟨gb383, _, none⟩) NB397_383.out _).trans (((cell_far (p := ⟨gb383, _, none⟩) NB397_383.out _).trans (hHeld.2.2.2.1)))))))), ((cell_far (p := ⟨gb383, _, none⟩) NB390_383.out _).trans (((cell_far (p := ⟨gb383, _, none⟩) NB390_383.out _).trans (((cell_far (p := ⟨gb383, _, none⟩) NB390_383.out _).trans (((cell_far (p := ⟨gb383, _, none⟩) NB390_383.out _).trans (hHeld.2.2.2.2.1)))))))), ((cell_far (p := ⟨gb383, _, none⟩) NB390_383.out _).trans (((cell_far (p := ⟨gb383, _, none⟩) NB390_383.out _).trans (((cell_far (p := ⟨gb383, _, none⟩) NB390_383.out _).trans (((cell_far (p := ⟨gb383, _, none⟩) NB390_383.out _).trans (hHeld.2.2.2.2.2.1)))))))), ((cell_far (p := ⟨gb383, _, none⟩) NB390_383.out _).trans (((cell_far (p := ⟨gb383, _, none⟩) NB390_383.out _).trans (((cell_far (p := ⟨gb383, _, none⟩) NB390_383.out _).trans (((cell_far (p := ⟨gb383, _, none⟩) NB390_383.out _).trans (hHeld.2.2.2.2.2.2.1)))))))), ((cell_far (p := ⟨gb383, _, none⟩) NB390_383.out _).trans (((cell_far (p := ⟨gb383, _, none⟩) NB390_383.out _).trans (((cell_far (p := ⟨gb383, _, none⟩) NB390_383.out _).trans (((cell_far (p := ⟨gb383, _, none⟩) NB390_383.out _).trans (hHeld.2.2.2.2.2.2.2))))))))⟩ (fun hHeld => ?_)
     clear hK K
     refine done_ (by kernel_rfl) ?_
     try go_wp2
     refine bodyPost_ret (results_cc rfl _ _ gb382 gb383 33 33 #[.int .i64 t384, .int .i64 0, .int .i64 0, .bool true] #[.int .i64 t384, .int .i64 t385, .int .i64 t386, .bool t387] (0, 0) (0, 0) _ _ rfl au4 Tryd.underlying33 rfl (by kernel_rfl) rfl au0 Tryd.underlying33 rfl (by kernel_rfl)) rfl ?_
     exact ax11
    ·
     replace c125 := Bool.eq_false_iff.mpr c125
     subst c125
     replace H := (if_neg (show ¬ (false = true) by decide)).symm.trans H
     simp only [Option.some.injEq, Prod.mk.injEq] at H
     obtain ⟨rfl, rfl, rfl, rfl, rfl, rfl, rfl, rfl, rfl, rfl⟩ := H
     go_enter Tryd.func56, Tryd.ntmps56
     try go_wp2_with (first | ((with_reducible refine gate_dst (N := 2) rfl ?_); refine box_event ?hg (N := 2) ?hd (cs := #[.int .i64 0, .int .i64 0, .int .i64 0, .bool false]) (t := 33) ?hr ?_; (case hd => rfl); (case hg => rfl); (case hr => first | (go_simp; done) | (go_simp; rfl)); intro gb382 hg w154 hbox hb; replace HB := Aside0.mk (below_step au82 hb); have BK382 := Aside0.mk (hbox); have GW382 := Aside0.mk ((by rw [hg]; exact (keep_size (w := w) (g := g) (row := none) au99) : w.heap.size ≤ gb382)); have GE382 := Aside0.mk ((Nat.le_trans HW0.out (by rw [hg]; exact (keep_size (w := w) (g := g) (row := none) au99) : w.heap.size ≤ gb382) : w0.heap.size ≤ gb382)); replace HK := Aside0.mk (KeepBut.trans au99 (KeepBut.of_below hb g none) (.inl rfl)); have NB0_382 := Aside0.mk ((by rw [hg]; exact Nat.ne_of_lt (IsS51.lt (show IsS51 w0 _ g s0_0 s0_1 s0_2 from by repeat (first | (with_reducible first | exact HI0.out | apply IsS51.alloc | apply IsS51.drewN | apply IsS51.drew | apply IsS51.set_1 | apply IsS51.set_2) | exact HI0.out))) : g ≠ gb382)); have NB382_0 := Aside0.mk ((by rw [hg]; exact Nat.ne_of_gt (IsS51.lt (show IsS51 w0 _ g s0_0 s0_1 s0_2 from by repeat (first | (with_reducible first | exact HI0.out | apply IsS51.alloc | apply IsS51.drewN | apply IsS51.drew | apply IsS51.set_1 | apply IsS51.set_2) | exact HI0.out))) : gb382 ≠ g)); replace HI0 := Aside0.mk (IsS51.below au83 hb); clear hb hbox hg) | ((with_reducible refine gate_dst (N := 3) rfl ?_); refine box_event ?hg (N := 3) ?hd (cs := #[.int .i64 0, .int .i64 0, .int .i64 0, .bool false]) (t := 33) ?hr ?_; (case hd => rfl); (case hg => rfl); (case hr => first | (go_simp; done) | (go_simp; rfl)); intro gb383 hg w155 hbox hb; replace HB := Aside0.mk (below_step au67 hb); have BK383 := Aside0.mk (hbox); have GW383 := Aside0.mk ((by rw [hg]; exact (keep_size (w := w) (g := g) (row := none) au79) : w.heap.size ≤ gb383)); have GE383 := Aside0.mk ((Nat.le_trans HW0.out (by rw [hg]; exact (keep_size (w := w) (g := g) (row := none) au79) : w.heap.size ≤ gb383) : w0.heap.size ≤ gb383)); replace HK := Aside0.mk (KeepBut.trans au79 (KeepBut.of_below hb g none) (.inl rfl)); have NB382_383 := Aside0.mk (bne (g := gb382) hg au115); have NB383_382 := Aside0.mk (ben (g := gb382) hg au115); replace BK382 := Aside0.mk (blk_below (g := gb382) au115 hb); have NB0_383 := Aside0.mk ((by rw [hg]; exact Nat.ne_of_lt (IsS51.lt (show IsS51 w0 _ g s0_0 s0_1 s0_2 from by repeat (first | (with_reducible first | exact HI0.out | apply IsS51.alloc | apply IsS51.drewN | apply IsS51.drew | apply IsS51.set_1 | apply IsS51.set_2 | refine IsS51.far ?_ NB0_382.out _) | exact HI0.out))) : g ≠ gb383)); have NB383_0 := Aside0.mk ((by rw [hg]; exact Nat.ne_of_gt (IsS51.lt (show IsS51 w0 _ g s0_0 s0_1 s0_2 from by repeat (first | (with_reducible first | exact HI0.out | apply IsS51.alloc | apply IsS51.drewN | apply IsS51.drew | apply IsS51.set_1 | apply IsS51.set_2 | refine IsS51.far ?_ NB0_382.out _) | exact HI0.out))) : gb383 ≠ g)); replace HI0 := Aside0.mk (IsS51.below au64 hb); clear hb hbox hg) | ((with_reducible refine gate_callee (f := 72) rfl ?_); refine goesL_ (some 7) rfl rfl Tryd.func72 (by kernel_rfl) rfl #[.pointer (some ⟨g, 0, none⟩)] rfl au100 ?_; (with_reducible refine (spec_l1Cur_anyDate.calls g s0_0 s0_1 s0_2 t384 t385 t386 t387 t388 t389 w0 _ ?side1 ?side2 A2.out).mono ?_); (case side1 => repeat (first | (with_reducible first | exact HI0.out | apply IsS51.alloc | apply IsS51.drewN | apply IsS51.drew | apply IsS51.set_1 | apply IsS51.set_2 | refine IsS51.far ?_ NB0_382.out _ | refine IsS51.far ?_ NB0_383.out _) | exact HI0.out)); (case side2 => repeat (first | (with_reducible first | exact HB.out | apply below_alloc | apply pw_below_drewN | apply below_drew1 | refine below_set ?_ (IsS51.ge HI0.out) | refine below_set ?_ GE382.out | refine below_set ?_ GE383.out) | exact HB.out)); rintro e w156 ⟨rfl, hi, hb, hk⟩; refine ⟨_, rfl, ?_⟩; replace BK382 := Aside0.mk (KeepBut.blk hk (g' := gb382) (o := .cells #[.int .i64 0, .int .i64 0, .int .i64 0, .bool false] 33 (0, 0)) au115 NB382_0.out (by simp)); replace BK383 := Aside0.mk (KeepBut.blk hk (g' := gb383) (o := .cells #[.int .i64 0, .int .i64 0, .int .i64 0, .bool false] 33 (0, 0)) au116 NB383_0.out (by simp)); replace HK := Aside0.mk (KeepBut.trans au61 hk (.inl rfl)); replace HB := Aside0.mk (hb); replace HI0 := Aside0.mk (hi); (try clear hb); (try clear hk); (try clear hi)) | ((with_reducible refine gate_dst (N := 4) rfl ?_); refine box_event ?hg (N := 4) ?hd (cs := #[.int .i64 0, .int .i64 0, .int .i64 0, .bool false]) (t := 33) ?hr ?_; (case hd => rfl); (case hg => rfl); (case hr => first | (go_simp; done) | (go_simp; rfl)); intro gb390 hg w157 hbox hb; replace HB := Aside0.mk (below_step au56 hb); have BK390 := Aside0.mk (hbox); have GW390 := Aside0.mk ((by rw [hg]; exact (keep_size (w := w) (g := g) (row := none) au61) : w.heap.size ≤ gb390)); have GE390 := Aside0.mk ((Nat.le_trans HW0.out (by rw [hg]; exact (keep_size (w := w) (g := g) (row := none) au61) : w.heap.size ≤ gb390) : w0.heap.size ≤ gb390)); replace HK := Aside0.mk (KeepBut.trans au61 (KeepBut.of_below hb g none) (.inl rfl)); have NB382_390 := Aside0.mk (bne (g := gb382) hg au115); have NB390_382 := Aside0.mk (ben (g := gb382) hg au115); replace BK382 := Aside0.mk (blk_below (g := gb382) au115 hb); have NB383_390 := Aside0.mk (bne (g := gb383) hg au116); have NB390_383 := Aside0.mk (ben (g := gb383) hg au116); replace BK383 := Aside0.mk (blk_below (g := gb383) au116 hb); have NB0_390 := Aside0.mk ((by rw [hg]; exact Nat.ne_of_lt (IsS51.lt (show IsS51 w0 _ g s0_0 t388 t389 from by repeat (first | (with_reducible first | exact HI0.out | apply IsS51.alloc | apply IsS51.drewN | apply IsS51.drew | apply IsS51.set_1 | apply IsS51.set_2 | refine IsS51.far ?_ NB0_382.out _ | refine IsS51.far ?_ NB0_383.out _) | exact HI0.out))) : g ≠ gb390)); have NB390_0 := Aside0.mk ((by rw [hg]; exact Nat.ne_of_gt (IsS51.lt (show IsS51 w0 _ g s0_0 t388 t389 from by repeat (first | (with_reducible first | exact HI0.out | apply IsS51.alloc | apply IsS51.drewN | apply IsS51.drew | apply IsS51.set_1 | apply IsS51.set_2 | refine IsS51.far ?_ NB0_382.out _ | refine IsS51.far ?_ NB0_383.out _) | exact HI0.out))) : gb390 ≠ g)); replace HI0 := Aside0.mk (IsS51.below au54 hb); clear hb hbox hg; have hnb158 := NB390_382.out; have hnc158 := NB382_390.out; have hnb159 := NB390_383.out; have hnc159 := NB383_390.out; have hnb160 := NB390_0.out; have hnc160 := NB0_390.out; obtain ⟨hcz161_0, hcz161_1, hcz161_2, hcz161_3, hfz161_0, hfz161_1, hfz161_2, hfz161_3⟩ := blkc4 BK390.out) | ((with_reducible refine gate_callee (f := 72) rfl ?_); refine goesL_ (some 9) rfl rfl Tryd.func72 (by kernel_rfl) rfl #[.pointer (some ⟨g, 0, none⟩)] rfl au100 ?_; (with_reducible refine (spec_l1Cur_anyDate.calls g s0_0 t388 t389 t391 t392 t393 t394 t395 t396 w0 _ ?side1 ?side2 A3.out).mono ?_); (case side1 => repeat (first | (with_reducible first | exact HI0.out | apply IsS51.alloc | apply IsS51.drewN | apply IsS51.drew | apply IsS51.set_1 | apply IsS51.set_2 | refine IsS51.far ?_ NB0_382.out _ | refine IsS51.far ?_ NB0_383.out _ | refine IsS51.far ?_ NB0_390.out _) | exact HI0.out)); (case side2 => repeat (first | (with_reducible first | exact HB.out | apply below_alloc | apply pw_below_drewN | apply below_drew1 | refine below_set ?_ (IsS51.ge HI0.out) | refine below_set ?_ GE382.out | refine below_set ?_ GE383.out | refine below_set ?_ GE390.out) | exact HB.out)); rintro e w162 ⟨rfl, hi, hb, hk⟩; refine ⟨_, rfl, ?_⟩; replace BK382 := Aside0.mk (KeepBut.blk hk (g' := gb382) (o := .cells #[.int .i64 0, .int .i64 0, .int .i64 0, .bool false] 33 (0, 0)) au30 NB382_0.out (by simp)); replace BK383 := Aside0.mk (KeepBut.blk hk (g' := gb383) (o := .cells #[.int .i64 0, .int .i64 0, .int .i64 0, .bool false] 33 (0, 0)) au31 NB383_0.out (by simp)); replace BK390 := Aside0.mk (KeepBut.blk hk (g' := gb390) (o := .cells #[.int .i64 t384, .int .i64 t385, .int .i64 t386, .bool t387] 33 (0, 0)) au19 NB390_0.out (by simp)); replace HK := Aside0.mk (KeepBut.trans au52 hk (.inl rfl)); replace HB := Aside0.mk (hb); replace HI0 := Aside0.mk (hi); (try clear hb); (try clear hk); (try clear hi)) | ((with_reducible refine gate_dst (N := 5) rfl ?_); refine box_event ?hg (N := 5) ?hd (cs := #[.int .i64 0, .int .i64 0, .int .i64 0, .bool false]) (t := 33) ?hr ?_; (case hd => rfl); (case hg => rfl); (case hr => first | (go_simp; done) | (go_simp; rfl)); intro gb397 hg w163 hbox hb; replace HB := Aside0.mk (below_step au48 hb); have BK397 := Aside0.mk (hbox); have GW397 := Aside0.mk ((by rw [hg]; exact (keep_size (w := w) (g := g) (row := none) au52) : w.heap.size ≤ gb397)); have GE397 := Aside0.mk ((Nat.le_trans HW0.out (by rw [hg]; exact (keep_size (w := w) (g := g) (row := none) au52) : w.heap.size ≤ gb397) : w0.heap.size ≤ gb397)); replace HK := Aside0.mk (KeepBut.trans au52 (KeepBut.of_below hb g none) (.inl rfl)); have NB382_397 := Aside0.mk (bne (g := gb382) hg au115); have NB397_382 := Aside0.mk (ben (g := gb382) hg au115); replace BK382 := Aside0.mk (blk_below (g := gb382) au115 hb); have NB383_397 := Aside0.mk (bne (g := gb383) hg au116); have NB397_383 := Aside0.mk (ben (g := gb383) hg au116); replace BK383 := Aside0.mk (blk_below (g := gb383) au116 hb); have NB390_397 := Aside0.mk (bne (g := gb390) hg au117); have NB397_390 := Aside0.mk (ben (g := gb390) hg au117); replace BK390 := Aside0.mk (blk_below (g := gb390) au117 hb); have NB0_397 := Aside0.mk ((by rw [hg]; exact Nat.ne_of_lt (IsS51.lt (show IsS51 w0 _ g s0_0 t395 t396 from by repeat (first | (with_reducible first | exact HI0.out | apply IsS51.alloc | apply IsS51.drewN | apply IsS51.drew | apply IsS51.set_1 | apply IsS51.set_2 | refine IsS51.far ?_ NB0_382.out _ | refine IsS51.far ?_ NB0_383.out _ | refine IsS51.far ?_ NB0_390.out _) | exact HI0.out))) : g ≠ gb397)); have NB397_0 := Aside0.mk ((by rw [hg]; exact Nat.ne_of_gt (IsS51.lt (show IsS51 w0 _ g s0_0 t395 t396 from by repeat (first | (with_reducible first | exact HI0.out | apply IsS51.alloc | apply IsS51.drewN | apply IsS51.drew | apply IsS51.set_1 | apply IsS51.set_2 | refine IsS51.far ?_ NB0_382.out _ | refine IsS51.far ?_ NB0_383.out _ | refine IsS51.far ?_ NB0_390.out _) | exact HI0.out))) : gb397 ≠ g)); replace HI0 := Aside0.mk (IsS51.below au46 hb); clear hb hbox hg; have hnb164 := NB397_382.out; have hnc164 := NB382_397.out; have hnb165 := NB397_383.out; have hnc165 := NB383_397.out; have hnb166 := NB397_390.out; have hnc166 := NB390_397.out; have hnb167 := NB397_0.out; have hnc167 := NB0_397.out; obtain ⟨hcz168_0, hcz168_1, hcz168_2, hcz168_3, hfz168_0, hfz168_1, hfz168_2, hfz168_3⟩ := blkc4 BK397.out) | ((with_reducible refine gate_callee (f := 31) rfl ?_); refine goesL_ (some 11) rfl rfl Tryd.func31 (by kernel_rfl) rfl #[.pointer (some ⟨g, 0, none⟩), .int .i64 4] rfl au100 ?_; (with_reducible refine (spec_l1Cur_pick.calls g s0_0 t395 t396 4 t398 t399 t400 w0 _ ?side1 ?side2 A4.out).mono ?_); (case side1 => repeat (first | (with_reducible first | exact HI0.out | apply IsS51.alloc | apply IsS51.drewN | apply IsS51.drew | apply IsS51.set_1 | apply IsS51.set_2 | refine IsS51.far ?_ NB0_382.out _ | refine IsS51.far ?_ NB0_383.out _ | refine IsS51.far ?_ NB0_390.out _ | refine IsS51.far ?_ NB0_397.out _) | exact HI0.out)); (case side2 => repeat (first | (with_reducible first | exact HB.out | apply below_alloc | apply pw_below_drewN | apply below_drew1 | refine below_set ?_ (IsS51.ge HI0.out) | refine below_set ?_ GE382.out | refine below_set ?_ GE383.out | refine below_set ?_ GE390.out | refine below_set ?_ GE397.out) | exact HB.out)); rintro e w169 ⟨rfl, hi, hb, hk⟩; refine ⟨_, rfl, ?_⟩; replace BK382 := Aside0.mk (KeepBut.blk hk (g' := gb382) (o := .cells #[.int .i64 0, .int .i64 0, .int .i64 0, .bool false] 33 (0, 0)) au32 NB382_0.out (by simp)); replace BK383 := Aside0.mk (KeepBut.blk hk (g' := gb383) (o := .cells #[.int .i64 0, .int .i64 0, .int .i64 0, .bool false] 33 (0, 0)) au33 NB383_0.out (by simp)); replace BK390 := Aside0.mk (KeepBut.blk hk (g' := gb390) (o := .cells #[.int .i64 t384, .int .i64 t385, .int .i64 t386, .bool t387] 33 (0, 0)) au34 NB390_0.out (by simp)); replace BK397 := Aside0.mk (KeepBut.blk hk (g' := gb397) (o := .cells #[.int .i64 t391, .int .i64 t392, .int .i64 t393, .bool t394] 33 (0, 0)) au20 NB397_0.out (by simp)); replace HK := Aside0.mk (KeepBut.trans au47 hk (.inl rfl)); replace HB := Aside0.mk (hb); replace HI0 := Aside0.mk (hi); (try clear hb); (try clear hk); (try clear hi); obtain ⟨hcz170_0, hcz170_1, hcz170_2, hcz170_3, hfz170_0, hfz170_1, hfz170_2, hfz170_3⟩ := blkc4 BK390.out; obtain ⟨hcz171_0, hcz171_1, hcz171_2, hcz171_3, hfz171_0, hfz171_1, hfz171_2, hfz171_3⟩ := blkc4 BK397.out) | ((with_reducible refine gate_callee (f := 36) rfl ?_); refine goesL_ (some 27) rfl rfl Tryd.func36 (by kernel_rfl) rfl #[.pointer (some ⟨g, 0, none⟩), .int .i64 2] rfl au100 ?_; (with_reducible refine (spec_l1Cur_one.calls g s0_0 t399 t400 2 false t408 t409 w0 _ ?side1 ?side2 A124.out).mono ?_); (case side1 => repeat (first | (with_reducible first | exact HI0.out | apply IsS51.alloc | apply IsS51.drewN | apply IsS51.drew | apply IsS51.set_1 | apply IsS51.set_2 | refine IsS51.far ?_ NB0_382.out _ | refine IsS51.far ?_ NB0_383.out _ | refine IsS51.far ?_ NB0_390.out _ | refine IsS51.far ?_ NB0_397.out _) | exact HI0.out)); (case side2 => repeat (first | (with_reducible first | exact HB.out | apply below_alloc | apply pw_below_drewN | apply below_drew1 | refine below_set ?_ (IsS51.ge HI0.out) | refine below_set ?_ GE382.out | refine below_set ?_ GE383.out | refine below_set ?_ GE390.out | refine below_set ?_ GE397.out) | exact HB.out)); rintro e w172 ⟨rfl, hi, hb, hk⟩; refine ⟨_, rfl, ?_⟩; replace BK382 := Aside0.mk (KeepBut.blk hk (g' := gb382) (o := .cells #[.int .i64 0, .int .i64 0, .int .i64 0, .bool false] 33 (0, 0)) au32 NB382_0.out (by simp)); replace BK383 := Aside0.mk (KeepBut.blk hk (g' := gb383) (o := .cells #[.int .i64 0, .int .i64 0, .int .i64 0, .bool false] 33 (0, 0)) au33 NB383_0.out (by simp)); replace BK390 := Aside0.mk (KeepBut.blk hk (g' := gb390) (o := .cells #[.int .i64 t384, .int .i64 t385, .int .i64 t386, .bool t387] 33 (0, 0)) au34 NB390_0.out (by simp)); replace BK397 := Aside0.mk (KeepBut.blk hk (g' := gb397) (o := .cells #[.int .i64 t384, .int .i64 0, .int .i64 0, .bool true] 33 (0, 0)) au17 NB397_0.out (by simp)); replace HK := Aside0.mk (KeepBut.trans au47 hk (.inl rfl)); replace HB := Aside0.mk (hb); replace HI0 := Aside0.mk (hi); (try clear hb); (try clear hk); (try clear hi)))
     replace BK382 := Aside0.mk (blk_drew BK382.out)
     replace BK383 := Aside0.mk (blk_drew BK383.out)
     replace BK390 := Aside0.mk (blk_drew BK390.out)
     replace BK397 := Aside0.mk (blk_drew BK397.out)
     replace HI0 := Aside0.mk (IsS51.drew HI0.out)
     replace HK := Aside0.mk (keep_drew HK.out)
     replace HB := Aside0.mk (below_drew1 HB.out)
     refine start_ (n := 4) (S := fun w' => w'.cell? ⟨gb390, 0, none⟩ = some (.int .i64 t384) ∧ w'.cell? ⟨gb390, 1, none⟩ = some (.int .i64 t385) ∧ w'.cell? ⟨gb390, 2, none⟩ = some (.int .i64 t386) ∧ w'.cell? ⟨gb390, 3, none⟩ = some (.bool t387) ∧ w'.cell? ⟨gb397, 0, none⟩ = some (.int .i64 t384) ∧ w'.cell? ⟨gb397, 1, none⟩ = some (.int .i64 0) ∧ w'.cell? ⟨gb397, 2, none⟩ = some (.int .i64 0) ∧ w'.cell? ⟨gb397, 3, none⟩ = some (.bool true)) (ds := []) #[false, false, false, false] (by kernel_rfl) rfl rfl ⟨(blk_cell BK390.out 0).trans rfl, (blk_cell BK390.out 1).trans rfl, (blk_cell BK390.out 2).trans rfl, (blk_cell BK390.out 3).trans rfl, (blk_cell BK397.out 0).trans rfl, (blk_cell BK397.out 1).trans rfl, (blk_cell BK397.out 2).trans rfl, (blk_cell BK397.out 3).trans rfl⟩ (fun hHeld => ?_)
     generalize w172.drew = w173 at BK382 BK383 BK390 BK397 HI0 HK HB hHeld ⊢
     refine take_ (i := 0) (N := some 30) (v := ?_) (a' := ?_) #[true, false, false, false] rfl rfl (by kernel_rfl) (fun _ _ _ h => h) (Or.inl ⟨by rfl, ?_⟩) hHeld ?_ ?_
     rotate_left
     ·
      rintro w' ⟨s0, s1, s2, s3, s4, s5, s6, s7⟩
      go_simp
      with_reducible rfl
     rotate_left
     ·
      simp only [Act.put, List.setIfInBounds_toArray, List.set_cons_zero, List.set_cons_succ, i64_w, i32_w]
      rfl
     refine take_ (i := 1) (N := some 31) (v := ?_) (a' := ?_) #[true, true, false, false] rfl rfl (by kernel_rfl) (fun _ _ _ h => h) (Or.inl ⟨by rfl, ?_⟩) hHeld ?_ ?_
     rotate_left
     ·
      rintro w' ⟨s0, s1, s2, s3, s4, s5, s6, s7⟩
      go_simp
      with_reducible rfl
     rotate_left
     ·
      simp only [Act.put, List.setIfInBounds_toArray, List.set_cons_zero, List.set_cons_succ, i64_w, i32_w]
      rfl
     refine one_ (i := 2) (N := none) #[true, true, true, false] rfl rfl (by kernel_rfl) (by decide) (fun K hK => ?_)
     have hs174 : w173.cell? ⟨gb382, 0, none⟩ = some (.int .i64 0) := (blk_cell BK382.out 0).trans rfl
     have hfs174 := blk_frozen BK382.out 0
     have hns174_1 := NB383_382.out
     have hns174_2 := NB390_382.out
     have hns174_3 := NB397_382.out
     have hms174_1 := NB382_383.out
     have hms174_2 := NB382_390.out
     have hms174_3 := NB382_397.out
     have hs175 : w173.cell? ⟨gb382, 1, none⟩ = some (.int .i64 0) := (blk_cell BK382.out 1).trans rfl
     have hfs175 := blk_frozen BK382.out 1
     have hns175_1 := NB383_382.out
     have hns175_2 := NB390_382.out
     have hns175_3 := NB397_382.out
     have hms175_1 := NB382_383.out
     have hms175_2 := NB382_390.out
     have hms175_3 := NB382_397.out
     have hs176 : w173.cell? ⟨gb382, 2, none⟩ = some (.int .i64 0) := (blk_cell BK382.out 2).trans rfl
     have hfs176 := blk_frozen BK382.out 2
     have hns176_1 := NB383_382.out
     have hns176_2 := NB390_382.out
     have hns176_3 := NB397_382.out
     have hms176_1 := NB382_383.out
     have hms176_2 := NB382_390.out
     have hms176_3 := NB382_397.out
     have hs177 : w173.cell? ⟨gb382, 3, none⟩ = some (.bool false) := (blk_cell BK382.out 3).trans rfl
     have hfs177 := blk_frozen BK382.out 3
     have hns177_1 := NB383_382.out
     have hns177_2 := NB390_382.out
     have hns177_3 := NB397_382.out
     have hms177_1 := NB382_383.out
     have hms177_2 := NB382_390.out
     have hms177_3 := NB382_397.out
     refine skip_ (w1 := ?_) (by rfl) rfl ?_ ?_
     rotate_left
     ·
      go_simp
      rfl
     refine hK.out _ _ ⟨((cell_far (p := ⟨gb382, _, none⟩) NB390_382.out _).trans (((cell_far (p := ⟨gb382, _, none⟩) NB390_382.out _).trans (((cell_far (p := ⟨gb382, _, none⟩) NB390_382.out _).trans (((cell_far (p := ⟨gb382, _, none⟩) NB390_382.out _).trans (hHeld.1)))))))), ((cell_far (p := ⟨gb382, _, none⟩) NB390_382.out _).trans (((cell_far (p := ⟨gb382, _, none⟩) NB390_382.out _).trans (((cell_far (p := ⟨gb382, _, none⟩) NB390_382.out _).trans (((cell_far (p := ⟨gb382, _, none⟩) NB390_382.out _).trans (hHeld.2.1)))))))), ((cell_far (p := ⟨gb382, _, none⟩) NB390_382.out _).trans (((cell_far (p := ⟨gb382, _, none⟩) NB390_382.out _).trans (((cell_far (p := ⟨gb382, _, none⟩) NB390_382.out _).trans (((cell_far (p := ⟨gb382, _, none⟩) NB390_382.out _).trans (hHeld.2.2.1)))))))), ((cell_far (p := ⟨gb382, _, none⟩) NB390_382.out _).trans (((cell_far (p := ⟨gb382, _, none⟩) NB390_382.out _).trans (((cell_far (p := ⟨gb382, _, none⟩) NB390_382.out _).trans (((cell_far (p := ⟨gb382, _, none⟩) NB390_382.out _).trans (hHeld.2.2.2.1)))))))), ((cell_far (p := ⟨gb382, _, none⟩) NB397_382.out _).trans (((cell_far (p := ⟨gb382, _, none⟩) NB397_382.out _).trans (((cell_far (p := ⟨gb382, _, none⟩) NB397_382.out _).trans (((cell_far (p := ⟨gb382, _, none⟩) NB397_382.out _).trans (hHeld.2.2.2.2.1)))))))), ((cell_far (p := ⟨gb382, _, none⟩) NB397_382.out _).trans (((cell_far (p := ⟨gb382, _, none⟩) NB397_382.out _).trans (((cell_far (p := ⟨gb382, _, none⟩) NB397_382.out _).trans (((cell_far (p := ⟨gb382, _, none⟩) NB397_382.out _).trans (hHeld.2.2.2.2.2.1)))))))), ((cell_far (p := ⟨gb382, _, none⟩) NB397_382.out _).trans (((cell_far (p := ⟨gb382, _, none⟩) NB397_382.out _).trans (((cell_far (p := ⟨gb382, _, none⟩) NB397_382.out _).trans (((cell_far (p := ⟨gb382, _, none⟩) NB397_382.out _).trans (hHeld.2.2.2.2.2.2.1)))))))), ((cell_far (p := ⟨gb382, _, none⟩) NB397_382.out _).trans (((cell_far (p := ⟨gb382, _, none⟩) NB397_382.out _).trans (((cell_far (p := ⟨gb382, _, none⟩) NB397_382.out _).trans (((cell_far (p := ⟨gb382, _, none⟩) NB397_382.out _).trans (hHeld.2.2.2.2.2.2.2))))))))⟩ (fun hHeld => ?_)
     clear hK K
     refine one_ (i := 3) (N := none) #[true, true, true, true] rfl rfl (by kernel_rfl) (by decide) (fun K hK => ?_)
     have hs178 : w173.cell? ⟨gb383, 0, none⟩ = some (.int .i64 0) := (blk_cell BK383.out 0).trans rfl
     have hfs178 := blk_frozen BK383.out 0
     have hns178_0 := NB382_383.out
     have hns178_2 := NB390_383.out
     have hns178_3 := NB397_383.out
     have hms178_0 := NB383_382.out
     have hms178_2 := NB383_390.out
     have hms178_3 := NB383_397.out
     have hs179 : w173.cell? ⟨gb383, 1, none⟩ = some (.int .i64 0) := (blk_cell BK383.out 1).trans rfl
     have hfs179 := blk_frozen BK383.out 1
     have hns179_0 := NB382_383.out
     have hns179_2 := NB390_383.out
     have hns179_3 := NB397_383.out
     have hms179_0 := NB383_382.out
     have hms179_2 := NB383_390.out
     have hms179_3 := NB383_397.out
     have hs180 : w173.cell? ⟨gb383, 2, none⟩ = some (.int .i64 0) := (blk_cell BK383.out 2).trans rfl
     have hfs180 := blk_frozen BK383.out 2
     have hns180_0 := NB382_383.out
     have hns180_2 := NB390_383.out
     have hns180_3 := NB397_383.out
     have hms180_0 := NB383_382.out
     have hms180_2 := NB383_390.out
     have hms180_3 := NB383_397.out
     have hs181 : w173.cell? ⟨gb383, 3, none⟩ = some (.bool false) := (blk_cell BK383.out 3).trans rfl
     have hfs181 := blk_frozen BK383.out 3
     have hns181_0 := NB382_383.out
     have hns181_2 := NB390_383.out
     have hns181_3 := NB397_383.out
     have hms181_0 := NB383_382.out
     have hms181_2 := NB383_390.out
     have hms181_3 := NB383_397.out
     refine skip_ (w1 := ?_) (by rfl) rfl ?_ ?_
     rotate_left
     ·
      go_simp
      rfl
     refine hK.out _ _ ⟨((cell_far (p := ⟨gb383, _, none⟩) NB390_383.out _).trans (((cell_far (p := ⟨gb383, _, none⟩) NB390_383.out _).trans (((cell_far (p := ⟨gb383, _, none⟩) NB390_383.out _).trans (((cell_far (p := ⟨gb383, _, none⟩) NB390_383.out _).trans (hHeld.1)))))))), ((cell_far (p := ⟨gb383, _, none⟩) NB390_383.out _).trans (((cell_far (p := ⟨gb383, _, none⟩) NB390_383.out _).trans (((cell_far (p := ⟨gb383, _, none⟩) NB390_383.out _).trans (((cell_far (p := ⟨gb383, _, none⟩) NB390_383.out _).trans (hHeld.2.1)))))))), ((cell_far (p := ⟨gb383, _, none⟩) NB390_383.out _).trans (((cell_far (p := ⟨gb383, _, none⟩) NB390_383.out _).trans (((cell_far (p := ⟨gb383, _, none⟩) NB390_383.out _).trans (((cell_far (p := ⟨gb383, _, none⟩) NB390_383.out _).trans (hHeld.2.2.1)))))))), ((cell_far (p := ⟨gb383, _, none⟩) NB390_383.out _).trans (((cell_far (p := ⟨gb383, _, none⟩) NB390_383.out _).trans (((cell_far (p := ⟨gb383, _, none⟩) NB390_383.out _).trans (((cell_far (p := ⟨gb383, _, none⟩) NB390_383.out _).trans (hHeld.2.2.2.1)))))))), ((cell_far (p := ⟨gb383, _, none⟩) NB397_383.out _).trans (((cell_far (p := ⟨gb383, _, none⟩) NB397_383.out _).trans (((cell_far (p := ⟨gb383, _, none⟩) NB397_383.out _).trans (((cell_far (p := ⟨gb383, _, none⟩) NB397_383.out _).trans (hHeld.2.2.2.2.1)))))))), ((cell_far (p := ⟨gb383, _, none⟩) NB397_383.out _).trans (((cell_far (p := ⟨gb383, _, none⟩) NB397_383.out _).trans (((cell_far (p := ⟨gb383, _, none⟩) NB397_383.out _).trans (((cell_far (p := ⟨gb383, _, none⟩) NB397_383.out _).trans (hHeld.2.2.2.2.2.1)))))))), ((cell_far (p := ⟨gb383, _, none⟩) NB397_383.out _).trans (((cell_far (p := ⟨gb383, _, none⟩) NB397_383.out _).trans (((cell_far (p := ⟨gb383, _, none⟩) NB397_383.out _).trans (((cell_far (p := ⟨gb383, _, none⟩) NB397_383.out _).trans (hHeld.2.2.2.2.2.2.1)))))))), ((cell_far (p := ⟨gb383, _, none⟩) NB397_383.out _).trans (((cell_far (p := ⟨gb383, _, none⟩) NB397_383.out _).trans (((cell_far (p := ⟨gb383, _, none⟩) NB397_383.out _).trans (((cell_far (p := ⟨gb383, _, none⟩) NB397_383.out _).trans (hHeld.2.2.2.2.2.2.2))))))))⟩ (fun hHeld => ?_)
     clear hK K
     refine done_ (by kernel_rfl) ?_
     try go_wp2
     refine bodyPost_ret (results_cc rfl _ _ gb382 gb383 33 33 #[.int .i64 t384, .int .i64 t385, .int .i64 t386, .bool t387] #[.int .i64 t384, .int .i64 0, .int .i64 0, .bool true] (0, 0) (0, 0) _ _ rfl au1 Tryd.underlying33 rfl (by kernel_rfl) rfl au5 Tryd.underlying33 rfl (by kernel_rfl)) rfl ?_
     exact ax11
   ·
    rw [if_neg c123] at H
    have c123b0 : (t398 == 2) = false := beq_eq_false_iff_ne.mpr c123
    have c123b1 : (t398 != 2) = true := bne_iff_ne.mpr c123
    replace H := Option.bind_eq_some_iff.mp H
    obtain ⟨⟨t410, t411, t412⟩, A1820, H⟩ := H
    replace H : (if t410 = true then (some (t391, t392, t393, t394, t384, t385, t386, t387, t411, t412)) else (some (t384, t385, t386, t387, t391, t392, t393, t394, t411, t412))) = some (r1, r2, r3, r4, r5, r6, r7, r8, r9, r10) := H
    have A182 := Aside0.mk A1820
    clear A1820
    by_cases c183 : t410 = true
    ·
     subst c183
     replace H := (if_pos rfl).symm.trans H
     simp only [Option.some.injEq, Prod.mk.injEq] at H
     obtain ⟨rfl, rfl, rfl, rfl, rfl, rfl, rfl, rfl, rfl, rfl⟩ := H
     go_enter Tryd.func56, Tryd.ntmps56
     try go_wp2_with (first | ((with_reducible refine gate_dst (N := 2) rfl ?_); refine box_event ?hg (N := 2) ?hd (cs := #[.int .i64 0, .int .i64 0, .int .i64 0, .bool false]) (t := 33) ?hr ?_; (case hd => rfl); (case hg => rfl); (case hr => first | (go_simp; done) | (go_simp; rfl)); intro gb382 hg w184 hbox hb; replace HB := Aside0.mk (below_step au82 hb); have BK382 := Aside0.mk (hbox); have GW382 := Aside0.mk ((by rw [hg]; exact (keep_size (w := w) (g := g) (row := none) au99) : w.heap.size ≤ gb382)); have GE382 := Aside0.mk ((Nat.le_trans HW0.out (by rw [hg]; exact (keep_size (w := w) (g := g) (row := none) au99) : w.heap.size ≤ gb382) : w0.heap.size ≤ gb382)); replace HK := Aside0.mk (KeepBut.trans au99 (KeepBut.of_below hb g none) (.inl rfl)); have NB0_382 := Aside0.mk ((by rw [hg]; exact Nat.ne_of_lt (IsS51.lt (show IsS51 w0 _ g s0_0 s0_1 s0_2 from by repeat (first | (with_reducible first | exact HI0.out | apply IsS51.alloc | apply IsS51.drewN | apply IsS51.drew | apply IsS51.set_1 | apply IsS51.set_2) | exact HI0.out))) : g ≠ gb382)); have NB382_0 := Aside0.mk ((by rw [hg]; exact Nat.ne_of_gt (IsS51.lt (show IsS51 w0 _ g s0_0 s0_1 s0_2 from by repeat (first | (with_reducible first | exact HI0.out | apply IsS51.alloc | apply IsS51.drewN | apply IsS51.drew | apply IsS51.set_1 | apply IsS51.set_2) | exact HI0.out))) : gb382 ≠ g)); replace HI0 := Aside0.mk (IsS51.below au83 hb); clear hb hbox hg) | ((with_reducible refine gate_dst (N := 3) rfl ?_); refine box_event ?hg (N := 3) ?hd (cs := #[.int .i64 0, .int .i64 0, .int .i64 0, .bool false]) (t := 33) ?hr ?_; (case hd => rfl); (case hg => rfl); (case hr => first | (go_simp; done) | (go_simp; rfl)); intro gb383 hg w185 hbox hb; replace HB := Aside0.mk (below_step au67 hb); have BK383 := Aside0.mk (hbox); have GW383 := Aside0.mk ((by rw [hg]; exact (keep_size (w := w) (g := g) (row := none) au79) : w.heap.size ≤ gb383)); have GE383 := Aside0.mk ((Nat.le_trans HW0.out (by rw [hg]; exact (keep_size (w := w) (g := g) (row := none) au79) : w.heap.size ≤ gb383) : w0.heap.size ≤ gb383)); replace HK := Aside0.mk (KeepBut.trans au79 (KeepBut.of_below hb g none) (.inl rfl)); have NB382_383 := Aside0.mk (bne (g := gb382) hg au115); have NB383_382 := Aside0.mk (ben (g := gb382) hg au115); replace BK382 := Aside0.mk (blk_below (g := gb382) au115 hb); have NB0_383 := Aside0.mk ((by rw [hg]; exact Nat.ne_of_lt (IsS51.lt (show IsS51 w0 _ g s0_0 s0_1 s0_2 from by repeat (first | (with_reducible first | exact HI0.out | apply IsS51.alloc | apply IsS51.drewN | apply IsS51.drew | apply IsS51.set_1 | apply IsS51.set_2 | refine IsS51.far ?_ NB0_382.out _) | exact HI0.out))) : g ≠ gb383)); have NB383_0 := Aside0.mk ((by rw [hg]; exact Nat.ne_of_gt (IsS51.lt (show IsS51 w0 _ g s0_0 s0_1 s0_2 from by repeat (first | (with_reducible first | exact HI0.out | apply IsS51.alloc | apply IsS51.drewN | apply IsS51.drew | apply IsS51.set_1 | apply IsS51.set_2 | refine IsS51.far ?_ NB0_382.out _) | exact HI0.out))) : gb383 ≠ g)); replace HI0 := Aside0.mk (IsS51.below au64 hb); clear hb hbox hg) | ((with_reducible refine gate_callee (f := 72) rfl ?_); refine goesL_ (some 7) rfl rfl Tryd.func72 (by kernel_rfl) rfl #[.pointer (some ⟨g, 0, none⟩)] rfl au100 ?_; (with_reducible refine (spec_l1Cur_anyDate.calls g s0_0 s0_1 s0_2 t384 t385 t386 t387 t388 t389 w0 _ ?side1 ?side2 A2.out).mono ?_); (case side1 => repeat (first | (with_reducible first | exact HI0.out | apply IsS51.alloc | apply IsS51.drewN | apply IsS51.drew | apply IsS51.set_1 | apply IsS51.set_2 | refine IsS51.far ?_ NB0_382.out _ | refine IsS51.far ?_ NB0_383.out _) | exact HI0.out)); (case side2 => repeat (first | (with_reducible first | exact HB.out | apply below_alloc | apply pw_below_drewN | apply below_drew1 | refine below_set ?_ (IsS51.ge HI0.out) | refine below_set ?_ GE382.out | refine below_set ?_ GE383.out) | exact HB.out)); rintro e w186 ⟨rfl, hi, hb, hk⟩; refine ⟨_, rfl, ?_⟩; replace BK382 := Aside0.mk (KeepBut.blk hk (g' := gb382) (o := .cells #[.int .i64 0, .int .i64 0, .int .i64 0, .bool false] 33 (0, 0)) au115 NB382_0.out (by simp)); replace BK383 := Aside0.mk (KeepBut.blk hk (g' := gb383) (o := .cells #[.int .i64 0, .int .i64 0, .int .i64 0, .bool false] 33 (0, 0)) au116 NB383_0.out (by simp)); replace HK := Aside0.mk (KeepBut.trans au61 hk (.inl rfl)); replace HB := Aside0.mk (hb); replace HI0 := Aside0.mk (hi); (try clear hb); (try clear hk); (try clear hi)) | ((with_reducible refine gate_dst (N := 4) rfl ?_); refine box_event ?hg (N := 4) ?hd (cs := #[.int .i64 0, .int .i64 0, .int .i64 0, .bool false]) (t := 33) ?hr ?_; (case hd => rfl); (case hg => rfl); (case hr => first | (go_simp; done) | (go_simp; rfl)); intro gb390 hg w187 hbox hb; replace HB := Aside0.mk (below_step au56 hb); have BK390 := Aside0.mk (hbox); have GW390 := Aside0.mk ((by rw [hg]; exact (keep_size (w := w) (g := g) (row := none) au61) : w.heap.size ≤ gb390)); have GE390 := Aside0.mk ((Nat.le_trans HW0.out (by rw [hg]; exact (keep_size (w := w) (g := g) (row := none) au61) : w.heap.size ≤ gb390) : w0.heap.size ≤ gb390)); replace HK := Aside0.mk (KeepBut.trans au61 (KeepBut.of_below hb g none) (.inl rfl)); have NB382_390 := Aside0.mk (bne (g := gb382) hg au115); have NB390_382 := Aside0.mk (ben (g := gb382) hg au115); replace BK382 := Aside0.mk (blk_below (g := gb382) au115 hb); have NB383_390 := Aside0.mk (bne (g := gb383) hg au116); have NB390_383 := Aside0.mk (ben (g := gb383) hg au116); replace BK383 := Aside0.mk (blk_below (g := gb383) au116 hb); have NB0_390 := Aside0.mk ((by rw [hg]; exact Nat.ne_of_lt (IsS51.lt (show IsS51 w0 _ g s0_0 t388 t389 from by repeat (first | (with_reducible first | exact HI0.out | apply IsS51.alloc | apply IsS51.drewN | apply IsS51.drew | apply IsS51.set_1 | apply IsS51.set_2 | refine IsS51.far ?_ NB0_382.out _ | refine IsS51.far ?_ NB0_383.out _) | exact HI0.out))) : g ≠ gb390)); have NB390_0 := Aside0.mk ((by rw [hg]; exact Nat.ne_of_gt (IsS51.lt (show IsS51 w0 _ g s0_0 t388 t389 from by repeat (first | (with_reducible first | exact HI0.out | apply IsS51.alloc | apply IsS51.drewN | apply IsS51.drew | apply IsS51.set_1 | apply IsS51.set_2 | refine IsS51.far ?_ NB0_382.out _ | refine IsS51.far ?_ NB0_383.out _) | exact HI0.out))) : gb390 ≠ g)); replace HI0 := Aside0.mk (IsS51.below au54 hb); clear hb hbox hg; have hnb188 := NB390_382.out; have hnc188 := NB382_390.out; have hnb189 := NB390_383.out; have hnc189 := NB383_390.out; have hnb190 := NB390_0.out; have hnc190 := NB0_390.out; obtain ⟨hcz191_0, hcz191_1, hcz191_2, hcz191_3, hfz191_0, hfz191_1, hfz191_2, hfz191_3⟩ := blkc4 BK390.out) | ((with_reducible refine gate_callee (f := 72) rfl ?_); refine goesL_ (some 9) rfl rfl Tryd.func72 (by kernel_rfl) rfl #[.pointer (some ⟨g, 0, none⟩)] rfl au100 ?_; (with_reducible refine (spec_l1Cur_anyDate.calls g s0_0 t388 t389 t391 t392 t393 t394 t395 t396 w0 _ ?side1 ?side2 A3.out).mono ?_); (case side1 => repeat (first | (with_reducible first | exact HI0.out | apply IsS51.alloc | apply IsS51.drewN | apply IsS51.drew | apply IsS51.set_1 | apply IsS51.set_2 | refine IsS51.far ?_ NB0_382.out _ | refine IsS51.far ?_ NB0_383.out _ | refine IsS51.far ?_ NB0_390.out _) | exact HI0.out)); (case side2 => repeat (first | (with_reducible first | exact HB.out | apply below_alloc | apply pw_below_drewN | apply below_drew1 | refine below_set ?_ (IsS51.ge HI0.out) | refine below_set ?_ GE382.out | refine below_set ?_ GE383.out | refine below_set ?_ GE390.out) | exact HB.out)); rintro e w192 ⟨rfl, hi, hb, hk⟩; refine ⟨_, rfl, ?_⟩; replace BK382 := Aside0.mk (KeepBut.blk hk (g' := gb382) (o := .cells #[.int .i64 0, .int .i64 0, .int .i64 0, .bool false] 33 (0, 0)) au30 NB382_0.out (by simp)); replace BK383 := Aside0.mk (KeepBut.blk hk (g' := gb383) (o := .cells #[.int .i64 0, .int .i64 0, .int .i64 0, .bool false] 33 (0, 0)) au31 NB383_0.out (by simp)); replace BK390 := Aside0.mk (KeepBut.blk hk (g' := gb390) (o := .cells #[.int .i64 t384, .int .i64 t385, .int .i64 t386, .bool t387] 33 (0, 0)) au19 NB390_0.out (by simp)); replace HK := Aside0.mk (KeepBut.trans au52 hk (.inl rfl)); replace HB := Aside0.mk (hb); replace HI0 := Aside0.mk (hi); (try clear hb); (try clear hk); (try clear hi)) | ((with_reducible refine gate_dst (N := 5) rfl ?_); refine box_event ?hg (N := 5) ?hd (cs := #[.int .i64 0, .int .i64 0, .int .i64 0, .bool false]) (t := 33) ?hr ?_; (case hd => rfl); (case hg => rfl); (case hr => first | (go_simp; done) | (go_simp; rfl)); intro gb397 hg w193 hbox hb; replace HB := Aside0.mk (below_step au48 hb); have BK397 := Aside0.mk (hbox); have GW397 := Aside0.mk ((by rw [hg]; exact (keep_size (w := w) (g := g) (row := none) au52) : w.heap.size ≤ gb397)); have GE397 := Aside0.mk ((Nat.le_trans HW0.out (by rw [hg]; exact (keep_size (w := w) (g := g) (row := none) au52) : w.heap.size ≤ gb397) : w0.heap.size ≤ gb397)); replace HK := Aside0.mk (KeepBut.trans au52 (KeepBut.of_below hb g none) (.inl rfl)); have NB382_397 := Aside0.mk (bne (g := gb382) hg au115); have NB397_382 := Aside0.mk (ben (g := gb382) hg au115); replace BK382 := Aside0.mk (blk_below (g := gb382) au115 hb); have NB383_397 := Aside0.mk (bne (g := gb383) hg au116); have NB397_383 := Aside0.mk (ben (g := gb383) hg au116); replace BK383 := Aside0.mk (blk_below (g := gb383) au116 hb); have NB390_397 := Aside0.mk (bne (g := gb390) hg au117); have NB397_390 := Aside0.mk (ben (g := gb390) hg au117); replace BK390 := Aside0.mk (blk_below (g := gb390) au117 hb); have NB0_397 := Aside0.mk ((by rw [hg]; exact Nat.ne_of_lt (IsS51.lt (show IsS51 w0 _ g s0_0 t395 t396 from by repeat (first | (with_reducible first | exact HI0.out | apply IsS51.alloc | apply IsS51.drewN | apply IsS51.drew | apply IsS51.set_1 | apply IsS51.set_2 | refine IsS51.far ?_ NB0_382.out _ | refine IsS51.far ?_ NB0_383.out _ | refine IsS51.far ?_ NB0_390.out _) | exact HI0.out))) : g ≠ gb397)); have NB397_0 := Aside0.mk ((by rw [hg]; exact Nat.ne_of_gt (IsS51.lt (show IsS51 w0 _ g s0_0 t395 t396 from by repeat (first | (with_reducible first | exact HI0.out | apply IsS51.alloc | apply IsS51.drewN | apply IsS51.drew | apply IsS51.set_1 | apply IsS51.set_2 | refine IsS51.far ?_ NB0_382.out _ | refine IsS51.far ?_ NB0_383.out _ | refine IsS51.far ?_ NB0_390.out _) | exact HI0.out))) : gb397 ≠ g)); replace HI0 := Aside0.mk (IsS51.below au46 hb); clear hb hbox hg; have hnb194 := NB397_382.out; have hnc194 := NB382_397.out; have hnb195 := NB397_383.out; have hnc195 := NB383_397.out; have hnb196 := NB397_390.out; have hnc196 := NB390_397.out; have hnb197 := NB397_0.out; have hnc197 := NB0_397.out; obtain ⟨hcz198_0, hcz198_1, hcz198_2, hcz198_3, hfz198_0, hfz198_1, hfz198_2, hfz198_3⟩ := blkc4 BK397.out) | ((with_reducible refine gate_callee (f := 31) rfl ?_); refine goesL_ (some 11) rfl rfl Tryd.func31 (by kernel_rfl) rfl #[.pointer (some ⟨g, 0, none⟩), .int .i64 4] rfl au100 ?_; (with_reducible refine (spec_l1Cur_pick.calls g s0_0 t395 t396 4 t398 t399 t400 w0 _ ?side1 ?side2 A4.out).mono ?_); (case side1 => repeat (first | (with_reducible first | exact HI0.out | apply IsS51.alloc | apply IsS51.drewN | apply IsS51.drew | apply IsS51.set_1 | apply IsS51.set_2 | refine IsS51.far ?_ NB0_382.out _ | refine IsS51.far ?_ NB0_383.out _ | refine IsS51.far ?_ NB0_390.out _ | refine IsS51.far ?_ NB0_397.out _) | exact HI0.out)); (case side2 => repeat (first | (with_reducible first | exact HB.out | apply below_alloc | apply pw_below_drewN | apply below_drew1 | refine below_set ?_ (IsS51.ge HI0.out) | refine below_set ?_ GE382.out | refine below_set ?_ GE383.out | refine below_set ?_ GE390.out | refine below_set ?_ GE397.out) | exact HB.out)); rintro e w199 ⟨rfl, hi, hb, hk⟩; refine ⟨_, rfl, ?_⟩; replace BK382 := Aside0.mk (KeepBut.blk hk (g' := gb382) (o := .cells #[.int .i64 0, .int .i64 0, .int .i64 0, .bool false] 33 (0, 0)) au32 NB382_0.out (by simp)); replace BK383 := Aside0.mk (KeepBut.blk hk (g' := gb383) (o := .cells #[.int .i64 0, .int .i64 0, .int .i64 0, .bool false] 33 (0, 0)) au33 NB383_0.out (by simp)); replace BK390 := Aside0.mk (KeepBut.blk hk (g' := gb390) (o := .cells #[.int .i64 t384, .int .i64 t385, .int .i64 t386, .bool t387] 33 (0, 0)) au34 NB390_0.out (by simp)); replace BK397 := Aside0.mk (KeepBut.blk hk (g' := gb397) (o := .cells #[.int .i64 t391, .int .i64 t392, .int .i64 t393, .bool t394] 33 (0, 0)) au20 NB397_0.out (by simp)); replace HK := Aside0.mk (KeepBut.trans au47 hk (.inl rfl)); replace HB := Aside0.mk (hb); replace HI0 := Aside0.mk (hi); (try clear hb); (try clear hk); (try clear hi)) | ((with_reducible refine gate_callee (f := 36) rfl ?_); refine goesL_ (some 27) rfl rfl Tryd.func36 (by kernel_rfl) rfl #[.pointer (some ⟨g, 0, none⟩), .int .i64 2] rfl au100 ?_; (with_reducible refine (spec_l1Cur_one.calls g s0_0 t399 t400 2 true t411 t412 w0 _ ?side1 ?side2 A182.out).mono ?_); (case side1 => repeat (first | (with_reducible first | exact HI0.out | apply IsS51.alloc | apply IsS51.drewN | apply IsS51.drew | apply IsS51.set_1 | apply IsS51.set_2 | refine IsS51.far ?_ NB0_382.out _ | refine IsS51.far ?_ NB0_383.out _ | refine IsS51.far ?_ NB0_390.out _ | refine IsS51.far ?_ NB0_397.out _) | exact HI0.out)); (case side2 => repeat (first | (with_reducible first | exact HB.out | apply below_alloc | apply pw_below_drewN | apply below_drew1 | refine below_set ?_ (IsS51.ge HI0.out) | refine below_set ?_ GE382.out | refine below_set ?_ GE383.out | refine below_set ?_ GE390.out | refine below_set ?_ GE397.out) | exact HB.out)); rintro e w200 ⟨rfl, hi, hb, hk⟩; refine ⟨_, rfl, ?_⟩; replace BK382 := Aside0.mk (KeepBut.blk hk (g' := gb382) (o := .cells #[.int .i64 0, .int .i64 0, .int .i64 0, .bool false] 33 (0, 0)) au115 NB382_0.out (by simp)); replace BK383 := Aside0.mk (KeepBut.blk hk (g' := gb383) (o := .cells #[.int .i64 0, .int .i64 0, .int .i64 0, .bool false] 33 (0, 0)) au116 NB383_0.out (by simp)); replace BK390 := Aside0.mk (KeepBut.blk hk (g' := gb390) (o := .cells #[.int .i64 t384, .int .i64 t385, .int .i64 t386, .bool t387] 33 (0, 0)) au117 NB390_0.out (by simp)); replace BK397 := Aside0.mk (KeepBut.blk hk (g' := gb397) (o := .cells #[.int .i64 t391, .int .i64 t392, .int .i64 t393, .bool t394] 33 (0, 0)) au118 NB397_0.out (by simp)); replace HK := Aside0.mk (KeepBut.trans au47 hk (.inl rfl)); replace HB := Aside0.mk (hb); replace HI0 := Aside0.mk (hi); (try clear hb); (try clear hk); (try clear hi)))
     replace BK382 := Aside0.mk (blk_drew BK382.out)
     replace BK383 := Aside0.mk (blk_drew BK383.out)
     replace BK390 := Aside0.mk (blk_drew BK390.out)
     replace BK397 := Aside0.mk (blk_drew BK397.out)
     replace HI0 := Aside0.mk (IsS51.drew HI0.out)
     replace HK := Aside0.mk (keep_drew HK.out)
     replace HB := Aside0.mk (below_drew1 HB.out)
     refine start_ (n := 4) (S := fun w' => w'.cell? ⟨gb397, 0, none⟩ = some (.int .i64 t391) ∧ w'.cell? ⟨gb397, 1, none⟩ = some (.int .i64 t392) ∧ w'.cell? ⟨gb397, 2, none⟩ = some (.int .i64 t393) ∧ w'.cell? ⟨gb397, 3, none⟩ = some (.bool t394) ∧ w'.cell? ⟨gb390, 0, none⟩ = some (.int .i64 t384) ∧ w'.cell? ⟨gb390, 1, none⟩ = some (.int .i64 t385) ∧ w'.cell? ⟨gb390, 2, none⟩ = some (.int .i64 t386) ∧ w'.cell? ⟨gb390, 3, none⟩ = some (.bool t387)) (ds := []) #[false, false, false, false] (by kernel_rfl) rfl rfl ⟨(blk_cell BK397.out 0).trans rfl, (blk_cell BK397.out 1).trans rfl, (blk_cell BK397.out 2).trans rfl, (blk_cell BK397.out 3).trans rfl, (blk_cell BK390.out 0).trans rfl, (blk_cell BK390.out 1).trans rfl, (blk_cell BK390.out 2).trans rfl, (blk_cell BK390.out 3).trans rfl⟩ (fun hHeld => ?_)
     generalize w200.drew = w201 at BK382 BK383 BK390 BK397 HI0 HK HB hHeld ⊢
     refine take_ (i := 0) (N := some 28) (v := ?_) (a' := ?_) #[true, false, false, false] rfl rfl (by kernel_rfl) (fun _ _ _ h => h) (Or.inl ⟨by rfl, ?_⟩) hHeld ?_ ?_
     rotate_left
     ·
      rintro w' ⟨s0, s1, s2, s3, s4, s5, s6, s7⟩
      go_simp
      with_reducible rfl
     rotate_left
     ·
      simp only [Act.put, List.setIfInBounds_toArray, List.set_cons_zero, List.set_cons_succ, i64_w, i32_w]
      rfl
     refine take_ (i := 1) (N := some 29) (v := ?_) (a' := ?_) #[true, true, false, false] rfl rfl (by kernel_rfl) (fun _ _ _ h => h) (Or.inl ⟨by rfl, ?_⟩) hHeld ?_ ?_
     rotate_left
     ·
      rintro w' ⟨s0, s1, s2, s3, s4, s5, s6, s7⟩
      go_simp
      with_reducible rfl
     rotate_left
     ·
      simp only [Act.put, List.setIfInBounds_toArray, List.set_cons_zero, List.set_cons_succ, i64_w, i32_w]
      rfl
     refine one_ (i := 2) (N := none) #[true, true, true, false] rfl rfl (by kernel_rfl) (by decide) (fun K hK => ?_)
     have hs202 : w201.cell? ⟨gb382, 0, none⟩ = some (.int .i64 0) := (blk_cell BK382.out 0).trans rfl
     have hfs202 := blk_frozen BK382.out 0
     have hns202_1 := NB383_382.out
     have hns202_2 := NB390_382.out
     have hns202_3 := NB397_382.out
     have hms202_1 := NB382_383.out
     have hms202_2 := NB382_390.out
     have hms202_3 := NB382_397.out
     have hs203 : w201.cell? ⟨gb382, 1, none⟩ = some (.int .i64 0) := (blk_cell BK382.out 1).trans rfl
     have hfs203 := blk_frozen BK382.out 1
     have hns203_1 := NB383_382.out
     have hns203_2 := NB390_382.out
     have hns203_3 := NB397_382.out
     have hms203_1 := NB382_383.out
     have hms203_2 := NB382_390.out
     have hms203_3 := NB382_397.out
     have hs204 : w201.cell? ⟨gb382, 2, none⟩ = some (.int .i64 0) := (blk_cell BK382.out 2).trans rfl
     have hfs204 := blk_frozen BK382.out 2
     have hns204_1 := NB383_382.out
     have hns204_2 := NB390_382.out
     have hns204_3 := NB397_382.out
     have hms204_1 := NB382_383.out
     have hms204_2 := NB382_390.out
     have hms204_3 := NB382_397.out
     have hs205 : w201.cell? ⟨gb382, 3, none⟩ = some (.bool false) := (blk_cell BK382.out 3).trans rfl
     have hfs205 := blk_frozen BK382.out 3
     have hns205_1 := NB383_382.out
     have hns205_2 := NB390_382.out
     have hns205_3 := NB397_382.out
     have hms205_1 := NB382_383.out
     have hms205_2 := NB382_390.out
     have hms205_3 := NB382_397.out
     refine skip_ (w1 := ?_) (by rfl) rfl ?_ ?_
     rotate_left
     ·
      go_simp
      rfl
     refine hK.out _ _ ⟨((cell_far (p := ⟨gb382, _, none⟩) NB397_382.out _).trans (((cell_far (p := ⟨gb382, _, none⟩) NB397_382.out _).trans (((cell_far (p := ⟨gb382, _, none⟩) NB397_382.out _).trans (((cell_far (p := ⟨gb382, _, none⟩) NB397_382.out _).trans (hHeld.1)))))))), ((cell_far (p := ⟨gb382, _, none⟩) NB397_382.out _).trans (((cell_far (p := ⟨gb382, _, none⟩) NB397_382.out _).trans (((cell_far (p := ⟨gb382, _, none⟩) NB397_382.out _).trans (((cell_far (p := ⟨gb382, _, none⟩) NB397_382.out _).trans (hHeld.2.1)))))))), ((cell_far (p := ⟨gb382, _, none⟩) NB397_382.out _).trans (((cell_far (p := ⟨gb382, _, none⟩) NB397_382.out _).trans (((cell_far (p := ⟨gb382, _, none⟩) NB397_382.out _).trans (((cell_far (p := ⟨gb382, _, none⟩) NB397_382.out _).trans (hHeld.2.2.1)))))))), ((cell_far (p := ⟨gb382, _, none⟩) NB397_382.out _).trans (((cell_far (p := ⟨gb382, _, none⟩) NB397_382.out _).trans (((cell_far (p := ⟨gb382, _, none⟩) NB397_382.out _).trans (((cell_far (p := ⟨gb382, _, none⟩) NB397_382.out _).trans (hHeld.2.2.2.1)))))))), ((cell_far (p := ⟨gb382, _, none⟩) NB390_382.out _).trans (((cell_far (p := ⟨gb382, _, none⟩) NB390_382.out _).trans (((cell_far (p := ⟨gb382, _, none⟩) NB390_382.out _).trans (((cell_far (p := ⟨gb382, _, none⟩) NB390_382.out _).trans (hHeld.2.2.2.2.1)))))))), ((cell_far (p := ⟨gb382, _, none⟩) NB390_382.out _).trans (((cell_far (p := ⟨gb382, _, none⟩) NB390_382.out _).trans (((cell_far (p := ⟨gb382, _, none⟩) NB390_382.out _).trans (((cell_far (p := ⟨gb382, _, none⟩) NB390_382.out _).trans (hHeld.2.2.2.2.2.1)))))))), ((cell_far (p := ⟨gb382, _, none⟩) NB390_382.out _).trans (((cell_far (p := ⟨gb382, _, none⟩) NB390_382.out _).trans (((cell_far (p := ⟨gb382, _, none⟩) NB390_382.out _).trans (((cell_far (p := ⟨gb382, _, none⟩) NB390_382.out _).trans (hHeld.2.2.2.2.2.2.1)))))))), ((cell_far (p := ⟨gb382, _, none⟩) NB390_382.out _).trans (((cell_far (p := ⟨gb382, _, none⟩) NB390_382.out _).trans (((cell_far (p := ⟨gb382, _, none⟩) NB390_382.out _).trans (((cell_far (p := ⟨gb382, _, none⟩) NB390_382.out _).trans (hHeld.2.2.2.2.2.2.2))))))))⟩ (fun hHeld => ?_)
     clear hK K
     refine one_ (i := 3) (N := none) #[true, true, true, true] rfl rfl (by kernel_rfl) (by decide) (fun K hK => ?_)
     have hs206 : w201.cell? ⟨gb383, 0, none⟩ = some (.int .i64 0) := (blk_cell BK383.out 0).trans rfl
     have hfs206 := blk_frozen BK383.out 0
     have hns206_0 := NB382_383.out
     have hns206_2 := NB390_383.out
     have hns206_3 := NB397_383.out
     have hms206_0 := NB383_382.out
     have hms206_2 := NB383_390.out
     have hms206_3 := NB383_397.out
     have hs207 : w201.cell? ⟨gb383, 1, none⟩ = some (.int .i64 0) := (blk_cell BK383.out 1).trans rfl
     have hfs207 := blk_frozen BK383.out 1
     have hns207_0 := NB382_383.out
     have hns207_2 := NB390_383.out
     have hns207_3 := NB397_383.out
     have hms207_0 := NB383_382.out
     have hms207_2 := NB383_390.out
     have hms207_3 := NB383_397.out
     have hs208 : w201.cell? ⟨gb383, 2, none⟩ = some (.int .i64 0) := (blk_cell BK383.out 2).trans rfl
     have hfs208 := blk_frozen BK383.out 2
     have hns208_0 := NB382_383.out
     have hns208_2 := NB390_383.out
     have hns208_3 := NB397_383.out
     have hms208_0 := NB383_382.out
     have hms208_2 := NB383_390.out
     have hms208_3 := NB383_397.out
     have hs209 : w201.cell? ⟨gb383, 3, none⟩ = some (.bool false) := (blk_cell BK383.out 3).trans rfl
     have hfs209 := blk_frozen BK383.out 3
     have hns209_0 := NB382_383.out
     have hns209_2 := NB390_383.out
     have hns209_3 := NB397_383.out
     have hms209_0 := NB383_382.out
     have hms209_2 := NB383_390.out
     have hms209_3 := NB383_397.out
     refine skip_ (w1 := ?_) (by rfl) rfl ?_ ?_
     rotate_left
     ·
      go_simp
      rfl
     refine hK.out _ _ ⟨((cell_far (p := ⟨gb383, _, none⟩) NB397_383.out _).trans (((cell_far (p := ⟨gb383, _, none⟩) NB397_383.out _).trans (((cell_far (p := ⟨gb383, _, none⟩) NB397_383.out _).trans (((cell_far (p := ⟨gb383, _, none⟩) NB397_383.out _).trans (hHeld.1)))))))), ((cell_far (p := ⟨gb383, _, none⟩) NB397_383.out _).trans (((cell_far (p := ⟨gb383, _, none⟩) NB397_383.out _).trans (((cell_far (p := ⟨gb383, _, none⟩) NB397_383.out _).trans (((cell_far (p := ⟨gb383, _, none⟩) NB397_383.out _).trans (hHeld.2.1)))))))), ((cell_far (p := ⟨gb383, _, none⟩) NB397_383.out _).trans (((cell_far (p := ⟨gb383, _, none⟩) NB397_383.out _).trans (((cell_far (p := ⟨gb383, _, none⟩) NB397_383.out _).trans (((cell_far (p := ⟨gb383, _, none⟩) NB397_383.out _).trans (hHeld.2.2.1)))))))), ((cell_far (p := ⟨gb383, _, none⟩) NB397_383.out _).trans (((cell_far (p := ⟨gb383, _, none⟩) NB397_383.out _).trans (((cell_far (p := ⟨gb383, _, none⟩) NB397_383.out _).trans (((cell_far (p := ⟨gb383, _, none⟩) NB397_383.out _).trans (hHeld.2.2.2.1)))))))), ((cell_far (p := ⟨gb383, _, none⟩) NB390_383.out _).trans (((cell_far (p := ⟨gb383, _, none⟩) NB390_383.out _).trans (((cell_far (p := ⟨gb383, _, none⟩) NB390_383.out _).trans (((cell_far (p := ⟨gb383, _, none⟩) NB390_383.out _).trans (hHeld.2.2.2.2.1)))))))), ((cell_far (p := ⟨gb383, _, none⟩) NB390_383.out _).trans (((cell_far (p := ⟨gb383, _, none⟩) NB390_383.out _).trans (((cell_far (p := ⟨gb383, _, none⟩) NB390_383.out _).trans (((cell_far (p := ⟨gb383, _, none⟩) NB390_383.out _).trans (hHeld.2.2.2.2.2.1)))))))), ((cell_far (p := ⟨gb383, _, none⟩) NB390_383.out _).trans (((cell_far (p := ⟨gb383, _, none⟩) NB390_383.out _).trans (((cell_far (p := ⟨gb383, _, none⟩) NB390_383.out _).trans (((cell_far (p := ⟨gb383, _, none⟩) NB390_383.out _).trans (hHeld.2.2.2.2.2.2.1)))))))), ((cell_far (p := ⟨gb383, _, none⟩) NB390_383.out _).trans (((cell_far (p := ⟨gb383, _, none⟩) NB390_383.out _).trans (((cell_far (p := ⟨gb383, _, none⟩) NB390_383.out _).trans (((cell_far (p := ⟨gb383, _, none⟩) NB390_383.out _).trans (hHeld.2.2.2.2.2.2.2))))))))⟩ (fun hHeld => ?_)
     clear hK K
     refine done_ (by kernel_rfl) ?_
     try go_wp2
     refine bodyPost_ret (results_cc rfl _ _ gb382 gb383 33 33 #[.int .i64 t391, .int .i64 t392, .int .i64 t393, .bool t394] #[.int .i64 t384, .int .i64 t385, .int .i64 t386, .bool t387] (0, 0) (0, 0) _ _ rfl (by (with_reducible repeat (first | refine blk_drewN ?_ _ | refine blk_drew ?_ | refine blk_alloc ?_ _)); refine blk_far ?_ NB382_383.out _; (with_reducible repeat (first | refine blk_drewN ?_ _ | refine blk_drew ?_ | refine blk_alloc ?_ _)); refine blk_far ?_ NB382_383.out _; (with_reducible repeat (first | refine blk_drewN ?_ _ | refine blk_drew ?_ | refine blk_alloc ?_ _)); refine blk_far ?_ NB382_383.out _; (with_reducible repeat (first | refine blk_drewN ?_ _ | refine blk_drew ?_ | refine blk_alloc ?_ _)); refine blk_far ?_ NB382_383.out _; (with_reducible repeat (first | refine blk_drewN ?_ _ | refine blk_drew ?_ | refine blk_alloc ?_ _)); refine blk_put (cs := #[.int .i64 t391, .int .i64 t392, .int .i64 t393, .bool false]) ?_ 3 _ rfl; (with_reducible repeat (first | refine blk_drewN ?_ _ | refine blk_drew ?_ | refine blk_alloc ?_ _)); refine blk_put (cs := #[.int .i64 t391, .int .i64 t392, .int .i64 0, .bool false]) ?_ 2 _ rfl; (with_reducible repeat (first | refine blk_drewN ?_ _ | refine blk_drew ?_ | refine blk_alloc ?_ _)); refine blk_put (cs := #[.int .i64 t391, .int .i64 0, .int .i64 0, .bool false]) ?_ 1 _ rfl; (with_reducible repeat (first | refine blk_drewN ?_ _ | refine blk_drew ?_ | refine blk_alloc ?_ _)); refine blk_put (cs := #[.int .i64 0, .int .i64 0, .int .i64 0, .bool false]) ?_ 0 _ rfl; (with_reducible repeat (first | refine blk_drewN ?_ _ | refine blk_drew ?_ | refine blk_alloc ?_ _)); exact BK382.out) Tryd.underlying33 rfl (by kernel_rfl) rfl au0 Tryd.underlying33 rfl (by kernel_rfl)) rfl ?_
     exact ax11
    ·
     replace c183 := Bool.eq_false_iff.mpr c183
     subst c183
     replace H := (if_neg (show ¬ (false = true) by decide)).symm.trans H
     simp only [Option.some.injEq, Prod.mk.injEq] at H
     obtain ⟨rfl, rfl, rfl, rfl, rfl, rfl, rfl, rfl, rfl, rfl⟩ := H
     go_enter Tryd.func56, Tryd.ntmps56
     try go_wp2_with (first | ((with_reducible refine gate_dst (N := 2) rfl ?_); refine box_event ?hg (N := 2) ?hd (cs := #[.int .i64 0, .int .i64 0, .int .i64 0, .bool false]) (t := 33) ?hr ?_; (case hd => rfl); (case hg => rfl); (case hr => first | (go_simp; done) | (go_simp; rfl)); intro gb382 hg w210 hbox hb; replace HB := Aside0.mk (below_step au82 hb); have BK382 := Aside0.mk (hbox); have GW382 := Aside0.mk ((by rw [hg]; exact (keep_size (w := w) (g := g) (row := none) au99) : w.heap.size ≤ gb382)); have GE382 := Aside0.mk ((Nat.le_trans HW0.out (by rw [hg]; exact (keep_size (w := w) (g := g) (row := none) au99) : w.heap.size ≤ gb382) : w0.heap.size ≤ gb382)); replace HK := Aside0.mk (KeepBut.trans au99 (KeepBut.of_below hb g none) (.inl rfl)); have NB0_382 := Aside0.mk ((by rw [hg]; exact Nat.ne_of_lt (IsS51.lt (show IsS51 w0 _ g s0_0 s0_1 s0_2 from by repeat (first | (with_reducible first | exact HI0.out | apply IsS51.alloc | apply IsS51.drewN | apply IsS51.drew | apply IsS51.set_1 | apply IsS51.set_2) | exact HI0.out))) : g ≠ gb382)); have NB382_0 := Aside0.mk ((by rw [hg]; exact Nat.ne_of_gt (IsS51.lt (show IsS51 w0 _ g s0_0 s0_1 s0_2 from by repeat (first | (with_reducible first | exact HI0.out | apply IsS51.alloc | apply IsS51.drewN | apply IsS51.drew | apply IsS51.set_1 | apply IsS51.set_2) | exact HI0.out))) : gb382 ≠ g)); replace HI0 := Aside0.mk (IsS51.below au83 hb); clear hb hbox hg) | ((with_reducible refine gate_dst (N := 3) rfl ?_); refine box_event ?hg (N := 3) ?hd (cs := #[.int .i64 0, .int .i64 0, .int .i64 0, .bool false]) (t := 33) ?hr ?_; (case hd => rfl); (case hg => rfl); (case hr => first | (go_simp; done) | (go_simp; rfl)); intro gb383 hg w211 hbox hb; replace HB := Aside0.mk (below_step au67 hb); have BK383 := Aside0.mk (hbox); have GW383 := Aside0.mk ((by rw [hg]; exact (keep_size (w := w) (g := g) (row := none) au79) : w.heap.size ≤ gb383)); have GE383 := Aside0.mk ((Nat.le_trans HW0.out (by rw [hg]; exact (keep_size (w := w) (g := g) (row := none) au79) : w.heap.size ≤ gb383) : w0.heap.size ≤ gb383)); replace HK := Aside0.mk (KeepBut.trans au79 (KeepBut.of_below hb g none) (.inl rfl)); have NB382_383 := Aside0.mk (bne (g := gb382) hg au115); have NB383_382 := Aside0.mk (ben (g := gb382) hg au115); replace BK382 := Aside0.mk (blk_below (g := gb382) au115 hb); have NB0_383 := Aside0.mk ((by rw [hg]; exact Nat.ne_of_lt (IsS51.lt (show IsS51 w0 _ g s0_0 s0_1 s0_2 from by repeat (first | (with_reducible first | exact HI0.out | apply IsS51.alloc | apply IsS51.drewN | apply IsS51.drew | apply IsS51.set_1 | apply IsS51.set_2 | refine IsS51.far ?_ NB0_382.out _) | exact HI0.out))) : g ≠ gb383)); have NB383_0 := Aside0.mk ((by rw [hg]; exact Nat.ne_of_gt (IsS51.lt (show IsS51 w0 _ g s0_0 s0_1 s0_2 from by repeat (first | (with_reducible first | exact HI0.out | apply IsS51.alloc | apply IsS51.drewN | apply IsS51.drew | apply IsS51.set_1 | apply IsS51.set_2 | refine IsS51.far ?_ NB0_382.out _) | exact HI0.out))) : gb383 ≠ g)); replace HI0 := Aside0.mk (IsS51.below au64 hb); clear hb hbox hg) | ((with_reducible refine gate_callee (f := 72) rfl ?_); refine goesL_ (some 7) rfl rfl Tryd.func72 (by kernel_rfl) rfl #[.pointer (some ⟨g, 0, none⟩)] rfl au100 ?_; (with_reducible refine (spec_l1Cur_anyDate.calls g s0_0 s0_1 s0_2 t384 t385 t386 t387 t388 t389 w0 _ ?side1 ?side2 A2.out).mono ?_); (case side1 => repeat (first | (with_reducible first | exact HI0.out | apply IsS51.alloc | apply IsS51.drewN | apply IsS51.drew | apply IsS51.set_1 | apply IsS51.set_2 | refine IsS51.far ?_ NB0_382.out _ | refine IsS51.far ?_ NB0_383.out _) | exact HI0.out)); (case side2 => repeat (first | (with_reducible first | exact HB.out | apply below_alloc | apply pw_below_drewN | apply below_drew1 | refine below_set ?_ (IsS51.ge HI0.out) | refine below_set ?_ GE382.out | refine below_set ?_ GE383.out) | exact HB.out)); rintro e w212 ⟨rfl, hi, hb, hk⟩; refine ⟨_, rfl, ?_⟩; replace BK382 := Aside0.mk (KeepBut.blk hk (g' := gb382) (o := .cells #[.int .i64 0, .int .i64 0, .int .i64 0, .bool false] 33 (0, 0)) au115 NB382_0.out (by simp)); replace BK383 := Aside0.mk (KeepBut.blk hk (g' := gb383) (o := .cells #[.int .i64 0, .int .i64 0, .int .i64 0, .bool false] 33 (0, 0)) au116 NB383_0.out (by simp)); replace HK := Aside0.mk (KeepBut.trans au61 hk (.inl rfl)); replace HB := Aside0.mk (hb); replace HI0 := Aside0.mk (hi); (try clear hb); (try clear hk); (try clear hi)) | ((with_reducible refine gate_dst (N := 4) rfl ?_); refine box_event ?hg (N := 4) ?hd (cs := #[.int .i64 0, .int .i64 0, .int .i64 0, .bool false]) (t := 33) ?hr ?_; (case hd => rfl); (case hg => rfl); (case hr => first | (go_simp; done) | (go_simp; rfl)); intro gb390 hg w213 hbox hb; replace HB := Aside0.mk (below_step au56 hb); have BK390 := Aside0.mk (hbox); have GW390 := Aside0.mk ((by rw [hg]; exact (keep_size (w := w) (g := g) (row := none) au61) : w.heap.size ≤ gb390)); have GE390 := Aside0.mk ((Nat.le_trans HW0.out (by rw [hg]; exact (keep_size (w := w) (g := g) (row := none) au61) : w.heap.size ≤ gb390) : w0.heap.size ≤ gb390)); replace HK := Aside0.mk (KeepBut.trans au61 (KeepBut.of_below hb g none) (.inl rfl)); have NB382_390 := Aside0.mk (bne (g := gb382) hg au115); have NB390_382 := Aside0.mk (ben (g := gb382) hg au115); replace BK382 := Aside0.mk (blk_below (g := gb382) au115 hb); have NB383_390 := Aside0.mk (bne (g := gb383) hg au116); have NB390_383 := Aside0.mk (ben (g := gb383) hg au116); replace BK383 := Aside0.mk (blk_below (g := gb383) au116 hb); have NB0_390 := Aside0.mk ((by rw [hg]; exact Nat.ne_of_lt (IsS51.lt (show IsS51 w0 _ g s0_0 t388 t389 from by repeat (first | (with_reducible first | exact HI0.out | apply IsS51.alloc | apply IsS51.drewN | apply IsS51.drew | apply IsS51.set_1 | apply IsS51.set_2 | refine IsS51.far ?_ NB0_382.out _ | refine IsS51.far ?_ NB0_383.out _) | exact HI0.out))) : g ≠ gb390)); have NB390_0 := Aside0.mk ((by rw [hg]; exact Nat.ne_of_gt (IsS51.lt (show IsS51 w0 _ g s0_0 t388 t389 from by repeat (first | (with_reducible first | exact HI0.out | apply IsS51.alloc | apply IsS51.drewN | apply IsS51.drew | apply IsS51.set_1 | apply IsS51.set_2 | refine IsS51.far ?_ NB0_382.out _ | refine IsS51.far ?_ NB0_383.out _) | exact HI0.out))) : gb390 ≠ g)); replace HI0 := Aside0.mk (IsS51.below au54 hb); clear hb hbox hg; have hnb214 := NB390_382.out; have hnc214 := NB382_390.out; have hnb215 := NB390_383.out; have hnc215 := NB383_390.out; have hnb216 := NB390_0.out; have hnc216 := NB0_390.out; obtain ⟨hcz217_0, hcz217_1, hcz217_2, hcz217_3, hfz217_0, hfz217_1, hfz217_2, hfz217_3⟩ := blkc4 BK390.out) | ((with_reducible refine gate_callee (f := 72) rfl ?_); refine goesL_ (some 9) rfl rfl Tryd.func72 (by kernel_rfl) rfl #[.pointer (some ⟨g, 0, none⟩)] rfl au100 ?_; (with_reducible refine (spec_l1Cur_anyDate.calls g s0_0 t388 t389 t391 t392 t393 t394 t395 t396 w0 _ ?side1 ?side2 A3.out).mono ?_); (case side1 => repeat (first | (with_reducible first | exact HI0.out | apply IsS51.alloc | apply IsS51.drewN | apply IsS51.drew | apply IsS51.set_1 | apply IsS51.set_2 | refine IsS51.far ?_ NB0_382.out _ | refine IsS51.far ?_ NB0_383.out _ | refine IsS51.far ?_ NB0_390.out _) | exact HI0.out)); (case side2 => repeat (first | (with_reducible first | exact HB.out | apply below_alloc | apply pw_below_drewN | apply below_drew1 | refine below_set ?_ (IsS51.ge HI0.out) | refine below_set ?_ GE382.out | refine below_set ?_ GE383.out | refine below_set ?_ GE390.out) | exact HB.out)); rintro e w218 ⟨rfl, hi, hb, hk⟩; refine ⟨_, rfl, ?_⟩; replace BK382 := Aside0.mk (KeepBut.blk hk (g' := gb382) (o := .cells #[.int .i64 0, .int .i64 0, .int .i64 0, .bool false] 33 (0, 0)) au30 NB382_0.out (by simp)); replace BK383 := Aside0.mk (KeepBut.blk hk (g' := gb383) (o := .cells #[.int .i64 0, .int .i64 0, .int .i64 0, .bool false] 33 (0, 0)) au31 NB383_0.out (by simp)); replace BK390 := Aside0.mk (KeepBut.blk hk (g' := gb390) (o := .cells #[.int .i64 t384, .int .i64 t385, .int .i64 t386, .bool t387] 33 (0, 0)) au19 NB390_0.out (by simp)); replace HK := Aside0.mk (KeepBut.trans au52 hk (.inl rfl)); replace HB := Aside0.mk (hb); replace HI0 := Aside0.mk (hi); (try clear hb); (try clear hk); (try clear hi)) | ((with_reducible refine gate_dst (N := 5) rfl ?_); refine box_event ?hg (N := 5) ?hd (cs := #[.int .i64 0, .int .i64 0, .int .i64 0, .bool false]) (t := 33) ?hr ?_; (case hd => rfl); (case hg => rfl); (case hr => first | (go_simp; done) | (go_simp; rfl)); intro gb397 hg w219 hbox hb; replace HB := Aside0.mk (below_step au48 hb); have BK397 := Aside0.mk (hbox); have GW397 := Aside0.mk ((by rw [hg]; exact (keep_size (w := w) (g := g) (row := none) au52) : w.heap.size ≤ gb397)); have GE397 := Aside0.mk ((Nat.le_trans HW0.out (by rw [hg]; exact (keep_size (w := w) (g := g) (row := none) au52) : w.heap.size ≤ gb397) : w0.heap.size ≤ gb397)); replace HK := Aside0.mk (KeepBut.trans au52 (KeepBut.of_below hb g none) (.inl rfl)); have NB382_397 := Aside0.mk (bne (g := gb382) hg au115); have NB397_382 := Aside0.mk (ben (g := gb382) hg au115); replace BK382 := Aside0.mk (blk_below (g := gb382) au115 hb); have NB383_397 := Aside0.mk (bne (g := gb383) hg au116); have NB397_383 := Aside0.mk (ben (g := gb383) hg au116); replace BK383 := Aside0.mk (blk_below (g := gb383) au116 hb); have NB390_397 := Aside0.mk (bne (g := gb390) hg au117); have NB397_390 := Aside0.mk (ben (g := gb390) hg au117); replace BK390 := Aside0.mk (blk_below (g := gb390) au117 hb); have NB0_397 := Aside0.mk ((by rw [hg]; exact Nat.ne_of_lt (IsS51.lt (show IsS51 w0 _ g s0_0 t395 t396 from by repeat (first | (with_reducible first | exact HI0.out | apply IsS51.alloc | apply IsS51.drewN | apply IsS51.drew | apply IsS51.set_1 | apply IsS51.set_2 | refine IsS51.far ?_ NB0_382.out _ | refine IsS51.far ?_ NB0_383.out _ | refine IsS51.far ?_ NB0_390.out _) | exact HI0.out))) : g ≠ gb397)); have NB397_0 := Aside0.mk ((by rw [hg]; exact Nat.ne_of_gt (IsS51.lt (show IsS51 w0 _ g s0_0 t395 t396 from by repeat (first | (with_reducible first | exact HI0.out | apply IsS51.alloc | apply IsS51.drewN | apply IsS51.drew | apply IsS51.set_1 | apply IsS51.set_2 | refine IsS51.far ?_ NB0_382.out _ | refine IsS51.far ?_ NB0_383.out _ | refine IsS51.far ?_ NB0_390.out _) | exact HI0.out))) : gb397 ≠ g)); replace HI0 := Aside0.mk (IsS51.below au46 hb); clear hb hbox hg; have hnb220 := NB397_382.out; have hnc220 := NB382_397.out; have hnb221 := NB397_383.out; have hnc221 := NB383_397.out; have hnb222 := NB397_390.out; have hnc222 := NB390_397.out; have hnb223 := NB397_0.out; have hnc223 := NB0_397.out; obtain ⟨hcz224_0, hcz224_1, hcz224_2, hcz224_3, hfz224_0, hfz224_1, hfz224_2, hfz224_3⟩ := blkc4 BK397.out) | ((with_reducible refine gate_callee (f := 31) rfl ?_); refine goesL_ (some 11) rfl rfl Tryd.func31 (by kernel_rfl) rfl #[.pointer (some ⟨g, 0, none⟩), .int .i64 4] rfl au100 ?_; (with_reducible refine (spec_l1Cur_pick.calls g s0_0 t395 t396 4 t398 t399 t400 w0 _ ?side1 ?side2 A4.out).mono ?_); (case side1 => repeat (first | (with_reducible first | exact HI0.out | apply IsS51.alloc | apply IsS51.drewN | apply IsS51.drew | apply IsS51.set_1 | apply IsS51.set_2 | refine IsS51.far ?_ NB0_382.out _ | refine IsS51.far ?_ NB0_383.out _ | refine IsS51.far ?_ NB0_390.out _ | refine IsS51.far ?_ NB0_397.out _) | exact HI0.out)); (case side2 => repeat (first | (with_reducible first | exact HB.out | apply below_alloc | apply pw_below_drewN | apply below_drew1 | refine below_set ?_ (IsS51.ge HI0.out) | refine below_set ?_ GE382.out | refine below_set ?_ GE383.out | refine below_set ?_ GE390.out | refine below_set ?_ GE397.out) | exact HB.out)); rintro e w225 ⟨rfl, hi, hb, hk⟩; refine ⟨_, rfl, ?_⟩; replace BK382 := Aside0.mk (KeepBut.blk hk (g' := gb382) (o := .cells #[.int .i64 0, .int .i64 0, .int .i64 0, .bool false] 33 (0, 0)) au32 NB382_0.out (by simp)); replace BK383 := Aside0.mk (KeepBut.blk hk (g' := gb383) (o := .cells #[.int .i64 0, .int .i64 0, .int .i64 0, .bool false] 33 (0, 0)) au33 NB383_0.out (by simp)); replace BK390 := Aside0.mk (KeepBut.blk hk (g' := gb390) (o := .cells #[.int .i64 t384, .int .i64 t385, .int .i64 t386, .bool t387] 33 (0, 0)) au34 NB390_0.out (by simp)); replace BK397 := Aside0.mk (KeepBut.blk hk (g' := gb397) (o := .cells #[.int .i64 t391, .int .i64 t392, .int .i64 t393, .bool t394] 33 (0, 0)) au20 NB397_0.out (by simp)); replace HK := Aside0.mk (KeepBut.trans au47 hk (.inl rfl)); replace HB := Aside0.mk (hb); replace HI0 := Aside0.mk (hi); (try clear hb); (try clear hk); (try clear hi)) | ((with_reducible refine gate_callee (f := 36) rfl ?_); refine goesL_ (some 27) rfl rfl Tryd.func36 (by kernel_rfl) rfl #[.pointer (some ⟨g, 0, none⟩), .int .i64 2] rfl au100 ?_; (with_reducible refine (spec_l1Cur_one.calls g s0_0 t399 t400 2 false t411 t412 w0 _ ?side1 ?side2 A182.out).mono ?_); (case side1 => repeat (first | (with_reducible first | exact HI0.out | apply IsS51.alloc | apply IsS51.drewN | apply IsS51.drew | apply IsS51.set_1 | apply IsS51.set_2 | refine IsS51.far ?_ NB0_382.out _ | refine IsS51.far ?_ NB0_383.out _ | refine IsS51.far ?_ NB0_390.out _ | refine IsS51.far ?_ NB0_397.out _) | exact HI0.out)); (case side2 => repeat (first | (with_reducible first | exact HB.out | apply below_alloc | apply pw_below_drewN | apply below_drew1 | refine below_set ?_ (IsS51.ge HI0.out) | refine below_set ?_ GE382.out | refine below_set ?_ GE383.out | refine below_set ?_ GE390.out | refine below_set ?_ GE397.out) | exact HB.out)); rintro e w226 ⟨rfl, hi, hb, hk⟩; refine ⟨_, rfl, ?_⟩; replace BK382 := Aside0.mk (KeepBut.blk hk (g' := gb382) (o := .cells #[.int .i64 0, .int .i64 0, .int .i64 0, .bool false] 33 (0, 0)) au115 NB382_0.out (by simp)); replace BK383 := Aside0.mk (KeepBut.blk hk (g' := gb383) (o := .cells #[.int .i64 0, .int .i64 0, .int .i64 0, .bool false] 33 (0, 0)) au116 NB383_0.out (by simp)); replace BK390 := Aside0.mk (KeepBut.blk hk (g' := gb390) (o := .cells #[.int .i64 t384, .int .i64 t385, .int .i64 t386, .bool t387] 33 (0, 0)) au117 NB390_0.out (by simp)); replace BK397 := Aside0.mk (KeepBut.blk hk (g' := gb397) (o := .cells #[.int .i64 t391, .int .i64 t392, .int .i64 t393, .bool t394] 33 (0, 0)) au118 NB397_0.out (by simp)); replace HK := Aside0.mk (KeepBut.trans au47 hk (.inl rfl)); replace HB := Aside0.mk (hb); replace HI0 := Aside0.mk (hi); (try clear hb); (try clear hk); (try clear hi)))
     replace BK382 := Aside0.mk (blk_drew BK382.out)
     replace BK383 := Aside0.mk (blk_drew BK383.out)
     replace BK390 := Aside0.mk (blk_drew BK390.out)
     replace BK397 := Aside0.mk (blk_drew BK397.out)
     replace HI0 := Aside0.mk (IsS51.drew HI0.out)
     replace HK := Aside0.mk (keep_drew HK.out)
     replace HB := Aside0.mk (below_drew1 HB.out)
     refine start_ (n := 4) (S := fun w' => w'.cell? ⟨gb390, 0, none⟩ = some (.int .i64 t384) ∧ w'.cell? ⟨gb390, 1, none⟩ = some (.int .i64 t385) ∧ w'.cell? ⟨gb390, 2, none⟩ = some (.int .i64 t386) ∧ w'.cell? ⟨gb390, 3, none⟩ = some (.bool t387) ∧ w'.cell? ⟨gb397, 0, none⟩ = some (.int .i64 t391) ∧ w'.cell? ⟨gb397, 1, none⟩ = some (.int .i64 t392) ∧ w'.cell? ⟨gb397, 2, none⟩ = some (.int .i64 t393) ∧ w'.cell? ⟨gb397, 3, none⟩ = some (.bool t394)) (ds := []) #[false, false, false, false] (by kernel_rfl) rfl rfl ⟨(blk_cell BK390.out 0).trans rfl, (blk_cell BK390.out 1).trans rfl, (blk_cell BK390.out 2).trans rfl, (blk_cell BK390.out 3).trans rfl, (blk_cell BK397.out 0).trans rfl, (blk_cell BK397.out 1).trans rfl, (blk_cell BK397.out 2).trans rfl, (blk_cell BK397.out 3).trans rfl⟩ (fun hHeld => ?_)
     generalize w226.drew = w227 at BK382 BK383 BK390 BK397 HI0 HK HB hHeld ⊢
     refine take_ (i := 0) (N := some 30) (v := ?_) (a' := ?_) #[true, false, false, false] rfl rfl (by kernel_rfl) (fun _ _ _ h => h) (Or.inl ⟨by rfl, ?_⟩) hHeld ?_ ?_
     rotate_left
     ·
      rintro w' ⟨s0, s1, s2, s3, s4, s5, s6, s7⟩
      go_simp
      with_reducible rfl
     rotate_left
     ·
      simp only [Act.put, List.setIfInBounds_toArray, List.set_cons_zero, List.set_cons_succ, i64_w, i32_w]
      rfl
     refine take_ (i := 1) (N := some 31) (v := ?_) (a' := ?_) #[true, true, false, false] rfl rfl (by kernel_rfl) (fun _ _ _ h => h) (Or.inl ⟨by rfl, ?_⟩) hHeld ?_ ?_
     rotate_left
     ·
      rintro w' ⟨s0, s1, s2, s3, s4, s5, s6, s7⟩
      go_simp
      with_reducible rfl
     rotate_left
     ·
      simp only [Act.put, List.setIfInBounds_toArray, List.set_cons_zero, List.set_cons_succ, i64_w, i32_w]
      rfl
     refine one_ (i := 2) (N := none) #[true, true, true, false] rfl rfl (by kernel_rfl) (by decide) (fun K hK => ?_)
     have hs228 : w227.cell? ⟨gb382, 0, none⟩ = some (.int .i64 0) := (blk_cell BK382.out 0).trans rfl
     have hfs228 := blk_frozen BK382.out 0
     have hns228_1 := NB383_382.out
     have hns228_2 := NB390_382.out
     have hns228_3 := NB397_382.out
     have hms228_1 := NB382_383.out
     have hms228_2 := NB382_390.out
     have hms228_3 := NB382_397.out
     have hs229 : w227.cell? ⟨gb382, 1, none⟩ = some (.int .i64 0) := (blk_cell BK382.out 1).trans rfl
     have hfs229 := blk_frozen BK382.out 1
     have hns229_1 := NB383_382.out
     have hns229_2 := NB390_382.out
     have hns229_3 := NB397_382.out
     have hms229_1 := NB382_383.out
     have hms229_2 := NB382_390.out
     have hms229_3 := NB382_397.out
     have hs230 : w227.cell? ⟨gb382, 2, none⟩ = some (.int .i64 0) := (blk_cell BK382.out 2).trans rfl
     have hfs230 := blk_frozen BK382.out 2
     have hns230_1 := NB383_382.out
     have hns230_2 := NB390_382.out
     have hns230_3 := NB397_382.out
     have hms230_1 := NB382_383.out
     have hms230_2 := NB382_390.out
     have hms230_3 := NB382_397.out
     have hs231 : w227.cell? ⟨gb382, 3, none⟩ = some (.bool false) := (blk_cell BK382.out 3).trans rfl
     have hfs231 := blk_frozen BK382.out 3
     have hns231_1 := NB383_382.out
     have hns231_2 := NB390_382.out
     have hns231_3 := NB397_382.out
     have hms231_1 := NB382_383.out
     have hms231_2 := NB382_390.out
     have hms231_3 := NB382_397.out
     refine skip_ (w1 := ?_) (by rfl) rfl ?_ ?_
     rotate_left
     ·
      go_simp
      rfl
     refine hK.out _ _ ⟨((cell_far (p := ⟨gb382, _, none⟩) NB390_382.out _).trans (((cell_far (p := ⟨gb382, _, none⟩) NB390_382.out _).trans (((cell_far (p := ⟨gb382, _, none⟩) NB390_382.out _).trans (((cell_far (p := ⟨gb382, _, none⟩) NB390_382.out _).trans (hHeld.1)))))))), ((cell_far (p := ⟨gb382, _, none⟩) NB390_382.out _).trans (((cell_far (p := ⟨gb382, _, none⟩) NB390_382.out _).trans (((cell_far (p := ⟨gb382, _, none⟩) NB390_382.out _).trans (((cell_far (p := ⟨gb382, _, none⟩) NB390_382.out _).trans (hHeld.2.1)))))))), ((cell_far (p := ⟨gb382, _, none⟩) NB390_382.out _).trans (((cell_far (p := ⟨gb382, _, none⟩) NB390_382.out _).trans (((cell_far (p := ⟨gb382, _, none⟩) NB390_382.out _).trans (((cell_far (p := ⟨gb382, _, none⟩) NB390_382.out _).trans (hHeld.2.2.1)))))))), ((cell_far (p := ⟨gb382, _, none⟩) NB390_382.out _).trans (((cell_far (p := ⟨gb382, _, none⟩) NB390_382.out _).trans (((cell_far (p := ⟨gb382, _, none⟩) NB390_382.out _).trans (((cell_far (p := ⟨gb382, _, none⟩) NB390_382.out _).trans (hHeld.2.2.2.1)))))))), ((cell_far (p := ⟨gb382, _, none⟩) NB397_382.out _).trans (((cell_far (p := ⟨gb382, _, none⟩) NB397_382.out _).trans (((cell_far (p := ⟨gb382, _, none⟩) NB397_382.out _).trans (((cell_far (p := ⟨gb382, _, none⟩) NB397_382.out _).trans (hHeld.2.2.2.2.1)))))))), ((cell_far (p := ⟨gb382, _, none⟩) NB397_382.out _).trans (((cell_far (p := ⟨gb382, _, none⟩) NB397_382.out _).trans (((cell_far (p := ⟨gb382, _, none⟩) NB397_382.out _).trans (((cell_far (p := ⟨gb382, _, none⟩) NB397_382.out _).trans (hHeld.2.2.2.2.2.1)))))))), ((cell_far (p := ⟨gb382, _, none⟩) NB397_382.out _).trans (((cell_far (p := ⟨gb382, _, none⟩) NB397_382.out _).trans (((cell_far (p := ⟨gb382, _, none⟩) NB397_382.out _).trans (((cell_far (p := ⟨gb382, _, none⟩) NB397_382.out _).trans (hHeld.2.2.2.2.2.2.1)))))))), ((cell_far (p := ⟨gb382, _, none⟩) NB397_382.out _).trans (((cell_far (p := ⟨gb382, _, none⟩) NB397_382.out _).trans (((cell_far (p := ⟨gb382, _, none⟩) NB397_382.out _).trans (((cell_far (p := ⟨gb382, _, none⟩) NB397_382.out _).trans (hHeld.2.2.2.2.2.2.2))))))))⟩ (fun hHeld => ?_)
     clear hK K
     refine one_ (i := 3) (N := none) #[true, true, true, true] rfl rfl (by kernel_rfl) (by decide) (fun K hK => ?_)
     have hs232 : w227.cell? ⟨gb383, 0, none⟩ = some (.int .i64 0) := (blk_cell BK383.out 0).trans rfl
     have hfs232 := blk_frozen BK383.out 0
     have hns232_0 := NB382_383.out
     have hns232_2 := NB390_383.out
     have hns232_3 := NB397_383.out
     have hms232_0 := NB383_382.out
     have hms232_2 := NB383_390.out
     have hms232_3 := NB383_397.out
     have hs233 : w227.cell? ⟨gb383, 1, none⟩ = some (.int .i64 0) := (blk_cell BK383.out 1).trans rfl
     have hfs233 := blk_frozen BK383.out 1
     have hns233_0 := NB382_383.out
     have hns233_2 := NB390_383.out
     have hns233_3 := NB397_383.out
     have hms233_0 := NB383_382.out
     have hms233_2 := NB383_390.out
     have hms233_3 := NB383_397.out
     have hs234 : w227.cell? ⟨gb383, 2, none⟩ = some (.int .i64 0) := (blk_cell BK383.out 2).trans rfl
     have hfs234 := blk_frozen BK383.out 2
     have hns234_0 := NB382_383.out
     have hns234_2 := NB390_383.out
     have hns234_3 := NB397_383.out
     have hms234_0 := NB383_382.out
     have hms234_2 := NB383_390.out
     have hms234_3 := NB383_397.out
     have hs235 : w227.cell? ⟨gb383, 3, none⟩ = some (.bool false) := (blk_cell BK383.out 3).trans rfl
     have hfs235 := blk_frozen BK383.out 3
     have hns235_0 := NB382_383.out
     have hns235_2 := NB390_383.out
     have hns235_3 := NB397_383.out
     have hms235_0 := NB383_382.out
     have hms235_2 := NB383_390.out
     have hms235_3 := NB383_397.out
     refine skip_ (w1 := ?_) (by rfl) rfl ?_ ?_
     rotate_left
     ·
      go_simp
      rfl
     refine hK.out _ _ ⟨((cell_far (p := ⟨gb383, _, none⟩) NB390_383.out _).trans (((cell_far (p := ⟨gb383, _, none⟩) NB390_383.out _).trans (((cell_far (p := ⟨gb383, _, none⟩) NB390_383.out _).trans (((cell_far (p := ⟨gb383, _, none⟩) NB390_383.out _).trans (hHeld.1)))))))), ((cell_far (p := ⟨gb383, _, none⟩) NB390_383.out _).trans (((cell_far (p := ⟨gb383, _, none⟩) NB390_383.out _).trans (((cell_far (p := ⟨gb383, _, none⟩) NB390_383.out _).trans (((cell_far (p := ⟨gb383, _, none⟩) NB390_383.out _).trans (hHeld.2.1)))))))), ((cell_far (p := ⟨gb383, _, none⟩) NB390_383.out _).trans (((cell_far (p := ⟨gb383, _, none⟩) NB390_383.out _).trans (((cell_far (p := ⟨gb383, _, none⟩) NB390_383.out _).trans (((cell_far (p := ⟨gb383, _, none⟩) NB390_383.out _).trans (hHeld.2.2.1)))))))), ((cell_far (p := ⟨gb383, _, none⟩) NB390_383.out _).trans (((cell_far (p := ⟨gb383, _, none⟩) NB390_383.out _).trans (((cell_far (p := ⟨gb383, _, none⟩) NB390_383.out _).trans (((cell_far (p := ⟨gb383, _, none⟩) NB390_383.out _).trans (hHeld.2.2.2.1)))))))), ((cell_far (p := ⟨gb383, _, none⟩) NB397_383.out _).trans (((cell_far (p := ⟨gb383, _, none⟩) NB397_383.out _).trans (((cell_far (p := ⟨gb383, _, none⟩) NB397_383.out _).trans (((cell_far (p := ⟨gb383, _, none⟩) NB397_383.out _).trans (hHeld.2.2.2.2.1)))))))), ((cell_far (p := ⟨gb383, _, none⟩) NB397_383.out _).trans (((cell_far (p := ⟨gb383, _, none⟩) NB397_383.out _).trans (((cell_far (p := ⟨gb383, _, none⟩) NB397_383.out _).trans (((cell_far (p := ⟨gb383, _, none⟩) NB397_383.out _).trans (hHeld.2.2.2.2.2.1)))))))), ((cell_far (p := ⟨gb383, _, none⟩) NB397_383.out _).trans (((cell_far (p := ⟨gb383, _, none⟩) NB397_383.out _).trans (((cell_far (p := ⟨gb383, _, none⟩) NB397_383.out _).trans (((cell_far (p := ⟨gb383, _, none⟩) NB397_383.out _).trans (hHeld.2.2.2.2.2.2.1)))))))), ((cell_far (p := ⟨gb383, _, none⟩) NB397_383.out _).trans (((cell_far (p := ⟨gb383, _, none⟩) NB397_383.out _).trans (((cell_far (p := ⟨gb383, _, none⟩) NB397_383.out _).trans (((cell_far (p := ⟨gb383, _, none⟩) NB397_383.out _).trans (hHeld.2.2.2.2.2.2.2))))))))⟩ (fun hHeld => ?_)
     clear hK K
     refine done_ (by kernel_rfl) ?_
     try go_wp2
     refine bodyPost_ret (results_cc rfl _ _ gb382 gb383 33 33 #[.int .i64 t384, .int .i64 t385, .int .i64 t386, .bool t387] #[.int .i64 t391, .int .i64 t392, .int .i64 t393, .bool t394] (0, 0) (0, 0) _ _ rfl au1 Tryd.underlying33 rfl (by kernel_rfl) rfl (by (with_reducible repeat (first | refine blk_drewN ?_ _ | refine blk_drew ?_ | refine blk_alloc ?_ _)); refine blk_put (cs := #[.int .i64 t391, .int .i64 t392, .int .i64 t393, .bool false]) ?_ 3 _ rfl; (with_reducible repeat (first | refine blk_drewN ?_ _ | refine blk_drew ?_ | refine blk_alloc ?_ _)); refine blk_put (cs := #[.int .i64 t391, .int .i64 t392, .int .i64 0, .bool false]) ?_ 2 _ rfl; (with_reducible repeat (first | refine blk_drewN ?_ _ | refine blk_drew ?_ | refine blk_alloc ?_ _)); refine blk_put (cs := #[.int .i64 t391, .int .i64 0, .int .i64 0, .bool false]) ?_ 1 _ rfl; (with_reducible repeat (first | refine blk_drewN ?_ _ | refine blk_drew ?_ | refine blk_alloc ?_ _)); refine blk_put (cs := #[.int .i64 0, .int .i64 0, .int .i64 0, .bool false]) ?_ 0 _ rfl; (with_reducible repeat (first | refine blk_drewN ?_ _ | refine blk_drew ?_ | refine blk_alloc ?_ _)); refine blk_far ?_ NB383_382.out _; (with_reducible repeat (first | refine blk_drewN ?_ _ | refine blk_drew ?_ | refine blk_alloc ?_ _)); refine blk_far ?_ NB383_382.out _; (with_reducible repeat (first | refine blk_drewN ?_ _ | refine blk_drew ?_ | refine blk_alloc ?_ _)); refine blk_far ?_ NB383_382.out _; (with_reducible repeat (first | refine blk_drewN ?_ _ | refine blk_drew ?_ | refine blk_alloc ?_ _)); refine blk_far ?_ NB383_382.out _; (with_reducible repeat (first | refine blk_drewN ?_ _ | refine blk_drew ?_ | refine blk_alloc ?_ _)); exact BK383.out) Tryd.underlying33 rfl (by kernel_rfl)) rfl ?_
     exact ax11


/-! ### spec_DrawCompareDates: function 25 -/
def spec_DrawCompareDates.f (l0 : List Int) : Option (Int × Int × Int × Bool × Int × Int × Int × Bool) := (spec_l1Cur_twoDates.f l0 0 0).bind fun bt416 => (some (bt416.1, bt416.2.1, bt416.2.2.1, bt416.2.2.2.1, bt416.2.2.2.2.1, bt416.2.2.2.2.2.1, bt416.2.2.2.2.2.2.1, bt416.2.2.2.2.2.2.2.1))
set_option maxHeartbeats 8000000 in
set_option maxRecDepth 100000 in
theorem spec_DrawCompareDates.calls (A0 : Option Addr) (c0 : Nat) (l0 : List Int) (r1 : Int) (r2 : Int) (r3 : Int) (r4 : Bool) (r5 : Int) (r6 : Int) (r7 : Int) (r8 : Bool) (w : World) (hr0 : Kd.C (Kd.int .u8) w A0 l0.length l0) (hc0 : l0.length ≤ c0) (h : spec_DrawCompareDates.f l0 = some (r1, r2, r3, r4, r5, r6, r7, r8)) :
  Calls Tryd.prog 25 #[.slice A0 l0.length c0] w fun e w' => e = .returned (.tuple #[.agg #[.int .i64 r1, .int .i64 r2, .int .i64 r3, .bool r4], .agg #[.int .i64 r5, .int .i64 r6, .int .i64 r7, .bool r8]]) ∧ Below w.heap.size w w' := by
 have hu33 := Tryd.underlying33
 have hu51 := Tryd.underlying51
 have HR0 := Aside0.mk hr0
 have HC0 := Aside0.mk hc0
 clear hr0 hc0
 have HB := Aside0.mk (Below.refl w.heap.size w)
 have H : ((spec_l1Cur_twoDates.f l0 0 0).bind fun bt416 => (some (bt416.1, bt416.2.1, bt416.2.2.1, bt416.2.2.2.1, bt416.2.2.2.2.1, bt416.2.2.2.2.2.1, bt416.2.2.2.2.2.2.1, bt416.2.2.2.2.2.2.2.1))) = some (r1, r2, r3, r4, r5, r6, r7, r8) := h
 clear h
 replace H := Option.bind_eq_some_iff.mp H
 obtain ⟨⟨t416, t417, t418, t419, t420, t421, t422, t423, t424, t425⟩, A20, H⟩ := H
 replace H : (some (t416, t417, t418, t419, t420, t421, t422, t423)) = some (r1, r2, r3, r4, r5, r6, r7, r8) := H
 have A2 := Aside0.mk A20
 clear A20
 simp only [Option.some.injEq, Prod.mk.injEq] at H
 obtain ⟨rfl, rfl, rfl, rfl, rfl, rfl, rfl, rfl⟩ := H
 go_enter Tryd.func25, Tryd.ntmps25
 go_wp2_with (first | ((with_reducible refine gate_dst (N := 2) rfl ?_); refine box_event ?hg (N := 2) ?hd (cs := #[.int .i64 0, .int .i64 0, .int .i64 0, .bool false]) (t := 33) ?hr ?_; (case hd => rfl); (case hg => rfl); (case hr => first | (go_simp; done) | (go_simp; rfl)); intro gb413 hg w3 hbox hb; have BK413 := Aside0.mk (hbox); have GW413 := Aside0.mk (bsz hg au101); have GE413 := Aside0.mk (bsz hg au101); replace HB := Aside0.mk (below_step au101 hb); clear hb hbox hg) | ((with_reducible refine gate_dst (N := 3) rfl ?_); refine box_event ?hg (N := 3) ?hd (cs := #[.int .i64 0, .int .i64 0, .int .i64 0, .bool false]) (t := 33) ?hr ?_; (case hd => rfl); (case hg => rfl); (case hr => first | (go_simp; done) | (go_simp; rfl)); intro gb414 hg w4 hbox hb; have BK414 := Aside0.mk (hbox); have GW414 := Aside0.mk (bsz hg au89); have GE414 := Aside0.mk (bsz hg au89); replace HB := Aside0.mk (below_step au89 hb); have NB413_414 := Aside0.mk (bne (g := gb413) hg au119); have NB414_413 := Aside0.mk (ben (g := gb413) hg au119); replace BK413 := Aside0.mk (blk_below (g := gb413) au119 hb); clear hb hbox hg) | ((with_reducible refine gate_dst (N := 7) rfl ?_); refine box_event ?hg (N := 7) ?hd (cs := #[.slice A0 l0.length c0, .int .i64 0, .int .u64 0]) (t := 51) ?hr ?_; (case hd => rfl); (case hg => rfl); (case hr => first | (go_simp; done) | (go_simp; rfl)); intro gb415 hg w5 hbox hb; have HI415 := Aside0.mk ((show IsS51 w w5 gb415 l0 0 0 from ⟨_, _, hbox, by rw [hg]; exact (below_size au69), HR0.out⟩)); replace HB := Aside0.mk (below_step au69 hb); have NB413_415 := Aside0.mk (bne (g := gb413) hg au119); have NB415_413 := Aside0.mk (ben (g := gb413) hg au119); replace BK413 := Aside0.mk (blk_below (g := gb413) au119 hb); have NB414_415 := Aside0.mk (bne (g := gb414) hg au120); have NB415_414 := Aside0.mk (ben (g := gb414) hg au120); replace BK414 := Aside0.mk (blk_below (g := gb414) au120 hb); clear hb hbox hg) | ((with_reducible refine gate_callee (f := 56) rfl ?_); refine goesL_ (some 9) rfl rfl Tryd.func56 (by kernel_rfl) rfl #[.pointer (some ⟨gb415, 0, none⟩)] rfl au100 ?_; (with_reducible refine (spec_l1Cur_twoDates.calls gb415 l0 0 0 t416 t417 t418 t419 t420 t421 t422 t423 t424 t425 w _ ?side1 ?side2 A2.out).mono ?_); (case side1 => repeat (first | (with_reducible first | exact HI415.out | apply IsS51.alloc | apply IsS51.drewN | apply IsS51.drew | apply IsS51.set_1 | apply IsS51.set_2 | refine IsS51.far ?_ NB415_413.out _ | refine IsS51.far ?_ NB415_414.out _) | exact HI415.out)); (case side2 => repeat (first | (with_reducible first | exact HB.out | apply below_alloc | apply pw_below_drewN | apply below_drew1 | refine below_set ?_ (IsS51.ge HI415.out) | refine below_set ?_ GE413.out | refine below_set ?_ GE414.out) | exact HB.out)); rintro e w6 ⟨rfl, hi, hb, hk⟩; refine ⟨_, rfl, ?_⟩; replace BK413 := Aside0.mk (KeepBut.blk hk (g' := gb413) (o := .cells #[.int .i64 0, .int .i64 0, .int .i64 0, .bool false] 33 (0, 0)) au119 NB413_415.out (by simp)); replace BK414 := Aside0.mk (KeepBut.blk hk (g' := gb414) (o := .cells #[.int .i64 0, .int .i64 0, .int .i64 0, .bool false] 33 (0, 0)) au120 NB414_415.out (by simp)); replace HB := Aside0.mk (hb); replace HI415 := Aside0.mk (hi); (try clear hb); (try clear hk); (try clear hi); have hnb7 := NB413_414.out; have hnc7 := NB414_413.out; have hnb8 := NB413_415.out; have hnc8 := NB415_413.out; obtain ⟨hcz9_0, hcz9_1, hcz9_2, hcz9_3, hfz9_0, hfz9_1, hfz9_2, hfz9_3⟩ := blkc4 BK413.out; have hnb10 := NB414_415.out; have hnc10 := NB415_414.out; obtain ⟨hcz11_0, hcz11_1, hcz11_2, hcz11_3, hfz11_0, hfz11_1, hfz11_2, hfz11_3⟩ := blkc4 BK414.out))
 refine bodyPost_ret (results_cc rfl _ _ gb413 gb414 33 33 #[.int .i64 t416, .int .i64 t417, .int .i64 t418, .bool t419] #[.int .i64 t420, .int .i64 t421, .int .i64 t422, .bool t423] (0, 0) (0, 0) _ _ rfl (by (with_reducible repeat (first | refine blk_drewN ?_ _ | refine blk_drew ?_ | refine blk_alloc ?_ _)); refine blk_far ?_ NB413_414.out _; (with_reducible repeat (first | refine blk_drewN ?_ _ | refine blk_drew ?_ | refine blk_alloc ?_ _)); refine blk_far ?_ NB413_414.out _; (with_reducible repeat (first | refine blk_drewN ?_ _ | refine blk_drew ?_ | refine blk_alloc ?_ _)); refine blk_far ?_ NB413_414.out _; (with_reducible repeat (first | refine blk_drewN ?_ _ | refine blk_drew ?_ | refine blk_alloc ?_ _)); refine blk_far ?_ NB413_414.out _; (with_reducible repeat (first | refine blk_drewN ?_ _ | refine blk_drew ?_ | refine blk_alloc ?_ _)); refine blk_put (cs := #[.int .i64 t416, .int .i64 t417, .int .i64 t418, .bool false]) ?_ 3 _ rfl; (with_reducible repeat (first | refine blk_drewN ?_ _ | refine blk_drew ?_ | refine blk_alloc ?_ _)); refine blk_put (cs := #[.int .i64 t416, .int .i64 t417, .int .i64 0, .bool false]) ?_ 2 _ rfl; (with_reducible repeat (first | refine blk_drewN ?_ _ | refine blk_drew ?_ | refine blk_alloc ?_ _)); refine blk_put (cs := #[.int .i64 t416, .int .i64 0, .int .i64 0, .bool false]) ?_ 1 _ rfl; (with_reducible repeat (first | refine blk_drewN ?_ _ | refine blk_drew ?_ | refine blk_alloc ?_ _)); refine blk_put (cs := #[.int .i64 0, .int .i64 0, .int .i64 0, .bool false]) ?_ 0 _ rfl; (with_reducible repeat (first | refine blk_drewN ?_ _ | refine blk_drew ?_ | refine blk_alloc ?_ _)); exact BK413.out) Tryd.underlying33 rfl (by kernel_rfl) rfl (by (with_reducible repeat (first | refine blk_drewN ?_ _ | refine blk_drew ?_ | refine blk_alloc ?_ _)); refine blk_put (cs := #[.int .i64 t420, .int .i64 t421, .int .i64 t422, .bool false]) ?_ 3 _ rfl; (with_reducible repeat (first | refine blk_drewN ?_ _ | refine blk_drew ?_ | refine blk_alloc ?_ _)); refine blk_put (cs := #[.int .i64 t420, .int .i64 t421, .int .i64 0, .bool false]) ?_ 2 _ rfl; (with_reducible repeat (first | refine blk_drewN ?_ _ | refine blk_drew ?_ | refine blk_alloc ?_ _)); refine blk_put (cs := #[.int .i64 t420, .int .i64 0, .int .i64 0, .bool false]) ?_ 1 _ rfl; (with_reducible repeat (first | refine blk_drewN ?_ _ | refine blk_drew ?_ | refine blk_alloc ?_ _)); refine blk_put (cs := #[.int .i64 0, .int .i64 0, .int .i64 0, .bool false]) ?_ 0 _ rfl; (with_reducible repeat (first | refine blk_drewN ?_ _ | refine blk_drew ?_ | refine blk_alloc ?_ _)); refine blk_far ?_ NB414_413.out _; (with_reducible repeat (first | refine blk_drewN ?_ _ | refine blk_drew ?_ | refine blk_alloc ?_ _)); refine blk_far ?_ NB414_413.out _; (with_reducible repeat (first | refine blk_drewN ?_ _ | refine blk_drew ?_ | refine blk_alloc ?_ _)); refine blk_far ?_ NB414_413.out _; (with_reducible repeat (first | refine blk_drewN ?_ _ | refine blk_drew ?_ | refine blk_alloc ?_ _)); refine blk_far ?_ NB414_413.out _; (with_reducible repeat (first | refine blk_drewN ?_ _ | refine blk_drew ?_ | refine blk_alloc ?_ _)); exact BK414.out) Tryd.underlying33 rfl (by kernel_rfl)) rfl ?_
 exact ⟨by first | rfl | (simp [errW_none, errW_some] <;> rfl) | (simp [*, errW_none, errW_some] <;> rfl), by repeat (first | (with_reducible first | exact HB.out | apply below_alloc | apply pw_below_drewN | apply below_drew1 | refine below_set ?_ (IsS51.ge HI415.out) | refine below_set ?_ GE413.out | refine below_set ?_ GE414.out) | exact HB.out)⟩


/-! ### cmp_Or_int: function 75 -/
def cmp_Or_int.l0 : Nat → Int → List Int → Int → Int → Option (Int)
 | 0, _, _, _, _ => none
 | k + 1, x3, x6, x7, x8 => if x8 < x7 then (if 0 ≤ x8 then (if x8 < (x6.length : Int) then (if (rd x6 x8) = x3 then (cmp_Or_int.l0 k x3 x6 x7 (wrap64 (x8 + 1))) else (some (rd x6 x8))) else (none)) else (none)) else (some x3)
def cmp_Or_int.f (k : Nat) (l0 : List Int) : Option (Int) := cmp_Or_int.l0 k 0 l0 (l0.length : Int) 0
theorem cmp_Or_int.mono_l : ∀ k, (∀ y0 y1 y2 y3, LeO (cmp_Or_int.l0 k y0 y1 y2 y3) (cmp_Or_int.l0 (k + 1) y0 y1 y2 y3))
 | 0 => fun _ _ _ _ r h => by simp [cmp_Or_int.l0] at h
 | k + 1 => by
  have ih0 := cmp_Or_int.mono_l k
  ·
   intro y0 y1 y2 y3
   unfold cmp_Or_int.l0
   repeat' first
   | (with_reducible exact ih0 _ _ _ _)
   | (with_reducible exact LeO.refl _)
   | (with_reducible exact LeO.none _)
   | (with_reducible refine LeO.ite ?_ ?_)
   | (with_reducible refine LeO.bind ?_ (fun _ => ?_))
   | exact ih0 _ _ _ _
   | exact LeO.none _
   | refine LeO.ite ?_ ?_
   | refine LeO.bind ?_ (fun _ => ?_)
theorem cmp_Or_int.mono : ∀ a0 k, LeO (cmp_Or_int.f k a0) (cmp_Or_int.f (k + 1) a0) := by
 intro a0 k
 have ih0 := cmp_Or_int.mono_l k
 unfold cmp_Or_int.f
 repeat' first
   | (with_reducible exact ih0 _ _ _ _)
   | (with_reducible exact LeO.refl _)
   | (with_reducible exact LeO.none _)
   | (with_reducible refine LeO.ite ?_ ?_)
   | (with_reducible refine LeO.bind ?_ (fun _ => ?_))
   | exact ih0 _ _ _ _
   | exact LeO.none _
   | refine LeO.ite ?_ ?_
   | refine LeO.bind ?_ (fun _ => ?_)
set_option maxHeartbeats 8000000 in
set_option maxRecDepth 100000 in
theorem cmp_Or_int.calls (k : Nat) (A0 : Option Addr) (c0 : Nat) (l0 : List Int) (r : Int) (w : World) (hr0 : Kd.C (Kd.int .i64) w A0 l0.length l0) (hc0 : l0.length ≤ c0) (h : cmp_Or_int.f k l0 = some r) :
  Calls Tryd.prog 75 #[.slice A0 l0.length c0] w fun e w' => e = .returned (.int .i64 r) ∧ Drawn0 w w' := by
 have HR0 := Aside0.mk hr0
 have HC0 := Aside0.mk hc0
 clear hr0 hc0
 have H : (cmp_Or_int.l0 k 0 l0 (l0.length : Int) 0) = some r := h
 clear h
 have H' := Aside0.mk H
 clear H
 go_enter Tryd.func75, Tryd.ntmps75
 go_wp2
 go_loopg [8] k (fun kq v8 w' => ∃ (x8_1 : Int), v8 = .int .i64 x8_1 ∧ Aside0 (cmp_Or_int.l0 kq 0 l0 (l0.length : Int) x8_1 = some r) ∧ Aside0 (kq ≤ k) ∧ Drawn0 w w')
 case atStart => exact ⟨(0), au153, H', ⟨Nat.le_refl _⟩, by repeat (first | exact Drawn0.refl _ | apply Drawn0.step)⟩
 case round =>
  clear H'
  obtain ⟨x8_1, rfl, HA, HK1, ⟨m1, rfl⟩⟩ := hrel
  cases gk with
  | zero => exact absurd HA.out (by simp [cmp_Or_int.l0])
  | succ k1 =>
   have H := HA.out
   clear HA
   simp only [cmp_Or_int.l0] at H
   by_cases c2 : x8_1 < (l0.length : Int)
   ·
    rw [if_pos c2] at H
    have c2b0 : decide (x8_1 < (l0.length : Int)) = true := decide_eq_true c2
    clear c2
    by_cases c3 : 0 ≤ x8_1
    ·
     rw [if_pos c3] at H
     have c3b0 : decide (0 ≤ x8_1) = true := decide_eq_true c3
     clear c3
     by_cases c4 : x8_1 < (l0.length : Int)
     ·
      rw [if_pos c4] at H
      have c4b0 : decide (x8_1 < (l0.length : Int)) = true := decide_eq_true c4
      clear c4
      by_cases c5 : (rd l0 x8_1) = 0
      ·
       rw [if_pos c5] at H
       have c5b0 : ((rd l0 x8_1) == 0) = true := beq_iff_eq.mpr c5
       have c5b1 : ((rd l0 x8_1) != 0) = false := bne_eq_false_iff_eq.mpr c5
       clear c5
       have H' := Aside0.mk H
       clear H
       have p426 : 0 ≤ (x8_1 : Int) := of_decide_eq_true au152
       have q426 : x8_1 < (l0.length : Int) := of_decide_eq_true au152
       obtain ⟨ad426, e426, hx426_0⟩ := Kd.at_int HR0.out x8_1 p426 q426
       cases e426
       replace p426 := eq_true p426
       replace q426 := eq_true q426
       go_wp2
       go_roundg k1
       case measure => have := HK1.out; omega
       case rel => exact ⟨(wrap64 (x8_1 + 1)), au153, H', ⟨by have := HK1.out; omega⟩, by repeat (first | exact Drawn0.refl _ | apply Drawn0.step)⟩
      ·
       rw [if_neg c5] at H
       have c5b0 : ((rd l0 x8_1) == 0) = false := beq_eq_false_iff_ne.mpr c5
       have c5b1 : ((rd l0 x8_1) != 0) = true := bne_iff_ne.mpr c5
       obtain rfl := Option.some.inj H
       have p426 : 0 ≤ (x8_1 : Int) := of_decide_eq_true au152
       have q426 : x8_1 < (l0.length : Int) := of_decide_eq_true au152
       obtain ⟨ad426, e426, hx426_0⟩ := Kd.at_int HR0.out x8_1 p426 q426
       cases e426
       replace p426 := eq_true p426
       replace q426 := eq_true q426
       go_wp2
       go_ret
       exact ax0
     ·
      rw [if_neg c4] at H
      exact absurd H (by simp)
    ·
     rw [if_neg c3] at H
     exact absurd H (by simp)
   ·
    rw [if_neg c2] at H
    have c2b0 : decide (x8_1 < (l0.length : Int)) = false := decide_eq_false c2
    clear c2
    obtain rfl := Option.some.inj H
    go_wp2
    go_ret
    exact ax0


/-! ### cmp_isNaN_int: function 88 -/
def cmp_isNaN_int.f (a0 : Int) : Option (Bool) := some (a0 != a0)
set_option maxHeartbeats 8000000 in
set_option maxRecDepth 100000 in
theorem cmp_isNaN_int.calls (a0 : Int) (r : Bool) (w : World) (h : cmp_isNaN_int.f a0 = some r) :
  Calls Tryd.prog 88 #[.int .i64 a0] w fun e w' => e = .returned (.bool r) ∧ Drawn0 w w' := by
 have H : (some (a0 != a0)) = some r := h
 clear h
 obtain rfl := Option.some.inj H
 go_enter Tryd.func88, Tryd.ntmps88
 go_wp2
 go_ret
 exact ax0


/-! ### cmp_Compare_int: function 76 -/
def cmp_Compare_int.f (a0 : Int) (a1 : Int) : Option (Int) := (cmp_isNaN_int.f a0).bind fun t427 => ((cmp_isNaN_int.f a1).bind fun t428 => (if t427 = true then (if t428 = true then (some 0) else (some (-1))) else (if t428 = true then (some 1) else (if a0 < a1 then (some (-1)) else (if a0 > a1 then (some 1) else (some 0))))))
set_option maxHeartbeats 8000000 in
set_option maxRecDepth 100000 in
theorem cmp_Compare_int.calls (a0 : Int) (a1 : Int) (r : Int) (w : World) (h : cmp_Compare_int.f a0 a1 = some r) :
  Calls Tryd.prog 76 #[.int .i64 a0, .int .i64 a1] w fun e w' => e = .returned (.int .i64 r) ∧ Drawn0 w w' := by
 have H : ((cmp_isNaN_int.f a0).bind fun t427 => ((cmp_isNaN_int.f a1).bind fun t428 => (if t427 = true then (if t428 = true then (some 0) else (some (-1))) else (if t428 = true then (some 1) else (if a0 < a1 then (some (-1)) else (if a0 > a1 then (some 1) else (some 0))))))) = some r := h
 clear h
 replace H := Option.bind_eq_some_iff.mp H
 obtain ⟨t427, A30, H⟩ := H
 try dsimp only at H
 have A3 := Aside0.mk A30
 clear A30
 replace H := Option.bind_eq_some_iff.mp H
 obtain ⟨t428, A40, H⟩ := H
 try dsimp only at H
 have A4 := Aside0.mk A40
 clear A40
 by_cases c5 : t427 = true
 ·
  subst c5
  replace H := (if_pos rfl).symm.trans H
  by_cases c6 : t428 = true
  ·
   subst c6
   replace H := (if_pos rfl).symm.trans H
   obtain rfl := Option.some.inj H
   go_enter Tryd.func76, Tryd.ntmps76
   go_wp2_with (first | ((with_reducible refine gate_callee (f := 88) rfl ?_); refine goesL_ (some 8) rfl rfl Tryd.func88 (by kernel_rfl) rfl #[.int .i64 a0] rfl au100 ?_; (with_reducible refine (cmp_isNaN_int.calls a0 true _ A3.out).mono ?_); rintro e w' ⟨rfl, ⟨nd, rfl⟩⟩; refine ⟨_, rfl, ?_⟩) | ((with_reducible refine gate_callee (f := 88) rfl ?_); refine goesL_ (some 10) rfl rfl Tryd.func88 (by kernel_rfl) rfl #[.int .i64 a1] rfl au100 ?_; (with_reducible refine (cmp_isNaN_int.calls a1 true _ A4.out).mono ?_); rintro e w' ⟨rfl, ⟨nd, rfl⟩⟩; refine ⟨_, rfl, ?_⟩))
   go_ret
   exact ax0
  ·
   replace c6 := Bool.eq_false_iff.mpr c6
   subst c6
   replace H := (if_neg (show ¬ (false = true) by decide)).symm.trans H
   obtain rfl := Option.some.inj H
   go_enter Tryd.func76, Tryd.ntmps76
   go_wp2_with (first | ((with_reducible refine gate_callee (f := 88) rfl ?_); refine goesL_ (some 8) rfl rfl Tryd.func88 (by kernel_rfl) rfl #[.int .i64 a0] rfl au100 ?_; (with_reducible refine (cmp_isNaN_int.calls a0 true _ A3.out).mono ?_); rintro e w' ⟨rfl, ⟨nd, rfl⟩⟩; refine ⟨_, rfl, ?_⟩) | ((with_reducible refine gate_callee (f := 88) rfl ?_); refine goesL_ (some 10) rfl rfl Tryd.func88 (by kernel_rfl) rfl #[.int .i64 a1] rfl au100 ?_; (with_reducible refine (cmp_isNaN_int.calls a1 false _ A4.out).mono ?_); rintro e w' ⟨rfl, ⟨nd, rfl⟩⟩; refine ⟨_, rfl, ?_⟩))
   go_ret
   exact ax0
 ·
  replace c5 := Bool.eq_false_iff.mpr c5
  subst c5
  replace H := (if_neg (show ¬ (false = true) by decide)).symm.trans H
  by_cases c7 : t428 = true
  ·
   subst c7
   replace H := (if_pos rfl).symm.trans H
   obtain rfl := Option.some.inj H
   go_enter Tryd.func76, Tryd.ntmps76
   go_wp2_with (first | ((with_reducible refine gate_callee (f := 88) rfl ?_); refine goesL_ (some 8) rfl rfl Tryd.func88 (by kernel_rfl) rfl #[.int .i64 a0] rfl au100 ?_; (with_reducible refine (cmp_isNaN_int.calls a0 false _ A3.out).mono ?_); rintro e w' ⟨rfl, ⟨nd, rfl⟩⟩; refine ⟨_, rfl, ?_⟩) | ((with_reducible refine gate_callee (f := 88) rfl ?_); refine goesL_ (some 10) rfl rfl Tryd.func88 (by kernel_rfl) rfl #[.int .i64 a1] rfl au100 ?_; (with_reducible refine (cmp_isNaN_int.calls a1 true _ A4.out).mono ?_); rintro e w' ⟨rfl, ⟨nd, rfl⟩⟩; refine ⟨_, rfl, ?_⟩))
   go_ret
   exact ax0
  ·
   replace c7 := Bool.eq_false_iff.mpr c7
   subst c7
   replace H := (if_neg (show ¬ (false = true) by decide)).symm.trans H
   by_cases c8 : a0 < a1
   ·
    rw [if_pos c8] at H
    have c8b0 : decide (a0 < a1) = true := decide_eq_true c8
    clear c8
    obtain rfl := Option.some.inj H
    go_enter Tryd.func76, Tryd.ntmps76
    go_wp2_with (first | ((with_reducible refine gate_callee (f := 88) rfl ?_); refine goesL_ (some 8) rfl rfl Tryd.func88 (by kernel_rfl) rfl #[.int .i64 a0] rfl au100 ?_; (with_reducible refine (cmp_isNaN_int.calls a0 false _ A3.out).mono ?_); rintro e w' ⟨rfl, ⟨nd, rfl⟩⟩; refine ⟨_, rfl, ?_⟩) | ((with_reducible refine gate_callee (f := 88) rfl ?_); refine goesL_ (some 10) rfl rfl Tryd.func88 (by kernel_rfl) rfl #[.int .i64 a1] rfl au100 ?_; (with_reducible refine (cmp_isNaN_int.calls a1 false _ A4.out).mono ?_); rintro e w' ⟨rfl, ⟨nd, rfl⟩⟩; refine ⟨_, rfl, ?_⟩))
    go_ret
    exact ax0
   ·
    rw [if_neg c8] at H
    have c8b0 : decide (a0 < a1) = false := decide_eq_false c8
    clear c8
    by_cases c9 : a0 > a1
    ·
     rw [if_pos c9] at H
     have c9b0 : decide (a1 < a0) = true := decide_eq_true c9
     clear c9
     obtain rfl := Option.some.inj H
     go_enter Tryd.func76, Tryd.ntmps76
     go_wp2_with (first | ((with_reducible refine gate_callee (f := 88) rfl ?_); refine goesL_ (some 8) rfl rfl Tryd.func88 (by kernel_rfl) rfl #[.int .i64 a0] rfl au100 ?_; (with_reducible refine (cmp_isNaN_int.calls a0 false _ A3.out).mono ?_); rintro e w' ⟨rfl, ⟨nd, rfl⟩⟩; refine ⟨_, rfl, ?_⟩) | ((with_reducible refine gate_callee (f := 88) rfl ?_); refine goesL_ (some 10) rfl rfl Tryd.func88 (by kernel_rfl) rfl #[.int .i64 a1] rfl au100 ?_; (with_reducible refine (cmp_isNaN_int.calls a1 false _ A4.out).mono ?_); rintro e w' ⟨rfl, ⟨nd, rfl⟩⟩; refine ⟨_, rfl, ?_⟩))
     go_ret
     exact ax0
    ·
     rw [if_neg c9] at H
     have c9b0 : decide (a1 < a0) = false := decide_eq_false c9
     clear c9
     obtain rfl := Option.some.inj H
     go_enter Tryd.func76, Tryd.ntmps76
     go_wp2_with (first | ((with_reducible refine gate_callee (f := 88) rfl ?_); refine goesL_ (some 8) rfl rfl Tryd.func88 (by kernel_rfl) rfl #[.int .i64 a0] rfl au100 ?_; (with_reducible refine (cmp_isNaN_int.calls a0 false _ A3.out).mono ?_); rintro e w' ⟨rfl, ⟨nd, rfl⟩⟩; refine ⟨_, rfl, ?_⟩) | ((with_reducible refine gate_callee (f := 88) rfl ?_); refine goesL_ (some 10) rfl rfl Tryd.func88 (by kernel_rfl) rfl #[.int .i64 a1] rfl au100 ?_; (with_reducible refine (cmp_isNaN_int.calls a1 false _ A4.out).mono ?_); rintro e w' ⟨rfl, ⟨nd, rfl⟩⟩; refine ⟨_, rfl, ?_⟩))
     go_ret
     exact ax0


/-! ### impl_circaNumber: function 77 -/
def impl_circaNumber.f (a0_0 : Int) (a0_1 : Int) (a0_2 : Int) (a0_3 : Bool) : Option (Int) := if a0_3 = true then (some 1) else (some 0)
set_option maxHeartbeats 8000000 in
set_option maxRecDepth 100000 in
theorem impl_circaNumber.calls (a0_0 : Int) (a0_1 : Int) (a0_2 : Int) (a0_3 : Bool) (r : Int) (w : World) (h : impl_circaNumber.f a0_0 a0_1 a0_2 a0_3 = some r) :
  Calls Tryd.prog 77 #[.agg #[.int .i64 a0_0, .int .i64 a0_1, .int .i64 a0_2, .bool a0_3]] w fun e w' => e = .returned (.int .i64 r) ∧ Below w.heap.size w w' := by
 have hu33 := Tryd.underlying33
 have HB := Aside0.mk (Below.refl w.heap.size w)
 have H : (if a0_3 = true then (some 1) else (some 0)) = some r := h
 clear h
 by_cases c2 : a0_3 = true
 ·
  subst c2
  replace H := (if_pos rfl).symm.trans H
  obtain rfl := Option.some.inj H
  go_enter Tryd.func77, Tryd.ntmps77
  go_wp2_with (first | ((with_reducible refine gate_dst (N := 1) rfl ?_); refine box_event ?hg (N := 1) ?hd (cs := #[.int .i64 a0_0, .int .i64 a0_1, .int .i64 a0_2, .bool true]) (t := 33) ?hr ?_; (case hd => rfl); (case hg => rfl); (case hr => first | (go_simp; done) | (go_simp; rfl)); intro gb429 hg w3 hbox hb; have BK429 := Aside0.mk (hbox); have GW429 := Aside0.mk (bsz hg au101); have GE429 := Aside0.mk (bsz hg au101); replace HB := Aside0.mk (below_step au101 hb); clear hb hbox hg; obtain ⟨hcz4_0, hcz4_1, hcz4_2, hcz4_3, hfz4_0, hfz4_1, hfz4_2, hfz4_3⟩ := blkc4 BK429.out))
  go_ret
  exact ax12
 ·
  replace c2 := Bool.eq_false_iff.mpr c2
  subst c2
  replace H := (if_neg (show ¬ (false = true) by decide)).symm.trans H
  obtain rfl := Option.some.inj H
  go_enter Tryd.func77, Tryd.ntmps77
  go_wp2_with (first | ((with_reducible refine gate_dst (N := 1) rfl ?_); refine box_event ?hg (N := 1) ?hd (cs := #[.int .i64 a0_0, .int .i64 a0_1, .int .i64 a0_2, .bool false]) (t := 33) ?hr ?_; (case hd => rfl); (case hg => rfl); (case hr => first | (go_simp; done) | (go_simp; rfl)); intro gb429 hg w5 hbox hb; have BK429 := Aside0.mk (hbox); have GW429 := Aside0.mk (bsz hg au101); have GE429 := Aside0.mk (bsz hg au101); replace HB := Aside0.mk (below_step au101 hb); clear hb hbox hg; obtain ⟨hcz6_0, hcz6_1, hcz6_2, hcz6_3, hfz6_0, hfz6_1, hfz6_2, hfz6_3⟩ := blkc4 BK429.out))
  go_ret
  exact ax12


/-! ### impl_compareDates: function 57 -/
def impl_compareDates.f (k : Nat) (a0_0 : Int) (a0_1 : Int) (a0_2 : Int) (a0_3 : Bool) (a1_0 : Int) (a1_1 : Int) (a1_2 : Int) (a1_3 : Bool) : Option (Int) := (cmp_Compare_int.f a0_0 a1_0).bind fun t432 => ((cmp_Compare_int.f a0_1 a1_1).bind fun t433 => ((cmp_Compare_int.f a0_2 a1_2).bind fun t434 => ((impl_circaNumber.f a0_0 a0_1 a0_2 a0_3).bind fun t435 => ((impl_circaNumber.f a1_0 a1_1 a1_2 a1_3).bind fun t436 => ((cmp_Compare_int.f t435 t436).bind fun t437 => ((cmp_Or_int.f k (([t432, t433, t434, t437] : List Int))).bind fun t441 => (some t441)))))))
theorem impl_compareDates.mono : ∀ a0 a1 a2 a3 a4 a5 a6 a7 k, LeO (impl_compareDates.f k a0 a1 a2 a3 a4 a5 a6 a7) (impl_compareDates.f (k + 1) a0 a1 a2 a3 a4 a5 a6 a7) := by
 intro a0 a1 a2 a3 a4 a5 a6 a7 k
 unfold impl_compareDates.f
 repeat' first
   | (with_reducible exact cmp_Or_int.mono _ _)
   | (with_reducible exact LeO.refl _)
   | (with_reducible exact LeO.none _)
   | (with_reducible refine LeO.ite ?_ ?_)
   | (with_reducible refine LeO.bind ?_ (fun _ => ?_))
   | exact cmp_Or_int.mono _ _
   | exact LeO.none _
   | refine LeO.ite ?_ ?_
   | refine LeO.bind ?_ (fun _ => ?_)
def impl_compareDates.T1 : Bool × List (List Nat × List Nat) := (true, [([], []), ([0], [0]), ([], []), ([2], [2]), ([1, 3], [1, 3]), ([], []), ([5], [5]), ([], []), ([7], [7]), ([6, 8, 4], [6, 8]), ([], []), ([10], [10]), ([], []), ([12], [12]), ([11, 13, 9], [11, 13]), ([], []), ([15, 14], [15]), ([], []), ([17, 16], [17]), ([16, 18, 18], [16, 18]), ([4, 9, 14, 19], [4, 9, 14, 19]), ([20, 19], [20]), ([21, 21, 0, 1, 2, 3, 4, 5, 6, 7, 8, 9, 10, 11, 12, 13, 14, 15, 16, 17, 18, 19, 20, 21], [21])])
def impl_compareDates.B1 : List Nat := [0, 1, 0, 4, 15, 0, 32, 0, 128, 511, 0, 1024, 0, 4096, 16383, 0, 65535, 0, 262143, 524287, 1048575, 2097151, 4194303]
theorem impl_compareDates.tab1 : rtab .any (opsOf Tryd.f57 1) = impl_compareDates.T1 := by kernel_rfl
theorem impl_compareDates.bits1 : waitsOk impl_compareDates.T1.2 impl_compareDates.B1 = true := by kernel_rfl
set_option maxHeartbeats 8000000 in
set_option maxRecDepth 100000 in
theorem impl_compareDates.calls (k : Nat) (a0_0 : Int) (a0_1 : Int) (a0_2 : Int) (a0_3 : Bool) (a1_0 : Int) (a1_1 : Int) (a1_2 : Int) (a1_3 : Bool) (r : Int) (w : World) (h : impl_compareDates.f k a0_0 a0_1 a0_2 a0_3 a1_0 a1_1 a1_2 a1_3 = some r) :
  Calls Tryd.prog 57 #[.agg #[.int .i64 a0_0, .int .i64 a0_1, .int .i64 a0_2, .bool a0_3], .agg #[.int .i64 a1_0, .int .i64 a1_1, .int .i64 a1_2, .bool a1_3]] w fun e w' => e = .returned (.int .i64 r) ∧ Below w.heap.size w w' := by
 have hu33 := Tryd.underlying33
 have HB := Aside0.mk (Below.refl w.heap.size w)
 have H : ((cmp_Compare_int.f a0_0 a1_0).bind fun t432 => ((cmp_Compare_int.f a0_1 a1_1).bind fun t433 => ((cmp_Compare_int.f a0_2 a1_2).bind fun t434 => ((impl_circaNumber.f a0_0 a0_1 a0_2 a0_3).bind fun t435 => ((impl_circaNumber.f a1_0 a1_1 a1_2 a1_3).bind fun t436 => ((cmp_Compare_int.f t435 t436).bind fun t437 => ((cmp_Or_int.f k (([t432, t433, t434, t437] : List Int))).bind fun t441 => (some t441)))))))) = some r := h
 clear h
 replace H := Option.bind_eq_some_iff.mp H
 obtain ⟨t432, A30, H⟩ := H
 try dsimp only at H
 have A3 := Aside0.mk A30
 clear A30
 replace H := Option.bind_eq_some_iff.mp H
 obtain ⟨t433, A40, H⟩ := H
 try dsimp only at H
 have A4 := Aside0.mk A40
 clear A40
 replace H := Option.bind_eq_some_iff.mp H
 obtain ⟨t434, A50, H⟩ := H
 try dsimp only at H
 have A5 := Aside0.mk A50
 clear A50
 replace H := Option.bind_eq_some_iff.mp H
 obtain ⟨t435, A60, H⟩ := H
 try dsimp only at H
 have A6 := Aside0.mk A60
 clear A60
 replace H := Option.bind_eq_some_iff.mp H
 obtain ⟨t436, A70, H⟩ := H
 try dsimp only at H
 have A7 := Aside0.mk A70
 clear A70
 replace H := Option.bind_eq_some_iff.mp H
 obtain ⟨t437, A80, H⟩ := H
 try dsimp only at H
 have A8 := Aside0.mk A80
 clear A80
 obtain ⟨y438, hy438⟩ : ∃ y_ : List Int, y_ = (([t432, t433, t434, t437] : List Int)) := ⟨_, rfl⟩
 replace H : ((cmp_Or_int.f k y438).bind fun t441 => (some t441)) = some r := by first | (rw [hy438]; with_reducible exact H) | (have H2_ := (Option.bind_some _ _).symm.trans H; rw [hy438]; with_reducible exact H2_) | (have H2_ := (Option.bind_some _ _).symm.trans H; with_reducible exact H2_) | with_reducible exact H | (rw [hy438]; exact H) | exact H
 have Ny438 := Aside0.mk hy438
 clear hy438
 replace H := Option.bind_eq_some_iff.mp H
 obtain ⟨t441, A90, H⟩ := H
 try dsimp only at H
 have A9 := Aside0.mk A90
 clear A90
 obtain rfl := Option.some.inj H
 go_enter Tryd.func57, Tryd.ntmps57
 try go_wp2_with (first | ((with_reducible refine gate_dst (N := 2) rfl ?_); refine box_event ?hg (N := 2) ?hd (cs := #[.int .i64 a0_0, .int .i64 a0_1, .int .i64 a0_2, .bool a0_3]) (t := 33) ?hr ?_; (case hd => rfl); (case hg => rfl); (case hr => first | (go_simp; done) | (go_simp; rfl)); intro gb430 hg w10 hbox hb; have BK430 := Aside0.mk (hbox); have GW430 := Aside0.mk (bsz hg au101); have GE430 := Aside0.mk (bsz hg au101); replace HB := Aside0.mk (below_step au101 hb); clear hb hbox hg) | ((with_reducible refine gate_dst (N := 3) rfl ?_); refine box_event ?hg (N := 3) ?hd (cs := #[.int .i64 a1_0, .int .i64 a1_1, .int .i64 a1_2, .bool a1_3]) (t := 33) ?hr ?_; (case hd => rfl); (case hg => rfl); (case hr => first | (go_simp; done) | (go_simp; rfl)); intro gb431 hg w11 hbox hb; have BK431 := Aside0.mk (hbox); have GW431 := Aside0.mk (bsz hg au90); have GE431 := Aside0.mk (bsz hg au90); replace HB := Aside0.mk (below_step au90 hb); have NB430_431 := Aside0.mk (bne (g := gb430) hg au121); have NB431_430 := Aside0.mk (ben (g := gb430) hg au121); replace BK430 := Aside0.mk (blk_below (g := gb430) au121 hb); clear hb hbox hg))
 replace BK430 := Aside0.mk (blk_drew BK430.out)
 replace BK431 := Aside0.mk (blk_drew BK431.out)
 replace HB := Aside0.mk (below_drew1 HB.out)
 refine start_ (n := 23) (S := fun w' => w'.cell? ⟨gb430, 0, none⟩ = some (.int .i64 a0_0) ∧ w'.cell? ⟨gb430, 1, none⟩ = some (.int .i64 a0_1) ∧ w'.cell? ⟨gb430, 2, none⟩ = some (.int .i64 a0_2) ∧ w'.cell? ⟨gb430, 3, none⟩ = some (.bool a0_3) ∧ w'.cell? ⟨gb431, 0, none⟩ = some (.int .i64 a1_0) ∧ w'.cell? ⟨gb431, 1, none⟩ = some (.int .i64 a1_1) ∧ w'.cell? ⟨gb431, 2, none⟩ = some (.int .i64 a1_2) ∧ w'.cell? ⟨gb431, 3, none⟩ = some (.bool a1_3)) (ds := []) #[false, false, false, false, false, false, false, false, false, false, false, false, false, false, false, false, false, false, false, false, false, false, false] (by kernel_rfl) rfl rfl ⟨(blk_cell BK430.out 0).trans rfl, (blk_cell BK430.out 1).trans rfl, (blk_cell BK430.out 2).trans rfl, (blk_cell BK430.out 3).trans rfl, (blk_cell BK431.out 0).trans rfl, (blk_cell BK431.out 1).trans rfl, (blk_cell BK431.out 2).trans rfl, (blk_cell BK431.out 3).trans rfl⟩ (fun hHeld => ?_); refine with_tabW impl_compareDates.tab1 impl_compareDates.bits1 (fun HT_ HW_ => ?_)
 generalize w11.drew = w12 at BK430 BK431 HB hHeld ⊢
 refine pu_ 0 (some 5) #[true, false, false, false, false, false, false, false, false, false, false, false, false, false, false, false, false, false, false, false, false, false, false] HT_.out ?_
 refine pu_ 2 (some 7) #[true, false, true, false, false, false, false, false, false, false, false, false, false, false, false, false, false, false, false, false, false, false, false] HT_.out ?_
 refine pu_ 5 (some 10) #[true, false, true, false, false, true, false, false, false, false, false, false, false, false, false, false, false, false, false, false, false, false, false] HT_.out ?_
 refine pu_ 7 (some 12) #[true, false, true, false, false, true, false, true, false, false, false, false, false, false, false, false, false, false, false, false, false, false, false] HT_.out ?_
 refine pu_ 10 (some 15) #[true, false, true, false, false, true, false, true, false, false, true, false, false, false, false, false, false, false, false, false, false, false, false] HT_.out ?_
 refine pu_ 12 (some 17) #[true, false, true, false, false, true, false, true, false, false, true, false, true, false, false, false, false, false, false, false, false, false, false] HT_.out ?_
 refine ta0_ 1 (some 6) #[true, true, true, false, false, true, false, true, false, false, true, false, true, false, false, false, false, false, false, false, false, false, false] HT_.out HW_.out hHeld ?_
 refine ta0_ 3 (some 8) #[true, true, true, true, false, true, false, true, false, false, true, false, true, false, false, false, false, false, false, false, false, false, false] HT_.out HW_.out hHeld ?_
 refine ta0_ 6 (some 11) #[true, true, true, true, false, true, true, true, false, false, true, false, true, false, false, false, false, false, false, false, false, false, false] HT_.out HW_.out hHeld ?_
 refine ta0_ 8 (some 13) #[true, true, true, true, false, true, true, true, true, false, true, false, true, false, false, false, false, false, false, false, false, false, false] HT_.out HW_.out hHeld ?_
 refine ta0_ 11 (some 16) #[true, true, true, true, false, true, true, true, true, false, true, true, true, false, false, false, false, false, false, false, false, false, false] HT_.out HW_.out hHeld ?_
 refine ta0_ 13 (some 18) #[true, true, true, true, false, true, true, true, true, false, true, true, true, true, false, false, false, false, false, false, false, false, false] HT_.out HW_.out hHeld ?_
 refine ta0_ 15 (some 20) #[true, true, true, true, false, true, true, true, true, false, true, true, true, true, false, true, false, false, false, false, false, false, false] HT_.out HW_.out hHeld ?_
 refine ta0_ 17 (some 22) #[true, true, true, true, false, true, true, true, true, false, true, true, true, true, false, true, false, true, false, false, false, false, false] HT_.out HW_.out hHeld ?_
 refine on_ 4 (some 9) #[true, true, true, true, true, true, true, true, true, false, true, true, true, true, false, true, false, true, false, false, false, false, false] HT_.out (fun K hK => ?_)
 refine gs_ Tryd.func76 #[.int .i64 a0_0, .int .i64 a1_0] ?_
 with_reducible refine (cmp_Compare_int.calls a0_0 a1_0 t432 _ A3.out).mono ?_
 rintro e w' ⟨rfl, ⟨nd, rfl⟩⟩
 refine ⟨_, rfl, ?_⟩
 refine hK.out _ _ ⟨(blk_cell BK430.out 0).trans rfl, (blk_cell BK430.out 1).trans rfl, (blk_cell BK430.out 2).trans rfl, (blk_cell BK430.out 3).trans rfl, (blk_cell BK431.out 0).trans rfl, (blk_cell BK431.out 1).trans rfl, (blk_cell BK431.out 2).trans rfl, (blk_cell BK431.out 3).trans rfl⟩ (fun hHeld => ?_)
 clear hK K
 refine no_ (some 9) ?_
 refine on_ 9 (some 14) #[true, true, true, true, true, true, true, true, true, true, true, true, true, true, false, true, false, true, false, false, false, false, false] HT_.out (fun K hK => ?_)
 refine gs_ Tryd.func76 #[.int .i64 a0_1, .int .i64 a1_1] ?_
 with_reducible refine (cmp_Compare_int.calls a0_1 a1_1 t433 _ A4.out).mono ?_
 rintro e w' ⟨rfl, ⟨nd, rfl⟩⟩
 refine ⟨_, rfl, ?_⟩
 refine hK.out _ _ ⟨(blk_cell BK430.out 0).trans rfl, (blk_cell BK430.out 1).trans rfl, (blk_cell BK430.out 2).trans rfl, (blk_cell BK430.out 3).trans rfl, (blk_cell BK431.out 0).trans rfl, (blk_cell BK431.out 1).trans rfl, (blk_cell BK431.out 2).trans rfl, (blk_cell BK431.out 3).trans rfl⟩ (fun hHeld => ?_)
 clear hK K
 refine no_ (some 14) ?_
 refine on_ 14 (some 19) #[true, true, true, true, true, true, true, true, true, true, true, true, true, true, true, true, false, true, false, false, false, false, false] HT_.out (fun K hK => ?_)
 refine gs_ Tryd.func76 #[.int .i64 a0_2, .int .i64 a1_2] ?_
 with_reducible refine (cmp_Compare_int.calls a0_2 a1_2 t434 _ A5.out).mono ?_
 rintro e w' ⟨rfl, ⟨nd, rfl⟩⟩
 refine ⟨_, rfl, ?_⟩
 refine hK.out _ _ ⟨(blk_cell BK430.out 0).trans rfl, (blk_cell BK430.out 1).trans rfl, (blk_cell BK430.out 2).trans rfl, (blk_cell BK430.out 3).trans rfl, (blk_cell BK431.out 0).trans rfl, (blk_cell BK431.out 1).trans rfl, (blk_cell BK431.out 2).trans rfl, (blk_cell BK431.out 3).trans rfl⟩ (fun hHeld => ?_)
 clear hK K
 refine no_ (some 19) ?_
 refine on_ 16 (some 21) #[true, true, true, true, true, true, true, true, true, true, true, true, true, true, true, true, true, true, false, false, false, false, false] HT_.out (fun K hK => ?_)
 refine gs_ Tryd.func77 #[.agg #[.int .i64 a0_0, .int .i64 a0_1, .int .i64 a0_2, .bool a0_3]] ?_
 with_reducible refine (impl_circaNumber.calls a0_0 a0_1 a0_2 a0_3 t435 _ A6.out).mono ?_
 rintro e w13 ⟨rfl, hb⟩
 refine ⟨_, rfl, ?_⟩
 replace BK430 := Aside0.mk (blk_below (g := gb430) au121 hb)
 replace BK431 := Aside0.mk (blk_below (g := gb431) au122 hb)
 replace HB := Aside0.mk (below_step au70 hb)
 (try clear hb)
 refine hK.out _ _ ⟨(blk_cell BK430.out 0).trans rfl, (blk_cell BK430.out 1).trans rfl, (blk_cell BK430.out 2).trans rfl, (blk_cell BK430.out 3).trans rfl, (blk_cell BK431.out 0).trans rfl, (blk_cell BK431.out 1).trans rfl, (blk_cell BK431.out 2).trans rfl, (blk_cell BK431.out 3).trans rfl⟩ (fun hHeld => ?_)
 clear hK K
 refine no_ (some 21) ?_
 refine on_ 18 (some 23) #[true, true, true, true, true, true, true, true, true, true, true, true, true, true, true, true, true, true, true, false, false, false, false] HT_.out (fun K hK => ?_)
 refine gs_ Tryd.func77 #[.agg #[.int .i64 a1_0, .int .i64 a1_1, .int .i64 a1_2, .bool a1_3]] ?_
 with_reducible refine (impl_circaNumber.calls a1_0 a1_1 a1_2 a1_3 t436 _ A7.out).mono ?_
 rintro e w14 ⟨rfl, hb⟩
 refine ⟨_, rfl, ?_⟩
 replace BK430 := Aside0.mk (blk_below (g := gb430) au121 hb)
 replace BK431 := Aside0.mk (blk_below (g := gb431) au122 hb)
 replace HB := Aside0.mk (below_step au70 hb)
 (try clear hb)
 refine hK.out _ _ ⟨(blk_cell BK430.out 0).trans rfl, (blk_cell BK430.out 1).trans rfl, (blk_cell BK430.out 2).trans rfl, (blk_cell BK430.out 3).trans rfl, (blk_cell BK431.out 0).trans rfl, (blk_cell BK431.out 1).trans rfl, (blk_cell BK431.out 2).trans rfl, (blk_cell BK431.out 3).trans rfl⟩ (fun hHeld => ?_)
 clear hK K
 refine no_ (some 23) ?_
 refine on_ 19 (some 24) #[true, true, true, true, true, true, true, true, true, true, true, true, true, true, true, true, true, true, true, true, false, false, false] HT_.out (fun K hK => ?_)
 refine gs_ Tryd.func76 #[.int .i64 t435, .int .i64 t436] ?_
 with_reducible refine (cmp_Compare_int.calls t435 t436 t437 _ A8.out).mono ?_
 rintro e w' ⟨rfl, ⟨nd, rfl⟩⟩
 refine ⟨_, rfl, ?_⟩
 refine hK.out _ _ ⟨(blk_cell BK430.out 0).trans rfl, (blk_cell BK430.out 1).trans rfl, (blk_cell BK430.out 2).trans rfl, (blk_cell BK430.out 3).trans rfl, (blk_cell BK431.out 0).trans rfl, (blk_cell BK431.out 1).trans rfl, (blk_cell BK431.out 2).trans rfl, (blk_cell BK431.out 3).trans rfl⟩ (fun hHeld => ?_)
 clear hK K
 refine no_ (some 24) ?_
 refine on_ 20 (some 25) #[true, true, true, true, true, true, true, true, true, true, true, true, true, true, true, true, true, true, true, true, true, false, false] HT_.out (fun K hK => ?_)
 refine Kd.R_lit_step (Kd.int .i64) _ 3 ?hg (N := 25) ?hd (xs := ([t432, t433, t434, t437] : List Int)) (inner := [.int .i64 t432, .int .i64 t433, .int .i64 t434, .int .i64 t437]) (ok := fun _ => True) (okp := fun _ => True) ?hr ?hp (fun _ hk => hk) trivial (Below.refl _ _) (Nat.le_refl _) (by simp) ?_; (case hd => rfl); (case hg => rfl); (case hr => first | (go_simp; done) | (go_simp; rfl)); (case hp => exact (Reps.one (show Kd.M (Kd.int .i64) _ _ _ t432 [.int .i64 t432] from rfl) (Reps.one (show Kd.M (Kd.int .i64) _ _ _ t433 [.int .i64 t433] from rfl) (Reps.one (show Kd.M (Kd.int .i64) _ _ _ t434 [.int .i64 t434] from rfl) (Reps.one (show Kd.M (Kd.int .i64) _ _ _ t437 [.int .i64 t437] from rfl) (Reps.none _ _))))))
 intro v439 w15 ho16 hb hg_ hnew_
 clear hg_ hnew_
 (first | rw [← Ny438.out] at ho16 | (simp only [Int.reduceToNat] at ho16; rw [← Ny438.out] at ho16))
 have HO440 := Aside0.mk (Kd.R_lower ho16 (below_size au70))
 replace BK430 := Aside0.mk (blk_below (g := gb430) au121 hb)
 replace BK431 := Aside0.mk (blk_below (g := gb431) au122 hb)
 replace HB := Aside0.mk (below_step au70 hb)
 clear hb ho16
 obtain ⟨Ao17, co17, eo17⟩ := Kd.R_slice HO440.out
 (first | subst eo17 | (injection eo17 with f1_ f2_ f3_; have f4_ := f1_.symm; have f5_ := f3_.symm; clear f1_ f2_ f3_; subst f4_; subst f5_))
 refine hK.out _ _ ⟨(blk_cell BK430.out 0).trans rfl, (blk_cell BK430.out 1).trans rfl, (blk_cell BK430.out 2).trans rfl, (blk_cell BK430.out 3).trans rfl, (blk_cell BK431.out 0).trans rfl, (blk_cell BK431.out 1).trans rfl, (blk_cell BK431.out 2).trans rfl, (blk_cell BK431.out 3).trans rfl⟩ (fun hHeld => ?_)
 clear hK K
 refine no_ (some 25) ?_
 refine on_ 21 (some 26) #[true, true, true, true, true, true, true, true, true, true, true, true, true, true, true, true, true, true, true, true, true, true, false] HT_.out (fun K hK => ?_)
 refine gs_ Tryd.func75 #[.slice Ao17 y438.length co17] ?_
 with_reducible refine (cmp_Or_int.calls k _ _ y438 t441 _ ?side1 ?side2 A9.out).mono ?_
 (case side1 => repeat (first | exact (Kd.R_reads' HO440.out).2.2 | (with_reducible refine Kd.C_alloc ?_ _) | (with_reducible refine Kd.C_drewN ?_ _) | (with_reducible refine Kd.C_drew ?_)))
 (case side2 => exact (Kd.R_reads' HO440.out).2.1)
 rintro e w' ⟨rfl, ⟨nd, rfl⟩⟩
 refine ⟨_, rfl, ?_⟩
 refine hK.out _ _ ⟨(blk_cell BK430.out 0).trans rfl, (blk_cell BK430.out 1).trans rfl, (blk_cell BK430.out 2).trans rfl, (blk_cell BK430.out 3).trans rfl, (blk_cell BK431.out 0).trans rfl, (blk_cell BK431.out 1).trans rfl, (blk_cell BK431.out 2).trans rfl, (blk_cell BK431.out 3).trans rfl⟩ (fun hHeld => ?_)
 clear hK K
 refine no_ (some 26) ?_
 refine pu_ 22 (some 4) #[true, true, true, true, true, true, true, true, true, true, true, true, true, true, true, true, true, true, true, true, true, true, true] HT_.out ?_
 refine done_ (done_of HT_.out (by kernel_rfl)) ?_
 try go_wp2
 go_ret
 exact ⟨by first | rfl | (simp [errW_none, errW_some] <;> rfl) | (simp [*, errW_none, errW_some] <;> rfl), by repeat (first | (with_reducible first | exact HB.out | apply below_alloc | apply pw_below_drewN | apply below_drew1 | refine below_set ?_ GE430.out | refine below_set ?_ GE431.out) | exact HB.out)⟩


/-! ### impl_CompareDates: function 26 -/
def impl_CompareDates.f (k : Nat) (a0_0 : Int) (a0_1 : Int) (a0_2 : Int) (a0_3 : Bool) (a1_0 : Int) (a1_1 : Int) (a1_2 : Int) (a1_3 : Bool) : Option (Int × Bool) := (impl_IsValidDate.f k a0_0 a0_1 a0_2 a0_3).bind fun t444 => (if t444 = true then ((impl_IsValidDate.f k a1_0 a1_1 a1_2 a1_3).bind fun t445 => (if t445 = true then ((impl_compareDates.f k a0_0 a0_1 a0_2 a0_3 a1_0 a1_1 a1_2 a1_3).bind fun t446 => (some (t446, true))) else (some (0, false)))) else (some (0, false)))
theorem impl_CompareDates.mono : ∀ a0 a1 a2 a3 a4 a5 a6 a7 k, LeO (impl_CompareDates.f k a0 a1 a2 a3 a4 a5 a6 a7) (impl_CompareDates.f (k + 1) a0 a1 a2 a3 a4 a5 a6 a7) := by
 intro a0 a1 a2 a3 a4 a5 a6 a7 k
 unfold impl_CompareDates.f
 repeat' first
   | (with_reducible exact impl_IsValidDate.mono _ _ _ _ _)
   | (with_reducible exact impl_compareDates.mono _ _ _ _ _ _ _ _ _)
   | (with_reducible exact LeO.refl _)
   | (with_reducible exact LeO.none _)
   | (with_reducible refine LeO.ite ?_ ?_)
   | (with_reducible refine LeO.bind ?_ (fun _ => ?_))
   | exact impl_IsValidDate.mono _ _ _ _ _
   | exact impl_compareDates.mono _ _ _ _ _ _ _ _ _
   | exact LeO.none _
   | refine LeO.ite ?_ ?_
   | refine LeO.bind ?_ (fun _ => ?_)
set_option maxHeartbeats 8000000 in
set_option maxRecDepth 100000 in
theorem impl_CompareDates.calls (k : Nat) (a0_0 : Int) (a0_1 : Int) (a0_2 : Int) (a0_3 : Bool) (a1_0 : Int) (a1_1 : Int) (a1_2 : Int) (a1_3 : Bool) (r1 : Int) (r2 : Bool) (w : World) (h : impl_CompareDates.f k a0_0 a0_1 a0_2 a0_3 a1_0 a1_1 a1_2 a1_3 = some (r1, r2)) :
  Calls Tryd.prog 26 #[.agg #[.int .i64 a0_0, .int .i64 a0_1, .int .i64 a0_2, .bool a0_3], .agg #[.int .i64 a1_0, .int .i64 a1_1, .int .i64 a1_2, .bool a1_3]] w fun e w' => e = .returned (.tuple #[.int .i64 r1, .bool r2]) ∧ Below w.heap.size w w' := by
 have hu33 := Tryd.underlying33
 have HB := Aside0.mk (Below.refl w.heap.size w)
 have H : ((impl_IsValidDate.f k a0_0 a0_1 a0_2 a0_3).bind fun t444 => (if t444 = true then ((impl_IsValidDate.f k a1_0 a1_1 a1_2 a1_3).bind fun t445 => (if t445 = true then ((impl_compareDates.f k a0_0 a0_1 a0_2 a0_3 a1_0 a1_1 a1_2 a1_3).bind fun t446 => (some (t446, true))) else (some (0, false)))) else (some (0, false)))) = some (r1, r2) := h
 clear h
 replace H := Option.bind_eq_some_iff.mp H
 obtain ⟨t444, A30, H⟩ := H
 try dsimp only at H
 have A3 := Aside0.mk A30
 clear A30
 by_cases c4 : t444 = true
 ·
  subst c4
  replace H := (if_pos rfl).symm.trans H
  replace H := Option.bind_eq_some_iff.mp H
  obtain ⟨t445, A50, H⟩ := H
  try dsimp only at H
  have A5 := Aside0.mk A50
  clear A50
  by_cases c6 : t445 = true
  ·
   subst c6
   replace H := (if_pos rfl).symm.trans H
   replace H := Option.bind_eq_some_iff.mp H
   obtain ⟨t446, A70, H⟩ := H
   try dsimp only at H
   have A7 := Aside0.mk A70
   clear A70
   simp only [Option.some.injEq, Prod.mk.injEq] at H
   obtain ⟨rfl, rfl⟩ := H
   go_enter Tryd.func26, Tryd.ntmps26
   go_wp2_with (first | ((with_reducible refine gate_dst (N := 2) rfl ?_); refine box_event ?hg (N := 2) ?hd (cs := #[.int .i64 a0_0, .int .i64 a0_1, .int .i64 a0_2, .bool a0_3]) (t := 33) ?hr ?_; (case hd => rfl); (case hg => rfl); (case hr => first | (go_simp; done) | (go_simp; rfl)); intro gb442 hg w8 hbox hb; have BK442 := Aside0.mk (hbox); have GW442 := Aside0.mk (bsz hg au101); have GE442 := Aside0.mk (bsz hg au101); replace HB := Aside0.mk (below_step au101 hb); clear hb hbox hg) | ((with_reducible refine gate_dst (N := 3) rfl ?_); refine box_event ?hg (N := 3) ?hd (cs := #[.int .i64 a1_0, .int .i64 a1_1, .int .i64 a1_2, .bool a1_3]) (t := 33) ?hr ?_; (case hd => rfl); (case hg => rfl); (case hr => first | (go_simp; done) | (go_simp; rfl)); intro gb443 hg w9 hbox hb; have BK443 := Aside0.mk (hbox); have GW443 := Aside0.mk (bsz hg au91); have GE443 := Aside0.mk (bsz hg au91); replace HB := Aside0.mk (below_step au91 hb); have NB442_443 := Aside0.mk (bne (g := gb442) hg au123); have NB443_442 := Aside0.mk (ben (g := gb442) hg au123); replace BK442 := Aside0.mk (blk_below (g := gb442) au123 hb); clear hb hbox hg; have hnb10 := NB442_443.out; have hnc10 := NB443_442.out; obtain ⟨hcz11_0, hcz11_1, hcz11_2, hcz11_3, hfz11_0, hfz11_1, hfz11_2, hfz11_3⟩ := blkc4 BK442.out) | ((with_reducible refine gate_callee (f := 49) rfl ?_); refine goesL_ (some 7) rfl rfl Tryd.func49 (by kernel_rfl) rfl #[.agg #[.int .i64 a0_0, .int .i64 a0_1, .int .i64 a0_2, .bool a0_3]] rfl au100 ?_; (with_reducible refine (impl_IsValidDate.calls k a0_0 a0_1 a0_2 a0_3 true _ A3.out).mono ?_); rintro e w12 ⟨rfl, hb⟩; refine ⟨_, rfl, ?_⟩; replace BK442 := Aside0.mk (blk_below (g := gb442) au123 hb); replace BK443 := Aside0.mk (blk_below (g := gb443) au124 hb); replace HB := Aside0.mk (below_step au71 hb); (try clear hb); obtain ⟨hcz13_0, hcz13_1, hcz13_2, hcz13_3, hfz13_0, hfz13_1, hfz13_2, hfz13_3⟩ := blkc4 BK443.out) | (go_at_call 49; (with_reducible refine (impl_IsValidDate.calls k a1_0 a1_1 a1_2 a1_3 true _ A5.out).mono ?_); rintro e w14 ⟨rfl, hb⟩; replace BK442 := Aside0.mk (blk_below (g := gb442) au123 hb); replace BK443 := Aside0.mk (blk_below (g := gb443) au124 hb); replace HB := Aside0.mk (below_step au71 hb); (try clear hb); obtain ⟨hcz15_0, hcz15_1, hcz15_2, hcz15_3, hfz15_0, hfz15_1, hfz15_2, hfz15_3⟩ := blkc4 BK442.out; obtain ⟨hcz16_0, hcz16_1, hcz16_2, hcz16_3, hfz16_0, hfz16_1, hfz16_2, hfz16_3⟩ := blkc4 BK443.out) | ((with_reducible refine gate_callee (f := 57) rfl ?_); refine goesL_ (some 16) rfl rfl Tryd.func57 (by kernel_rfl) rfl #[.agg #[.int .i64 a0_0, .int .i64 a0_1, .int .i64 a0_2, .bool a0_3], .agg #[.int .i64 a1_0, .int .i64 a1_1, .int .i64 a1_2, .bool a1_3]] rfl au100 ?_; (with_reducible refine (impl_compareDates.calls k a0_0 a0_1 a0_2 a0_3 a1_0 a1_1 a1_2 a1_3 t446 _ A7.out).mono ?_); rintro e w17 ⟨rfl, hb⟩; refine ⟨_, rfl, ?_⟩; replace BK442 := Aside0.mk (blk_below (g := gb442) au123 hb); replace BK443 := Aside0.mk (blk_below (g := gb443) au124 hb); replace HB := Aside0.mk (below_step au71 hb); (try clear hb)))
   go_ret2
   exact ax13
  ·
   replace c6 := Bool.eq_false_iff.mpr c6
   subst c6
   replace H := (if_neg (show ¬ (false = true) by decide)).symm.trans H
   simp only [Option.some.injEq, Prod.mk.injEq] at H
   obtain ⟨rfl, rfl⟩ := H
   go_enter Tryd.func26, Tryd.ntmps26
   go_wp2_with (first | ((with_reducible refine gate_dst (N := 2) rfl ?_); refine box_event ?hg (N := 2) ?hd (cs := #[.int .i64 a0_0, .int .i64 a0_1, .int .i64 a0_2, .bool a0_3]) (t := 33) ?hr ?_; (case hd => rfl); (case hg => rfl); (case hr => first | (go_simp; done) | (go_simp; rfl)); intro gb442 hg w18 hbox hb; have BK442 := Aside0.mk (hbox); have GW442 := Aside0.mk (bsz hg au101); have GE442 := Aside0.mk (bsz hg au101); replace HB := Aside0.mk (below_step au101 hb); clear hb hbox hg) | ((with_reducible refine gate_dst (N := 3) rfl ?_); refine box_event ?hg (N := 3) ?hd (cs := #[.int .i64 a1_0, .int .i64 a1_1, .int .i64 a1_2, .bool a1_3]) (t := 33) ?hr ?_; (case hd => rfl); (case hg => rfl); (case hr => first | (go_simp; done) | (go_simp; rfl)); intro gb443 hg w19 hbox hb; have BK443 := Aside0.mk (hbox); have GW443 := Aside0.mk (bsz hg au91); have GE443 := Aside0.mk (bsz hg au91); replace HB := Aside0.mk (below_step au91 hb); have NB442_443 := Aside0.mk (bne (g := gb442) hg au123); have NB443_442 := Aside0.mk (ben (g := gb442) hg au123); replace BK442 := Aside0.mk (blk_below (g := gb442) au123 hb); clear hb hbox hg; have hnb20 := NB442_443.out; have hnc20 := NB443_442.out; obtain ⟨hcz21_0, hcz21_1, hcz21_2, hcz21_3, hfz21_0, hfz21_1, hfz21_2, hfz21_3⟩ := blkc4 BK442.out) | ((with_reducible refine gate_callee (f := 49) rfl ?_); refine goesL_ (some 7) rfl rfl Tryd.func49 (by kernel_rfl) rfl #[.agg #[.int .i64 a0_0, .int .i64 a0_1, .int .i64 a0_2, .bool a0_3]] rfl au100 ?_; (with_reducible refine (impl_IsValidDate.calls k a0_0 a0_1 a0_2 a0_3 true _ A3.out).mono ?_); rintro e w22 ⟨rfl, hb⟩; refine ⟨_, rfl, ?_⟩; replace BK442 := Aside0.mk (blk_below (g := gb442) au123 hb); replace BK443 := Aside0.mk (blk_below (g := gb443) au124 hb); replace HB := Aside0.mk (below_step au71 hb); (try clear hb); obtain ⟨hcz23_0, hcz23_1, hcz23_2, hcz23_3, hfz23_0, hfz23_1, hfz23_2, hfz23_3⟩ := blkc4 BK443.out) | (go_at_call 49; (with_reducible refine (impl_IsValidDate.calls k a1_0 a1_1 a1_2 a1_3 false _ A5.out).mono ?_); rintro e w24 ⟨rfl, hb⟩; replace BK442 := Aside0.mk (blk_below (g := gb442) au123 hb); replace BK443 := Aside0.mk (blk_below (g := gb443) au124 hb); replace HB := Aside0.mk (below_step au71 hb); (try clear hb)))
   go_ret2
   exact ax13
 ·
  replace c4 := Bool.eq_false_iff.mpr c4
  subst c4
  replace H := (if_neg (show ¬ (false = true) by decide)).symm.trans H
  simp only [Option.some.injEq, Prod.mk.injEq] at H
  obtain ⟨rfl, rfl⟩ := H
  go_enter Tryd.func26, Tryd.ntmps26
  go_wp2_with (first | ((with_reducible refine gate_dst (N := 2) rfl ?_); refine box_event ?hg (N := 2) ?hd (cs := #[.int .i64 a0_0, .int .i64 a0_1, .int .i64 a0_2, .bool a0_3]) (t := 33) ?hr ?_; (case hd => rfl); (case hg => rfl); (case hr => first | (go_simp; done) | (go_simp; rfl)); intro gb442 hg w25 hbox hb; have BK442 := Aside0.mk (hbox); have GW442 := Aside0.mk (bsz hg au101); have GE442 := Aside0.mk (bsz hg au101); replace HB := Aside0.mk (below_step au101 hb); clear hb hbox hg) | ((with_reducible refine gate_dst (N := 3) rfl ?_); refine box_event ?hg (N := 3) ?hd (cs := #[.int .i64 a1_0, .int .i64 a1_1, .int .i64 a1_2, .bool a1_3]) (t := 33) ?hr ?_; (case hd => rfl); (case hg => rfl); (case hr => first | (go_simp; done) | (go_simp; rfl)); intro gb443 hg w26 hbox hb; have BK443 := Aside0.mk (hbox); have GW443 := Aside0.mk (bsz hg au91); have GE443 := Aside0.mk (bsz hg au91); replace HB := Aside0.mk (below_step au91 hb); have NB442_443 := Aside0.mk (bne (g := gb442) hg au123); have NB443_442 := Aside0.mk (ben (g := gb442) hg au123); replace BK442 := Aside0.mk (blk_below (g := gb442) au123 hb); clear hb hbox hg; have hnb27 := NB442_443.out; have hnc27 := NB443_442.out; obtain ⟨hcz28_0, hcz28_1, hcz28_2, hcz28_3, hfz28_0, hfz28_1, hfz28_2, hfz28_3⟩ := blkc4 BK442.out) | ((with_reducible refine gate_callee (f := 49) rfl ?_); refine goesL_ (some 7) rfl rfl Tryd.func49 (by kernel_rfl) rfl #[.agg #[.int .i64 a0_0, .int .i64 a0_1, .int .i64 a0_2, .bool a0_3]] rfl au100 ?_; (with_reducible refine (impl_IsValidDate.calls k a0_0 a0_1 a0_2 a0_3 false _ A3.out).mono ?_); rintro e w29 ⟨rfl, hb⟩; refine ⟨_, rfl, ?_⟩; replace BK442 := Aside0.mk (blk_below (g := gb442) au123 hb); replace BK443 := Aside0.mk (blk_below (g := gb443) au124 hb); replace HB := Aside0.mk (below_step au71 hb); (try clear hb)))
  go_ret2
  exact ax13

end Go.Proofs.YtmjmjfkjlblgaaaDoor.G
