/- Plain law: the reference's l1Split gives the parts of a text between bytes; condition: a text of at most 8796093022000 bytes. -/
import Derived.Test.YtanlagnhlpnakaaSpl
import Derived.Test.YtanlagnhlpnakaaGF55
namespace Go.Proofs.Ytanlagnhlpnakaa.G
open Go.RowKit Go.Proofs.YtanlagnhlpnakaaW.PrintWords Go.Proofs.YtanlagnhlpnakaaW.PrintLast Go.Proofs.Ytanlagnhlpnakaa.B
set_option linter.unusedVariables false
set_option linter.unusedSimpArgs false
theorem split_loop (s : ByteArray) (b : UInt8) (hs : s.size ≤ 8796093022000) (d : Nat) : ∀ (out : List ByteArray) (f i : Nat), out.length ≤ i → f ≤ i → i ≤ s.size → s.size - i = d →
    Ev (fun k => spec_l1Split.l0 k s (b.toNat : Int) out f i) (out ++ (ahd (((L s).drop f).take (i - f)) (spl b ((L s).drop i))).map mkB) := by
  have hL : (L s).length = s.size := L_len s
  induction d with
  | zero =>
    intro out f i h0 h1 h2 hd
    have e : i = s.size := by omega
    refine Ev.step (f := fun _ => some (out ++ [s.extract f s.size])) (fun k => ?_) (ev_eq (Ev.now _) ?_)
    · simp only [spec_l1Split.l0]
      rw [if_neg (by omega), if_pos (by omega), if_pos (by omega), if_pos (by omega)]
      simp
    · rw [List.drop_of_length_le (l := L s) (i := i) (by omega)]
      simp [spl, ahd]
      apply L_inj
      rw [L_extract, L_mk, e]
  | succ d ih =>
    intro out f i h0 h1 h2 hd
    have hlt : i < s.size := by omega
    have hlt' : i < (L s).length := by omega
    rw [spl_step b (L s) f i hlt' h1]
    have hw : wrap64 ((i : Int) + 1) = ((i + 1 : Nat) : Int) := by rw [w64 (by omega) (by omega)]; rfl
    by_cases e : (L s)[i] = b
    · rw [if_pos e]
      refine Ev.step (f := fun k => spec_l1Split.l0 k s (b.toNat : Int) (out ++ [s.extract f i]) ((i + 1 : Nat) : Int) ((i + 1 : Nat) : Int)) (fun k => ?_) (ev_eq (ih (out ++ [s.extract f i]) (i + 1) (i + 1) (by simp; omega) (by omega) (by omega) (by omega)) ?_)
      · simp only [spec_l1Split.l0]
        rw [if_pos (by omega), if_pos (by omega), if_pos (by rw [bt_get s i hlt, e]), if_pos (by omega), if_pos (by omega), if_pos (by omega), if_pos (by omega), hw]
        simp
      · rw [Nat.sub_self, List.take_zero, ahd_nil _ (spl_ne b _), List.append_assoc]
        congr 1
        simp
        apply L_inj
        rw [L_extract, L_mk]
    · rw [if_neg e]
      refine Ev.step (f := fun k => spec_l1Split.l0 k s (b.toNat : Int) out f ((i + 1 : Nat) : Int)) (fun k => ?_) (ih out f (i + 1) (by omega) (by omega) (by omega) (by omega))
      simp only [spec_l1Split.l0]
      rw [if_pos (by omega), if_pos (by omega), if_neg (by rw [bt_get s i hlt]; exact fun h => e (u8_inj h)), hw]
theorem split_ev (s : ByteArray) (b : UInt8) (hs : s.size ≤ 8796093022000) : Ev (fun k => spec_l1Split.f k s (b.toNat : Int)) ((spl b (L s)).map mkB) := by
  have := split_loop s b hs s.size [] 0 0 (by simp) (by omega) (by omega) (by omega)
  unfold spec_l1Split.f
  simpa [ahd_nil _ (spl_ne b _)] using this
end Go.Proofs.Ytanlagnhlpnakaa.G
