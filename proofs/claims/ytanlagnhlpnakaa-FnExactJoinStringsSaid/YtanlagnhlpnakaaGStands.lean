/- Plain laws: l1Stands tells whether a byte stands in a text, and so does the sign of IndexByte; condition: a text that the model can hold. -/
import Derived.Test.YtanlagnhlpnakaaB
import Derived.Test.YtanlagnhlpnakaaGF62
import Derived.Lib.Bytealg
namespace Go.Proofs.Ytanlagnhlpnakaa.G
open Go.RowKit Go.Proofs.YtanlagnhlpnakaaW.PrintWords Go.Proofs.YtanlagnhlpnakaaW.PrintLast Go.Proofs.Ytanlagnhlpnakaa.B
set_option linter.unusedVariables false
set_option linter.unusedSimpArgs false
theorem stands_loop (s : ByteArray) (b : UInt8) (hs : s.size ≤ 4611686018427387904) (d : Nat) : ∀ (i : Nat), i ≤ s.size → s.size - i = d →
    Ev (fun k => spec_l1Stands.l0 k s (b.toNat : Int) i) (decide (b ∈ (L s).drop i)) := by
  have hL : (L s).length = s.size := L_len s
  induction d with
  | zero =>
    intro i hi hd
    refine Ev.step (f := fun _ => some false) (fun k => ?_) (ev_eq (Ev.now _) ?_)
    · simp only [spec_l1Stands.l0]; rw [if_neg (by omega)]
    · rw [List.drop_of_length_le (by omega)]; simp
  | succ d ih =>
    intro i hi hd
    have hlt : i < s.size := by omega
    have hlt' : i < (L s).length := by omega
    rw [List.drop_eq_getElem_cons hlt']
    by_cases e : (L s)[i] = b
    · refine Ev.step (f := fun _ => some true) (fun k => ?_) (ev_eq (Ev.now _) ?_)
      · simp only [spec_l1Stands.l0]; rw [if_pos (by omega), if_pos (by omega), if_pos (by rw [bt_get s i hlt, e])]
      · simp [e]
    · refine Ev.step (f := fun k => spec_l1Stands.l0 k s (b.toNat : Int) ((i + 1 : Nat) : Int)) (fun k => ?_) (ev_eq (ih (i + 1) (by omega) (by omega)) ?_)
      · simp only [spec_l1Stands.l0]
        rw [if_pos (by omega), if_pos (by omega), if_neg (by rw [bt_get s i hlt]; exact fun h => e (u8_inj h)), w64 (x := (i : Int) + 1) (by omega) (by omega)]
        rfl
      · rw [decide_eq_decide, List.mem_cons]
        exact ⟨.inr, fun h => h.elim (fun h => absurd h.symm e) id⟩
theorem stands_ev (s : ByteArray) (b : UInt8) (hs : s.size ≤ 4611686018427387904) : Ev (fun k => spec_l1Stands.f k s (b.toNat : Int)) (decide (b ∈ L s)) := by
  have := stands_loop s b hs s.size 0 (by omega) (by omega)
  simpa [spec_l1Stands.f] using this
theorem indexByte_bd (l : List UInt8) (b : UInt8) : -1 ≤ Lib.indexByte l b ∧ Lib.indexByte l b < l.length + 1 ∧ (0 ≤ Lib.indexByte l b ↔ b ∈ l) := by
  induction l with
  | nil => simp [Lib.indexByte]
  | cons c l ih =>
    unfold Lib.indexByte
    by_cases h : c = b
    · subst h; simp; omega
    · have h' : (c == b) = false := by simpa using h
      rw [h']
      obtain ⟨i1, i2, i3⟩ := ih
      have hm : b ∈ c :: l ↔ b ∈ l := by rw [List.mem_cons]; exact ⟨fun x => x.elim (fun x => absurd x.symm h) id, .inr⟩
      rw [hm, ← i3]
      by_cases e : Lib.indexByte l b = -1
      · simp [e]; omega
      · have e' : (Lib.indexByte l b == -1) = false := by simpa using e
        rw [e']; simp; omega
theorem byte_back (b : UInt8) : (b.toNat : Int).toNat.toUInt8 = b := by simp
end Go.Proofs.Ytanlagnhlpnakaa.G
