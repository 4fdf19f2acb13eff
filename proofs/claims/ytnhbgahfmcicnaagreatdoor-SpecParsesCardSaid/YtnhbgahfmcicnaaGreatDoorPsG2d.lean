/- A part of the proof that Parse returns what the specification returns, for every string. -/
import Derived.Test.YtnhbgahfmcicnaaGreatDoorPsPAx2
import Derived.Test.YtnhbgahfmcicnaaGreatDoorPsG1a
import Derived.Outline
section
namespace Go.Proofs.YtnhbgahfmcicnaaGreatDoor.PA
set_option linter.unusedVariables false
set_option linter.unusedSimpArgs false
open Go.RowKit Go.Shelf Go.Proofs.YtnhbgahfmcicnaaGreatDoorW.PrintWords Go.Proofs.YtnhbgahfmcicnaaGreatDoorW.PrintLast Go.Proofs.YtnhbgahfmcicnaaGreatDoorW.PrintMore
def hasB (s : ByteArray) (b : Int) : Bool := (bytesOf s).contains b
theorem in_l0 (s : ByteArray) (b : Int) (hs : s.size ≤ 140737488351232) : ∀ (d k i : Nat), i + d = s.size → d < k →
    sorobanref21_in.l0 k s b (i : Int) = some (((bytesOf s).drop i).contains b) := by
  intro d
  induction d with
  | zero =>
    intro k i hi hk
    obtain ⟨k, rfl⟩ : ∃ m, k = m + 1 := ⟨k - 1, by omega⟩
    simp only [sorobanref21_in.l0]
    rw [if_neg (by omega), List.drop_eq_nil_of_le (by rw [bytesOf_length]; omega)]
    rfl
  | succ d ih =>
    intro k i hi hk
    obtain ⟨k, rfl⟩ : ∃ m, k = m + 1 := ⟨k - 1, by omega⟩
    simp only [sorobanref21_in.l0]
    rw [if_pos (by omega), if_pos (by omega)]
    have hlt : i < (bytesOf s).length := by rw [bytesOf_length]; omega
    rw [List.drop_eq_getElem_cons hlt]
    have hb : bt s (i : Int) = (bytesOf s)[i] := by
      rw [← rd_bytesOf]
      simp [YtnhbgahfmcicnaaGreatDoorW.PrintWords.rd, hlt]
    rw [hb]
    by_cases e : (bytesOf s)[i] = b
    · rw [if_pos e]
      simp [e]
    · rw [if_neg e]
      have hw : wrap64 ((i : Int) + 1) = ((i + 1 : Nat) : Int) := by unfold wrap64; omega
      rw [hw, ih k (i + 1) (by omega) (by omega)]
      have e' : ¬ b = (bytesOf s)[i] := fun h => e h.symm
      rw [List.contains_cons, show (b == (bytesOf s)[i]) = false from beq_eq_false_iff_ne.2 e', Bool.false_or]
theorem in_f (s : ByteArray) (b : Int) (hs : s.size ≤ 140737488351232) (k : Nat) (hk : s.size < k) : sorobanref21_in.f k s b = some (hasB s b) := by
  unfold sorobanref21_in.f hasB
  have := in_l0 s b hs s.size k 0 (by omega) (by omega)
  simpa using this
end Go.Proofs.YtnhbgahfmcicnaaGreatDoor.PA
end
