/- A part of the proof that Parse returns what the specification returns, for every string. -/
import Derived.Test.YtnhbgahfmcicnaaGreatDoorPsPAx12
import Derived.Test.YtnhbgahfmcicnaaGreatDoorPsM10
section
namespace Go.Proofs.YtnhbgahfmcicnaaGreatDoor.Pure
set_option linter.unusedVariables false
open Go.RowKit Go.Proofs.YtnhbgahfmcicnaaGreatDoor.PA Go.Proofs.YtnhbgahfmcicnaaGreatDoorW.PrintWords Go.Proofs.YtnhbgahfmcicnaaGreatDoorW.PrintLast
theorem piecesC_length : ∀ (k : Nat) (acc : List S35) (pl nx : Int) (l : List UInt8) (L : List S35), piecesC k acc pl nx l = .ok L → L.length ≤ acc.length + k := by
  intro k
  induction k with
  | zero =>
    intro acc pl nx l L h
    injection h with h
    subst h
    exact Nat.le_refl _
  | succ k ih =>
    intro acc pl nx l L h
    unfold piecesC at h
    split at h
    · injection h with h; subst h; omega
    · split at h
      · cases h
      · split at h
        · cases h
        · have := ih _ _ _ _ _ h
          rw [List.length_append, List.length_singleton] at this
          omega
theorem parseC_length (l : List UInt8) : (parseC l).1.length ≤ 2001 := by
  have hm : parseC l = if 2000 < l.length then ([], 2, 0) else outC l.length (piecesC (l.length + 1) [] 0 0 l) := rfl
  by_cases h : 2000 < l.length
  · rw [hm, if_pos h]; exact Nat.zero_le _
  · rw [hm, if_neg h]
    cases hp : piecesC (l.length + 1) [] 0 0 l with
    | error e => exact Nat.zero_le _
    | ok L =>
      have := piecesC_length _ _ _ _ _ _ hp
      unfold outC
      dsimp only
      split
      · simp only [List.length_nil] at this; show L.length ≤ 2001; omega
      · exact Nat.zero_le _
theorem SpecParses : sorobanlaw21_SpecParses.Pure := by
  intro a0 h0
  have hl := parseC_length a0.data.toList
  refine ⟨2002, ?_⟩
  unfold sorobanlaw21_SpecParses.f spec_Parse.f sorobanref21_Parse.f sorobanlaw21_sanity.f
  rw [Option.bind_some, Option.bind_some, Option.bind_some, parse_rel, if_pos rfl, if_pos rfl, if_pos rfl, rsame_f _ _ (by omega) (by omega) (by omega), sameC_self]
  rfl
end Go.Proofs.YtnhbgahfmcicnaaGreatDoor.Pure
end
