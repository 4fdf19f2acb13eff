/- A part of the proof of the claim's statement. -/
import Derived.Test.YtnhbgahfmcicnaaGreatDoorCnM3
section
namespace Go.Proofs.YtnhbgahfmcicnaaGreatDoor.PA
set_option linter.unusedVariables false
open Go.RowKit Go.Proofs.YtnhbgahfmcicnaaGreatDoorW.PrintWords Go.Proofs.YtnhbgahfmcicnaaGreatDoorW.PrintLast
theorem best_prefix (l : List UInt8) : ∀ k, (mods.getD (bestMod l k) []).isPrefixOf l = true
  | 0 => by show (mods.getD 0 []).isPrefixOf l = true; simp [mods]
  | k + 1 => by
    unfold bestMod
    split
    · rename_i h
      simp only [Bool.and_eq_true] at h
      exact h.1
    · exact best_prefix l k
def Ends (r : List UInt8) : Prop := r = [] ∨ ∃ t, r = 37 :: t
theorem Ends.drop {l : List UInt8} (h : ¬ (hdI (l.dropWhile isTxt) = 0 ∧ l.dropWhile isTxt ≠ [])) : Ends (l.dropWhile isTxt) := by
  induction l with
  | nil => exact Or.inl rfl
  | cons c l ih =>
    rw [List.dropWhile_cons] at h ⊢
    cases hc : isTxt c with
    | true => rw [hc, if_pos rfl] at h; rw [if_pos rfl]; exact ih h
    | false =>
      rw [hc, if_neg (by simp)] at h
      rw [if_neg (by simp)]
      refine Or.inr ⟨l, ?_⟩
      have h0 : c ≠ 0 := fun e => h ⟨by rw [e]; rfl, by simp⟩
      have : c = 37 := by
        unfold isTxt at hc
        simp only [Bool.and_eq_false_iff, bne_eq_false_iff_eq] at hc
        rcases hc with e | e
        · exact e
        · exact absurd e h0
      rw [this]
theorem skipC_eq {b : UInt8} {l t : List UInt8} (h : skipC b l = some t) : l = b :: t := by
  cases l with
  | nil => cases h
  | cons c l =>
    rw [skipC_cons] at h
    split at h
    · rename_i e
      obtain rfl := Option.some.inj h
      rw [e]
    · cases h
theorem skipC_hit {b : UInt8} (t : List UInt8) : skipC b (b :: t) = some t := by simp [skipC]
end Go.Proofs.YtnhbgahfmcicnaaGreatDoor.PA
end
