/- A part of the proof that Check and Same return what the specification returns, for every two lists of at most 600 pieces. -/
import Derived.Test.YtnhbgahfmcicnaaGreatDoorCtM10
import Derived.Test.YtnhbgahfmcicnaaGreatDoorCtM0
section
namespace Go.Proofs.YtnhbgahfmcicnaaGreatDoor.Pure
set_option linter.unusedVariables false
open Go.RowKit Go.Proofs.YtnhbgahfmcicnaaGreatDoor.PA Go.Proofs.YtnhbgahfmcicnaaGreatDoorW.PrintWords Go.Proofs.YtnhbgahfmcicnaaGreatDoorW.PrintLast
theorem SpecChecks (l m : List S35) (hl : HandedL l) (hm : HandedL m) : ∃ k, sorobanlaw21_SpecChecks.f k l m = some true := by
  have hs1 := fun {k : Nat} (hk : l.length < k) => small_f l (Nat.le_trans hl.1 (by decide)) (fun x hx => Nat.le_trans (hl.2 x hx).1 (by decide)) hk
  have hs2 := fun {k : Nat} (hk : m.length < k) => small_f m (Nat.le_trans hm.1 (by decide)) (fun x hx => Nat.le_trans (hm.2 x hx).1 (by decide)) hk
  have hj : ∀ k, sorobanlaw21_SpecChecks.j0 (k + 1) l m true = some true := by
    intro k
    simp only [sorobanlaw21_SpecChecks.j0]
    rfl
  obtain ⟨K, hK⟩ : ∃ K, l.length + m.length + 2000000 < K := ⟨_, Nat.lt_succ_self _⟩
  refine ⟨K + 1, ?_⟩
  unfold sorobanlaw21_SpecChecks.f
  rw [hs1 (by omega), Option.bind_some]
  cases h1 : smallC l with
  | false => rw [if_neg (by simp)]; exact hj _
  | true =>
    rw [if_pos rfl, hs2 (by omega), Option.bind_some]
    cases h2 : smallC m with
    | false => exact hj _
    | true =>
      unfold smallC at h1 h2
      simp only [Bool.and_eq_true, decide_eq_true_eq] at h1 h2
      have hx : ∀ x ∈ l, x.f0.size ≤ 20000 := fun x hx => Nat.le_trans (sizesC_mem hx) h1.2
      show sorobanlaw21_SpecChecks.j0 (K + 1) l m false = some true
      simp only [sorobanlaw21_SpecChecks.j0]
      rw [if_neg (by simp), check_f l (by omega) (fun x h => by have := hx x h; omega) (by omega), Option.bind_some, rcheck_f l (by omega) (fun x h => ⟨by have := hx x h; omega, (hl.2 x h).2.i2⟩) (by omega), Option.bind_some]
      unfold sorobanlaw21_sanity.f
      rw [Option.bind_some, if_pos rfl, if_pos rfl, if_pos rfl, same_f l m (by omega) (by omega) (by omega), Option.bind_some, rsame_f l m (by omega) (by omega) (by omega), Option.bind_some, if_pos (by simp),
        same_f l l (by omega) (by omega) (by omega), Option.bind_some, sameC_self]
end Go.Proofs.YtnhbgahfmcicnaaGreatDoor.Pure
end
