/- A part of the proof of the claim's statement. -/
import Derived.Test.YtnhbgahfmcicnaaGreatDoorPtM10
import Derived.Test.YtnhbgahfmcicnaaGreatDoorPtM12
section
namespace Go.Proofs.YtnhbgahfmcicnaaGreatDoor.Pure
set_option linter.unusedVariables false
open Go.RowKit Go.Proofs.YtnhbgahfmcicnaaGreatDoor.PA Go.Proofs.YtnhbgahfmcicnaaGreatDoorW.PrintWords Go.Proofs.YtnhbgahfmcicnaaGreatDoorW.PrintLast
theorem goC_zero (l : List S35) : ∀ (d i : Nat), (goC l d i).1 = 0 → goC l d i = (0, 0) := by
  intro d
  induction d with
  | zero =>
    intro i h
    unfold goC at h ⊢
    split
    · rfl
    · rename_i hw
      rw [if_neg hw] at h
      cases h
  | succ d ih =>
    intro i h
    unfold goC at h ⊢
    split
    · rename_i hc
      rw [if_pos hc] at h
      exact ih (i + 1) h
    · rename_i hc
      rw [if_neg hc] at h
      cases h
theorem check_zero {l : List S35} (h : (checkC l).1 = 0) : checkC l = (0, 0) := by
  unfold checkC at h ⊢
  split
  · rename_i hc
    rw [if_pos hc] at h
    cases h
  · rename_i hc
    rw [if_neg hc] at h
    exact goC_zero l _ _ h
theorem print_bad {l : List S35} (hs : ∀ x ∈ l, x.f0.size ≤ 20000) (hl : l.length ≤ 600) (hc : ¬ (checkC l).1 = 0) {k : Nat} (hk : 4 * l.length + 10 < k) :
    spec_Print.f k l = some ((⟨#[]⟩ : ByteArray), (checkC l).1) := by
  unfold spec_Print.f
  rw [check_f l (by omega) (fun x hx => by have := hs x hx; omega) (by omega), Option.bind_some, if_neg hc]
theorem strOf_size (t : List UInt8) : (PA.strOf t).size = t.length := by show t.toArray.size = _; simp
end Go.Proofs.YtnhbgahfmcicnaaGreatDoor.Pure
end
