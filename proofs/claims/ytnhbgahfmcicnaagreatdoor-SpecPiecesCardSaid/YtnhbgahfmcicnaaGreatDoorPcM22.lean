/- A part of the proof of the claim's statement. -/
import Derived.Test.YtnhbgahfmcicnaaGreatDoorPcPureSpecBack
section
namespace Go.Proofs.YtnhbgahfmcicnaaGreatDoor.Pure
set_option linter.unusedVariables false
set_option linter.unusedSimpArgs false
open Go.RowKit Go.Proofs.YtnhbgahfmcicnaaGreatDoor.PA Go.Proofs.YtnhbgahfmcicnaaGreatDoorW.PrintWords Go.Proofs.YtnhbgahfmcicnaaGreatDoorW.PrintLast
theorem fits_plain {x : S35} (hf : fitsC x = true) (h : x.f8 = 0 ∨ x.f8 = 37) : plainC x = true := by
  unfold fitsC at hf
  by_cases h0 : x.f8 = 0
  · rw [if_pos h0] at hf
    exact (Bool.and_eq_true _ _ ▸ hf).1
  · rw [if_neg h0, if_pos (by omega)] at hf
    exact (Bool.and_eq_true _ _ ▸ hf).2
end Go.Proofs.YtnhbgahfmcicnaaGreatDoor.Pure
end
