/- A part of the proof of the claim's statement. -/
import Derived.Test.YtnhbgahfmcicnaaGreatDoorPcM7
section
namespace Go.Proofs.YtnhbgahfmcicnaaGreatDoor.PA
set_option linter.unusedVariables false
set_option linter.unusedSimpArgs false
open Go.RowKit Go.Shelf Go.Proofs.YtnhbgahfmcicnaaGreatDoorW.PrintWords Go.Proofs.YtnhbgahfmcicnaaGreatDoorW.PrintLast Go.Proofs.YtnhbgahfmcicnaaGreatDoorW.PrintMore
theorem indexAny_pos : ∀ (l : List UInt8), decide (0 ≤ Lib.indexAny l [37, 0]) = (l.contains 0 || l.contains 37)
 | [] => rfl
 | b :: l => by
  have ih := indexAny_pos l
  have hge := Lib.indexAny_ge [37, 0] l
  unfold Lib.indexAny
  by_cases h : ([37, 0] : List UInt8).contains b = true
  ·rw [if_pos h]
   have : b = 37 ∨ b = 0 := by simpa using h
   rcases this with rfl | rfl
   ·simp
   ·simp
  ·rw [if_neg h]
   have hb : ¬ b = 37 ∧ ¬ b = 0 := by
    constructor
    ·intro e; exact h (by rw [e]; rfl)
    ·intro e; exact h (by rw [e]; rfl)
   have h1 : ((b :: l).contains 0 || (b :: l).contains 37) = (l.contains 0 || l.contains 37) := by
    rw [List.contains_cons, List.contains_cons, beq_eq_false_iff_ne.2 fun e : (0 : UInt8) = b => hb.2 e.symm, beq_eq_false_iff_ne.2 fun e : (37 : UInt8) = b => hb.1 e.symm]
    rfl
   rw [h1, ← ih]
   by_cases hm : Lib.indexAny l [37, 0] = -1
   ·rw [hm]; rfl
   ·rw [if_neg (by simpa using hm)]
    exact decide_eq_decide.2 ⟨fun _ => by omega, fun _ => by omega⟩
end Go.Proofs.YtnhbgahfmcicnaaGreatDoor.PA
end
