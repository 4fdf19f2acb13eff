/- A part of the proof of the claim's statement. -/
import Derived.Test.YtnhbgahfmcicnaaGreatDoorPcK0
import Derived.Test.YtnhbgahfmcicnaaGreatDoorPcPAx0
import Derived.Test.YtnhbgahfmcicnaaGreatDoorPcPAx1
import Derived.Test.YtnhbgahfmcicnaaGreatDoorPcPAx2
import Derived.Test.YtnhbgahfmcicnaaGreatDoorPcPAx3
import Derived.Test.YtnhbgahfmcicnaaGreatDoorPcPAx7
import Derived.Test.YtnhbgahfmcicnaaGreatDoorPcG2f
import Derived.Test.YtnhbgahfmcicnaaGreatDoorPcG3p
import Derived.Test.YtnhbgahfmcicnaaGreatDoorPcG4
import Derived.Test.YtnhbgahfmcicnaaGreatDoorPcPAx15
import Derived.Test.YtnhbgahfmcicnaaGreatDoorPcPAx11
import Derived.Test.YtnhbgahfmcicnaaGreatDoorPcPAx10
import Derived.Test.YtnhbgahfmcicnaaGreatDoorPcG2b
import Derived.Outline
import Derived.Test.YtnhbgahfmcicnaaGreatDoorPcG2f1
import Derived.Test.YtnhbgahfmcicnaaGreatDoorPcM7
import Derived.Deep.RegionHeld3
import Derived.Deep.DeepCutAuto
import Derived.Deep.CutRange
import Derived.Test.YtnhbgahfmcicnaaGreatDoorPcG1a
import Derived.Test.YtnhbgahfmcicnaaGreatDoorPcG2e
import Derived.Test.YtnhbgahfmcicnaaGreatDoorPcPureSpecBack
section
namespace Go.Proofs.YtnhbgahfmcicnaaGreatDoor.Pure
set_option linter.unusedVariables false
set_option linter.unusedSimpArgs false
open Go.RowKit Go.Proofs.YtnhbgahfmcicnaaGreatDoor.PA Go.Proofs.YtnhbgahfmcicnaaGreatDoorW.PrintWords Go.Proofs.YtnhbgahfmcicnaaGreatDoorW.PrintLast
theorem foldl_max_ge : ∀ (A : List Int) (m : Int), m ≤ A.foldl max m ∧ (∀ x ∈ A, x ≤ A.foldl max m) ∧ (A.foldl max m = m ∨ A.foldl max m ∈ A)
 | [], m => ⟨Int.le_refl _, fun x h => absurd h List.not_mem_nil, Or.inl rfl⟩
 | a :: A, m => by
  obtain ⟨h1, h2, h3⟩ := foldl_max_ge A (max m a)
  rw [List.foldl_cons]
  refine ⟨by omega, fun x hx => ?_, ?_⟩
  ·rcases List.mem_cons.1 hx with rfl | hx
   ·omega
   ·exact h2 x hx
  ·rcases h3 with h3 | h3
   ·rcases (by omega : max m a = m ∨ max m a = a) with e | e
    ·left; rw [h3, e]
    ·right; rw [h3, e]; exact List.mem_cons_self
   ·right; exact List.mem_cons_of_mem _ h3
theorem max_most (A : List Int) : Lib.maxOf (A ++ [0]) = mostC A := by
 unfold Lib.maxOf
 obtain ⟨a1, a2, a3⟩ := foldl_max_ge (A ++ [0]) ((A ++ [0]).headD 0)
 obtain ⟨b1, b2, b3⟩ := fold_mx A 0
 show _ = A.foldl mx 0
 generalize (A ++ [0]).foldl max ((A ++ [0]).headD 0) = x at a1 a2 a3
 generalize A.foldl mx 0 = y at b1 b2 b3
 have h0 : (0 : Int) ≤ x := a2 0 (by simp)
 have hhd : (A ++ [0]).headD 0 ∈ A ++ [0] := by
  cases A with
  | nil => simp
  | cons a A => simp
 have hx : x ∈ A ++ [0] := by
  rcases a3 with e | e
  ·rw [e]; exact hhd
  ·exact e
 have h1 : x ≤ y := by
  rcases List.mem_append.1 hx with e | e
  ·exact b2 x e
  ·rw [List.mem_singleton.1 e]; exact b1
 have h2 : y ≤ x := by
  rcases b3 with e | e
  ·rw [e]; exact h0
  ·exact a2 y (List.mem_append.2 (Or.inl e))
 omega
theorem args_f {l : List S35} (hl : l.length ≤ 1000000) (hs : ∀ x ∈ l, x.f0.size < 4294967281) {k : Nat} (hk : 2 * l.length + 6 < k) :
  spec_Args.f k l = some (if (checkC l).1 = 0 then (mostC (allC l), 0) else (0, (checkC l).1)) := by
 unfold spec_Args.f
 rw [check_f l hl hs hk, Option.bind_some]
 by_cases h : (checkC l).1 = 0
 ·have hal := allC_length l
  rw [if_pos h, if_pos h, all_f l hl (by omega), Option.bind_some, if_pos (by omega)]
  unfold slices_Max_int_int.f
  rw [if_pos (by simp), Option.bind_some, max_most]
 ·rw [if_neg h, if_neg h]
end Go.Proofs.YtnhbgahfmcicnaaGreatDoor.Pure
end
