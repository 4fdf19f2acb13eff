/- A part of the proof of the claim's statement. -/
import Derived.Test.YtnhbgahfmcicnaaGreatDoorPcPAx2
import Derived.Test.YtnhbgahfmcicnaaGreatDoorPcM4
import Derived.Test.YtnhbgahfmcicnaaGreatDoorPcG2e
import Derived.Test.YtnhbgahfmcicnaaGreatDoorPcG2f
import Derived.KernelRfl
section
namespace Go.Proofs.YtnhbgahfmcicnaaGreatDoor.PA
set_option linter.unusedVariables false
set_option linter.unusedSimpArgs false
open Go.RowKit Go.Shelf Go.Proofs.YtnhbgahfmcicnaaGreatDoorW.PrintWords Go.Proofs.YtnhbgahfmcicnaaGreatDoorW.PrintLast Go.Proofs.YtnhbgahfmcicnaaGreatDoorW.PrintMore
def exA : List S35 := [⟨⟨#[97]⟩, 0, 0, -1, 0, -1, 0, 0, 0⟩, ⟨⟨#[]⟩, 1, 0, 5, 0, 2, 0, 3, 102⟩, ⟨⟨#[]⟩, 0, 0, -1, 0, -1, 0, 0, 37⟩]
def exB : List S35 := [⟨⟨#[]⟩, 3, 0, -1, 1, -1, 2, 8, 103⟩, ⟨⟨#[]⟩, 4, 0, -1, 0, -1, 0, 0, 110⟩]
def exC : List S35 := [⟨⟨#[]⟩, 1, 17, 5, 0, -1, 0, 0, 100⟩]
def exD : List S35 := [⟨⟨#[]⟩, 1, 1, 5, 0, -1, 0, 0, 100⟩]
theorem sort_one : sortZ [1] = [1] := List.mergeSort_singleton 1
theorem sort_four : sortZ [1, 2, 3, 4] = [1, 2, 3, 4] := List.mergeSort_of_pairwise (by simp)
theorem whole_one : oneUp (Lib.compact (sortZ [1])) = true := by rw [sort_one]; decide
theorem whole_four : oneUp (Lib.compact (sortZ [1, 2, 3, 4])) = true := by rw [sort_four]; decide
theorem whole_two : oneUp (Lib.compact (sortZ [2])) = false := by rw [show sortZ [2] = [2] from List.mergeSort_singleton 2]; decide
theorem piecesA : piecesC 10 [] 0 0 [97, 37, 53, 46, 50, 108, 102, 37, 37] = .ok exA := by kernel_rfl
theorem piecesB : piecesC 9 [] 0 0 [37, 42, 46, 42, 76, 103, 37, 110] = .ok exB := by kernel_rfl
theorem piecesCC : piecesC 7 [] 0 0 [37, 48, 48, 45, 53, 100] = .ok exC := by kernel_rfl
theorem piecesD : piecesC 5 [] 0 0 [37, 50, 36, 115] = .ok [⟨⟨#[]⟩, 2, 0, -1, 0, -1, 0, 0, 115⟩] := by kernel_rfl
theorem piecesE : piecesC 7 [] 0 0 [37, 49, 36, 100, 37, 100] = .error (6, [37, 100]) := by kernel_rfl
theorem piecesF : piecesC 8 [] 0 0 [37, 49, 48, 48, 48, 49, 100] = .error (2, [37, 49, 48, 48, 48, 49, 100]) := by kernel_rfl
theorem parseA : parseC [97, 37, 53, 46, 50, 108, 102, 37, 37] = (exA, 0, 0) := by
  unfold parseC
  rw [if_neg (by decide), show ([97, 37, 53, 46, 50, 108, 102, 37, 37] : List UInt8).length + 1 = 10 from rfl, piecesA]
  exact if_pos whole_one
theorem parseB : parseC [37, 42, 46, 42, 76, 103, 37, 110] = (exB, 0, 0) := by
  unfold parseC
  rw [if_neg (by decide), show ([37, 42, 46, 42, 76, 103, 37, 110] : List UInt8).length + 1 = 9 from rfl, piecesB]
  exact if_pos whole_four
theorem parseCC : parseC [37, 48, 48, 45, 53, 100] = (exC, 0, 0) := by
  unfold parseC
  rw [if_neg (by decide), show ([37, 48, 48, 45, 53, 100] : List UInt8).length + 1 = 7 from rfl, piecesCC]
  exact if_pos whole_one
theorem parseD : parseC [37, 50, 36, 115] = ([], 6, 4) := by
  unfold parseC
  rw [if_neg (by decide), show ([37, 50, 36, 115] : List UInt8).length + 1 = 5 from rfl, piecesD]
  refine if_neg ?_
  show ¬ oneUp (Lib.compact (sortZ [2])) = true
  rw [whole_two]
  decide
theorem parseE : parseC [37, 49, 36, 100, 37, 100] = ([], 6, 4) := by
  unfold parseC
  rw [if_neg (by decide), show ([37, 49, 36, 100, 37, 100] : List UInt8).length + 1 = 7 from rfl, piecesE]
  rfl
theorem parseF : parseC [37, 49, 48, 48, 48, 49, 100] = ([], 2, 0) := by
  unfold parseC
  rw [if_neg (by decide), show ([37, 49, 48, 48, 48, 49, 100] : List UInt8).length + 1 = 8 from rfl, piecesF]
  rfl
theorem checkCC : checkC exC = (0, 0) := by
  unfold checkC
  rw [if_neg (by decide)]
  show goC exC 1 0 = (0, 0)
  unfold goC
  rw [if_pos (by kernel_rfl)]
  unfold goC
  exact if_pos whole_one
theorem checkD : checkC exD = (0, 0) := by
  unfold checkC
  rw [if_neg (by decide)]
  show goC exD 1 0 = (0, 0)
  unfold goC
  rw [if_pos (by kernel_rfl)]
  unfold goC
  exact if_pos whole_one
theorem canonCC : spec_Canonical.f 20 exC = some (exD, 0) := by
  unfold spec_Canonical.f
  rw [check_f exC (by decide) (by decide) (by decide), Option.bind_some, checkCC, if_pos rfl, if_pos (by decide)]
  kernel_rfl
def printC : ByteArray := ⟨#[37, 45, 48, 53, 100]⟩
def printD : ByteArray := ⟨#[37, 45, 53, 100]⟩
theorem printCC : spec_Print.f 20 exC = some (printC, 0) := by
  unfold spec_Print.f
  rw [check_f exC (by decide) (by decide) (by decide), Option.bind_some, checkCC, if_pos rfl, all_f exC (by decide) (by decide), Option.bind_some]
  kernel_rfl
theorem printDD : spec_Print.f 20 exD = some (printD, 0) := by
  unfold spec_Print.f
  rw [check_f exD (by decide) (by decide) (by decide), Option.bind_some, checkD, if_pos rfl, all_f exD (by decide) (by decide), Option.bind_some]
  kernel_rfl
theorem escapeX : spec_Escape.f ⟨#[49, 48, 48, 37]⟩ = some (⟨#[49, 48, 48, 37, 37]⟩, 0) := by
  kernel_rfl
end Go.Proofs.YtnhbgahfmcicnaaGreatDoor.PA
end
