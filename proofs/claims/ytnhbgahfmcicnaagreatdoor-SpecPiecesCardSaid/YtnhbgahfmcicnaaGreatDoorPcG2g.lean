/- A part of the proof of the claim's statement. -/
import Derived.Test.YtnhbgahfmcicnaaGreatDoorPcG1a
import Derived.RangeFuncRecord
section
namespace Go.Proofs.YtnhbgahfmcicnaaGreatDoor.PA
set_option linter.unusedVariables false
set_option linter.unusedSimpArgs false
open Go.RowKit Go.Shelf Go.Proofs.YtnhbgahfmcicnaaGreatDoorW.PrintWords Go.Proofs.YtnhbgahfmcicnaaGreatDoorW.PrintLast Go.Proofs.YtnhbgahfmcicnaaGreatDoorW.PrintMore
def ofWhole : List Int := [0, 1, 2, 3, 4, 5, 6, 7]
def ofReal : List Int := [0, 3, 8, 9, 10, 11]
def ofText : List Int := [0, 3]
def ofVal (b : Int) : ByteArray × List Int × Bool × Bool × Bool :=
  if b = 100 ∨ b = 105 then (⟨#[45, 43, 32, 48, 39]⟩, ofWhole, true, true, true)
  else if b = 117 then (⟨#[45, 48, 39]⟩, ofWhole, true, true, true)
  else if b = 111 ∨ b = 120 ∨ b = 88 ∨ b = 98 ∨ b = 66 then (⟨#[45, 35, 48]⟩, ofWhole, true, true, true)
  else if b = 101 ∨ b = 69 ∨ b = 97 ∨ b = 65 then (⟨#[45, 43, 32, 35, 48]⟩, ofReal, true, true, true)
  else if b = 102 ∨ b = 70 ∨ b = 103 ∨ b = 71 then (⟨#[45, 43, 32, 35, 48, 39]⟩, ofReal, true, true, true)
  else if b = 99 then (⟨#[45]⟩, ofText, true, false, true)
  else if b = 115 then (⟨#[45]⟩, ofText, true, true, true)
  else if b = 112 then (⟨#[45]⟩, [0], true, false, true)
  else if b = 110 then (⟨#[]⟩, ofWhole, false, false, true)
  else (⟨#[]⟩, [], false, false, false)
end Go.Proofs.YtnhbgahfmcicnaaGreatDoor.PA
end
