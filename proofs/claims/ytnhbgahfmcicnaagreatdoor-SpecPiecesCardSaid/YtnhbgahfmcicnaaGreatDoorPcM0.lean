/- A part of the proof of the claim's statement. -/
import Derived.Test.YtnhbgahfmcicnaaGreatDoorPcPAx0
section
namespace Go.Proofs.YtnhbgahfmcicnaaGreatDoor.PA
def In64 (n : Int) : Prop := -9223372036854775808 ≤ n ∧ n ≤ 9223372036854775807
structure PieceOk (x : S35) : Prop where
  i1 : In64 x.f1
  i2 : In64 x.f2
  i3 : In64 x.f3
  i4 : In64 x.f4
  i5 : In64 x.f5
  i6 : In64 x.f6
  i7 : In64 x.f7
  i8 : 0 ≤ x.f8 ∧ x.f8 ≤ 255
end Go.Proofs.YtnhbgahfmcicnaaGreatDoor.PA
end
