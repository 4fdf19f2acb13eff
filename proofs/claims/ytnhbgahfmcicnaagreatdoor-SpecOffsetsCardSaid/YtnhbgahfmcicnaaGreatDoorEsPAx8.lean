/- A part of the proof of SpecEscapesCardSaid: the law answers true at every text, with no condition. -/
import Derived.Test.YtnhbgahfmcicnaaGreatDoorEsPAx0
import Derived.Test.YtnhbgahfmcicnaaGreatDoorEsPAx2
import Derived.Test.YtnhbgahfmcicnaaGreatDoorEsPAx7
import Derived.Test.YtnhbgahfmcicnaaGreatDoorEsG1a
import Derived.RangeFuncRecord
section
namespace Go.Proofs.YtnhbgahfmcicnaaGreatDoor.PA
open Go.RowKit Go.Proofs.YtnhbgahfmcicnaaGreatDoorW.PrintWords Go.Proofs.YtnhbgahfmcicnaaGreatDoorW.PrintLast Go.Proofs.YtnhbgahfmcicnaaGreatDoorW.PrintMore
attribute [local go_sem] max2_int min2_int max_two min_two max_three min_three max_four min_four   -- for this text's walks alone
set_option linter.unusedVariables false
set_option linter.unusedSimpArgs false
end Go.Proofs.YtnhbgahfmcicnaaGreatDoor.PA
end
