/- LNPV: laid into one text. -/
import Derived.Test.YtnenhckongccgaaGreatDoorQGZF
import Derived.Test.YtnenhckongccgaaGreatDoorQGZH

namespace Go.Proofs.YtnenhckongccgaaGreatDoor
end Go.Proofs.YtnenhckongccgaaGreatDoor
