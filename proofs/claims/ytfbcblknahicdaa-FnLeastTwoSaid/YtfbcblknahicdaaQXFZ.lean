/- KBM: laid into one text. -/
import Derived.Test.YtfbcblknahicdaaQXFX
import Derived.Test.YtfbcblknahicdaaQXFY

namespace Go.Proofs.Ytfbcblknahicdaa
set_option linter.unusedVariables false
set_option linter.unusedSimpArgs false
set_option maxRecDepth 20000
open Go.RowKit
attribute [local irreducible] runA runX AW
end Go.Proofs.Ytfbcblknahicdaa
