/- The encoding of a request as the specification has it. No condition but the reach. -/
import Derived.Test.YtfhkmmagpnojmaaDoorDecQ
set_option linter.unusedSimpArgs false
set_option linter.unusedVariables false
namespace Go.Proofs.YtfhkmmagpnojmaaDoor
open Go.RowKit

end Go.Proofs.YtfhkmmagpnojmaaDoor
