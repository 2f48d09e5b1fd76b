/- The reference's ValidLog and CheckLog. No condition. -/
import Derived.Test.YtfhkmmagpnojmaaDoorZBd
import Derived.Test.YtfhkmmagpnojmaaDoorZLgR
set_option linter.unusedSimpArgs false
set_option linter.unusedVariables false
namespace Go.Proofs.YtfhkmmagpnojmaaDoor
open Go.RowKit

end Go.Proofs.YtfhkmmagpnojmaaDoor
