/- Whether a request is valid: the program's CheckRequest and the specification's. No condition but the reach. -/
import Derived.Test.YtfhkmmagpnojmaaZBd
import Derived.Test.YtfhkmmagpnojmaaZBdyW
import Derived.Test.YtfhkmmagpnojmaaZRelyC
set_option linter.unusedSimpArgs false
set_option linter.unusedVariables false
namespace Go.Proofs.Ytfhkmmagpnojmaa
open Go.RowKit

end Go.Proofs.Ytfhkmmagpnojmaa
