/- Bodies of requests: written, read through the interface; a request with a body; whether a request is valid. No condition but the reach. -/
import Derived.Test.YtfhkmmagpnojmaaZBd
import Derived.Test.YtfhkmmagpnojmaaZBdy
set_option linter.unusedSimpArgs false
set_option linter.unusedVariables false
namespace Go.Proofs.Ytfhkmmagpnojmaa
open Go.RowKit

end Go.Proofs.Ytfhkmmagpnojmaa
