/- The reference's Append to a log. No condition. -/
import Derived.Test.YtfhkmmagpnojmaaDoorZBd
import Derived.Test.YtfhkmmagpnojmaaDoorZLgG
import Derived.Test.YtfhkmmagpnojmaaDoorZLgS
set_option linter.unusedSimpArgs false
set_option linter.unusedVariables false
namespace Go.Proofs.YtfhkmmagpnojmaaDoor
open Go.RowKit

section
variable {w0 w : World} {F : List Res} {v : Value} {e size n : Nat} {xs : List Value}
end
end Go.Proofs.YtfhkmmagpnojmaaDoor
