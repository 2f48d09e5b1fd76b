/- The link of a record as the specification has it; WireLinks' walk. No condition but the table of constants and the reach. -/
import Derived.Test.YtfhkmmagpnojmaaDoorZBd
import Derived.Test.YtfhkmmagpnojmaaDoorZLnk
set_option linter.unusedSimpArgs false
set_option linter.unusedVariables false
namespace Go.Proofs.YtfhkmmagpnojmaaDoor
open Go.RowKit

theorem eql32 (xs ys : List UInt8) (hx : xs.length = 32) (hy : ys.length = 32) (w' : World) : (binOp .eql 22 (.agg (arr8 xs)) (.agg (arr8 ys))).run Tryd.prog w' = .ok (.bool (decide (xs = ys))) w' := by
  have := eql_bytes (P := Tryd.prog) 22 5 32 Tryd.underlying22 Tryd.underlying5 kR xs ys hx hy w'
  exact this
theorem neq32 (xs ys : List UInt8) (hx : xs.length = 32) (hy : ys.length = 32) (w' : World) : (binOp .neq 22 (.agg (arr8 xs)) (.agg (arr8 ys))).run Tryd.prog w' = .ok (.bool (decide (xs ≠ ys))) w' := by
  have := neq_bytes (P := Tryd.prog) 22 5 32 Tryd.underlying22 Tryd.underlying5 kR xs ys hx hy w'
  simpa [arr8] using this
end Go.Proofs.YtfhkmmagpnojmaaDoor
