/- How streams are cut, in plain words: portions, frames of encoded requests; decoding of encodings. No program, no condition. -/
import Derived.Test.YtfhkmmagpnojmaaDoorZBg
set_option linter.unusedSimpArgs false
set_option linter.unusedVariables false
namespace Go.Proofs.YtfhkmmagpnojmaaDoor
open Go.RowKit

theorem dcOk_encR (r : Rq) (h : rqV r = true) : dcOk (encR r) = true := by
  obtain ⟨h1, _, h3⟩ := encR_parts r
  unfold dcOk
  rw [refR_encR r h, h, Bool.and_true, decide_eq_true_eq, h1]
  exact ⟨encR_length r, h3⟩
theorem dcE_encR (r : Rq) (h : rqV r = true) : dcE (encR r) = 0 := by
  have hl := encR_length r
  unfold dcE
  rw [if_neg (by omega), if_pos (dcOk_encR r h)]
theorem dcR_encR (r : Rq) (h : rqV r = true) : dcR (encR r) = r := by
  unfold dcR
  rw [if_pos (dcE_encR r h), refR_encR r h]
end Go.Proofs.YtfhkmmagpnojmaaDoor
