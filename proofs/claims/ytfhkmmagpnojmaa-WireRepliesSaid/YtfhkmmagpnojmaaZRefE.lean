/- The encoding of a request as the specification has it. No condition but the reach. -/
import Derived.Test.YtfhkmmagpnojmaaZBd
import Derived.Test.YtfhkmmagpnojmaaZDecQ
set_option linter.unusedSimpArgs false
set_option linter.unusedVariables false
namespace Go.Proofs.Ytfhkmmagpnojmaa
open Go.RowKit

set_option maxRecDepth 100000 in
set_option maxHeartbeats 2000000 in
theorem refFramed_s (v : Value) (xs : List UInt8) (w0 : World) (hv : Bs w0 v xs) (hl : xs.length ≤ 140737488351232) :
    Calls Try.prog 54 #[v] w0 (MadeB w0 (frm xs)) := by
  have S := Has.start w0
  obtain ⟨a0, c0, rfl, k1, k2⟩ := Sl.shape hv
  unfold maxLen at k2
  obtain ⟨n, hn⟩ : ∃ n, n = xs.length := ⟨_, rfl⟩
  have p1 := fun w => number_s (n + 2) 2 ((n : Int) + 2) 2 rfl rfl w (by omega) (by decide)
  have h1 : (numB (n + 2) 2).length + xs.length ≤ 140737488355328 := by rw [numB_length]; omega
  have hf : frm xs = numB (n + 2) 2 ++ xs := by unfold frm; rw [← hn]
  obtain ⟨X, hX⟩ : ∃ X, X = numB (n + 2) 2 := ⟨_, rfl⟩
  rw [← hX] at p1 h1 hf
  rw [hf]
  rw [← hn] at k1 hl hv ⊢
  have hn64 : (n : Int) + 2 ≤ 9223372036854775807 := by omega
  have HV := Lib.hid hv; have H1 := Lib.hid h1; have P1 := Lib.hid p1; clear hv h1 p1
  clear hf hX hn
  go_enter Try.func54, Try.ntmps54
  go_wp2_with (first | (at_builtin; refine step_append8 S (.tmp 7) (.tmp 8) v7 X rfl pk _ xs rfl (S.oldB HV.out) H1.out gw ?_; clear S; intro v9 w S) | (go_at_call 53; (with_reducible refine (P1.out _).mono ?_); rintro e w1 ⟨v7, rfl, T⟩; replace S := S.call T; clear T; (try simp only [z4, z5] at S)) | fail)
  go_ret
  exact ⟨_, rfl, S⟩
end Go.Proofs.Ytfhkmmagpnojmaa
