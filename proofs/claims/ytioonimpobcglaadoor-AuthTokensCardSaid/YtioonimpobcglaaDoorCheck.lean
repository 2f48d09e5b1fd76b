/- Whether a hash is valid: what digest.Check, dunnageref01.ValidHash and dunnageref01.Check return. No condition. -/
import Derived.Test.YtioonimpobcglaaDoorStart
set_option linter.unusedSimpArgs false
set_option linter.unusedVariables false
namespace Go.Proofs.YtioonimpobcglaaDoor
open Go.RowKit

/-- Is a hash of n bytes with a tail of m bytes valid? -/
def chkB (m n : Nat) : Bool := decide (n ≤ 8192) && decide (m = n % 64)
/-- The error of such a hash. -/
def chkE (m n : Nat) : Int := if chkB m n then 0 else 8

set_option maxRecDepth 20000 in
set_option maxHeartbeats 400000 in
theorem check_any (s : St) (a : Option Addr) (m c n : Nat) (w : World) (hm : m ≤ 9223372036854775807) :
    Calls Tryd.prog 80 #[.agg #[U32 s.a, U32 s.b, U32 s.c, U32 s.d, U32 s.e, U32 s.f, U32 s.g, U32 s.h, .slice a m c, .int .u64 (n : Int)]] w fun e w' => e = .returned (.int .i64 (chkE m n)) ∧ Below w.heap.size w w' := by
  by_cases h1 : 8192 < n
  · have hE : chkE m n = 8 := by unfold chkE chkB; rw [decide_eq_false (by omega)]; rfl
    rw [hE]; clear hE
    have h1' : (8192 : Int) < (n : Int) := by omega
    go_enter Tryd.func80, Tryd.ntmps80
    go_wp2
    go_ret
    exact ⟨rfl, below1 _ _⟩
  · have h1' : ¬ (8192 : Int) < (n : Int) := by omega
    by_cases h2 : m = n % 64
    · have hE : chkE m n = 0 := by unfold chkE chkB; rw [decide_eq_true (by omega), decide_eq_true h2]; rfl
      have ht : ((m : Int) != (n : Int) % 64) = false := by rw [bne_eq_false_iff_eq]; omega
      rw [hE]; clear hE h2
      go_enter Tryd.func80, Tryd.ntmps80
      go_wp2
      go_ret
      exact ⟨rfl, below1 _ _⟩
    · have hE : chkE m n = 8 := by unfold chkE chkB; rw [decide_eq_false h2, Bool.and_false]; rfl
      have ht : ((m : Int) != (n : Int) % 64) = true := by rw [bne_iff_ne]; omega
      rw [hE]; clear hE h2
      go_enter Tryd.func80, Tryd.ntmps80
      go_wp2
      go_ret
      exact ⟨rfl, below1 _ _⟩

end Go.Proofs.YtioonimpobcglaaDoor
