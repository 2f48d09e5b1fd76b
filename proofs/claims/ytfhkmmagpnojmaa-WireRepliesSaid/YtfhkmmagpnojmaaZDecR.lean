/- The request of some bytes: what the program's DecodeRequest returns; its closure. No condition but the reach. -/
import Derived.Test.YtfhkmmagpnojmaaZBd
import Derived.Test.YtfhkmmagpnojmaaZEncR
import Derived.Test.YtfhkmmagpnojmaaZFun
set_option linter.unusedSimpArgs false
set_option linter.unusedVariables false
namespace Go.Proofs.Ytfhkmmagpnojmaa
open Go.RowKit

theorem getD_at (b : List UInt8) (i : Nat) : UInt8.ofNat (atB b i 1) = b.getD i 0 := by
  unfold atB
  by_cases h : i + 1 ≤ b.length
  · rw [if_pos h]
    have hi : i < b.length := by omega
    have e : (b.drop i).take 1 = [b[i]] := by rw [← List.getElem_cons_drop hi]; rfl
    rw [e]
    simp [val, List.getD, hi]
  · rw [if_neg h]
    have hi : ¬ i < b.length := by omega
    simp [List.getD, hi]
theorem rbytes_i (si : Int) (s : Nat) (hsi : si = (s : Int)) (g : Nat) (bv : Value) (b : List UInt8) (p : Nat) (w0 w1 : World) (F : List Res) (S : Has w0 w1 (rdr g bv p :: F)) (hb : Bs w0 bv b) (h8 : s ≤ 64) (hp : p ≤ b.length) (hl : b.length ≤ 140737488355328) :
    Calls Try.prog 37 #[.pointer (some ⟨g, 0, none⟩), .int .i64 si] w1 fun e w' =>
      (p + s ≤ b.length ∧ ∃ v, e = .returned v ∧ Has w0 w' (rdr g bv (p + s) :: row8 v ((b.drop p).take s) :: F)) ∨ (b.length < p + s ∧ e = .panicked [erl] ∧ Has w0 w' (rdr g bv p :: F)) := by
  subst hsi
  exact rbytes_s g bv b p s w0 w1 F S hb h8 hp hl
theorem Has.front {w0 w : World} {l G : List Res} (S : Has w0 w (l ++ G)) : Has w0 w l :=
  ⟨S.below, fun r hr => S.holds r (List.mem_append_left _ hr), fun r hr => S.base r (List.mem_append_left _ hr), (List.pairwise_append.1 S.apart).1⟩
end Go.Proofs.Ytfhkmmagpnojmaa
