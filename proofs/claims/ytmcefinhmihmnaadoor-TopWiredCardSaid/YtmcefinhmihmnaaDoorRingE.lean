/- Rings: one more entry, a revocation, the live ones: what the specification's and the program's functions return. No condition but the reach. -/
import Derived.Test.YtmcefinhmihmnaaDoorBf
set_option linter.unusedSimpArgs false
set_option linter.unusedVariables false
namespace Go.Proofs.YtmcefinhmihmnaaDoor
open Go.RowKit

theorem mint_parts (l : List Mnt) (role life now : Nat) (hE : mintE l role life now = 0) : chkR l = 0 ∧ ¬ (role < 1 ∨ 3 < role ∨ life = 0 ∨ 4611686018427387904 < life ∨ 4611686018427387904 < now) ∧ l.length ≠ 32 := by
  unfold mintE at hE
  split at hE
  · omega
  · split at hE
    · cases hE
    · split at hE
      · cases hE
      · refine ⟨by omega, by assumption, by assumption⟩

theorem rev_no (l : List Mnt) (n : Nat) (h : revE l n ≠ 0) : revR l n = [] := if_neg h

theorem set_flat (l : List Mnt) (k : Nat) (x : Mnt) (hx : l[k]? = some x) : (l.flatMap mintL).set (k * 3 + 2) (.bool true) = (l.set k ⟨x.role, x.expiry, true⟩).flatMap mintL :=
  flat_set mintL 3 mintL_length l k 2 x ⟨x.role, x.expiry, true⟩ (.bool true) hx (by decide) rfl

theorem rev_chk (l : List Mnt) (n : Nat) (h : chkR l = 0) : revE l n = (match entR l n with | none => 191 | some x => if x.revoked then 192 else 0) := by
  unfold revE
  rw [if_neg (by omega)]
  cases entR l n <;> rfl

end Go.Proofs.YtmcefinhmihmnaaDoor
