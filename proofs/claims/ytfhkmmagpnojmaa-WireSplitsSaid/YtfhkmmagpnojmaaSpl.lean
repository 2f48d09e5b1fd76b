/- How a stream is cut into pieces, in plain words. No program, no condition. -/
import Derived.Test.YtfhkmmagpnojmaaBa
set_option linter.unusedSimpArgs false
set_option linter.unusedVariables false
namespace Go.Proofs.Ytfhkmmagpnojmaa
open Go.RowKit

/-- The length that the first two bytes say, or 2 where it is none. -/
def frN (b : List UInt8) : Nat := if 256 * (b.getD 0 0).toNat + (b.getD 1 0).toNat < 2 ∨ 64 < 256 * (b.getD 0 0).toNat + (b.getD 1 0).toNat then 2 else 256 * (b.getD 0 0).toNat + (b.getD 1 0).toNat
theorem frN_pos (b : List UInt8) : 2 ≤ frN b ∧ frN b ≤ 64 := by unfold frN; split <;> omega

def splitF : Nat → List UInt8 → List (List UInt8) × List UInt8
  | 0, b => ([], b)
  | k + 1, b => if b.length < 2 ∨ b.length < frN b then ([], b) else (b.take (frN b) :: (splitF k (b.drop (frN b))).1, (splitF k (b.drop (frN b))).2)

theorem splitF_fuel : ∀ (k m : Nat) (b : List UInt8), b.length ≤ k → b.length ≤ m → splitF k b = splitF m b
  | 0, 0, _, _, _ => rfl
  | 0, m + 1, b, h, _ => by
    have : b.length < 2 ∨ b.length < frN b := by omega
    simp only [splitF, if_pos this]
  | k + 1, 0, b, _, h => by
    have : b.length < 2 ∨ b.length < frN b := by omega
    simp only [splitF, if_pos this]
  | k + 1, m + 1, b, h1, h2 => by
    unfold splitF
    split
    · rfl
    · have := frN_pos b
      have hl : (b.drop (frN b)).length = b.length - frN b := by simp
      rw [splitF_fuel k m (b.drop (frN b)) (by omega) (by omega)]

/-- The pieces of a stream and its rest. -/
def splitB (b : List UInt8) : List (List UInt8) × List UInt8 := splitF b.length b

theorem split_stop (b : List UInt8) (h : b.length < 2 ∨ b.length < frN b) : splitB b = ([], b) := by
  unfold splitB
  cases hb : b.length with
  | zero => rfl
  | succ k => rw [hb] at h; unfold splitF; rw [if_pos (by omega)]

theorem split_step (b : List UInt8) (h : ¬ (b.length < 2 ∨ b.length < frN b)) : splitB b = (b.take (frN b) :: (splitB (b.drop (frN b))).1, (splitB (b.drop (frN b))).2) := by
  have hp := frN_pos b
  unfold splitB
  cases hb : b.length with
  | zero => omega
  | succ k =>
    have hl : (b.drop (frN b)).length = b.length - frN b := by simp
    rw [splitF_fuel (b.drop (frN b)).length k _ (Nat.le_refl _) (by omega)]
    show (if b.length < 2 ∨ b.length < frN b then _ else _) = _
    rw [if_neg h]

/-- Pieces so far and what is left give the whole. -/
theorem split_more (F : List (List UInt8)) (b : List UInt8) (h : ¬ (b.length < 2 ∨ b.length < frN b)) : (F ++ [b.take (frN b)] ++ (splitB (b.drop (frN b))).1, (splitB (b.drop (frN b))).2) = (F ++ (splitB b).1, (splitB b).2) := by
  rw [split_step b h]
  simp
end Go.Proofs.Ytfhkmmagpnojmaa
