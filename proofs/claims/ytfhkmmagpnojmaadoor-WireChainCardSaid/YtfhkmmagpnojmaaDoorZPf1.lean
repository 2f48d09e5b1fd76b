/- WireProof: plain laws of Verify's answer. No condition but the reach. -/
import Derived.Test.YtfhkmmagpnojmaaDoorZVfy
set_option linter.unusedSimpArgs false
set_option linter.unusedVariables false
namespace Go.Proofs.YtfhkmmagpnojmaaDoor
open Go.RowKit

/-- What Verify answers, told piece by piece. -/
structure VfAll (L : List UInt8) (l : List Rcd) (bs : List (List UInt8)) (n : Nat) (E : Int) : Prop where
  bad : ∀ x ∈ l, rcdV x = false → E = 8
  long : (∀ x ∈ l, rcdV x = true) → ∀ b ∈ bs, 64 < b.length → E = 4
  good : (∀ x ∈ l, rcdV x = true) → (∀ b ∈ bs, b.length ≤ 64) → E = 0 ∧ n = vfN L l bs
theorem vfAll (L : List UInt8) (l : List Rcd) (bs : List (List UInt8)) (h32 : l.length ≤ 32) (hl : bs.length = l.length) : VfAll L l bs (vfR L l bs).1 (vfR L l bs).2 := by
  have e0 : vfR L l bs = if chV l = false then (0, 8) else if (bs.any fun b => decide (64 < b.length)) = true then (0, 4) else (vfN L l bs, 0) := by
    unfold vfR
    rw [if_neg (by omega), if_neg (by omega)]
  have hc : (∀ x ∈ l, rcdV x = true) → chV l = true := fun h => (chV_iff l).2 ⟨h32, h⟩
  refine ⟨fun x hx hv => ?_, fun h b hb h64 => ?_, fun h h64 => ?_⟩
  · have : chV l = false := by
      cases h : chV l with
      | false => rfl
      | true => have := ((chV_iff l).1 h).2 x hx; rw [hv] at this; cases this
    rw [e0, if_pos this]
  · have : (bs.any fun b => decide (64 < b.length)) = true := List.any_eq_true.2 ⟨b, hb, decide_eq_true h64⟩
    rw [e0, if_neg (by rw [hc h]; decide), if_pos this]
  · have : (bs.any fun b => decide (64 < b.length)) = false := by
      rw [List.any_eq_false]
      intro b hb
      have := h64 b hb
      simp; omega
    rw [e0, if_neg (by rw [hc h]; decide), if_neg (by rw [this]; decide)]
    exact ⟨rfl, rfl⟩
end Go.Proofs.YtfhkmmagpnojmaaDoor
