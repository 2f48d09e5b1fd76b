/- Requests as the specification has them: which are valid, their encoding, the request of some bytes. No condition but the reach. -/
import Derived.Test.YtfhkmmagpnojmaaDoorBd
import Derived.Test.YtfhkmmagpnojmaaDoorDecQ
set_option linter.unusedSimpArgs false
set_option linter.unusedVariables false
namespace Go.Proofs.YtfhkmmagpnojmaaDoor
open Go.RowKit

theorem beq8z (p : UInt8) : ((p.toNat : Int) == 0) = decide (p = 0) := beqU8 p 0
theorem beq32z (p : UInt32) : ((p.toNat : Int) == 0) = decide (p = 0) := beqU32 p 0
theorem leInt (n m : Nat) : decide ((n : Int) ≤ (m : Int)) = decide (n ≤ m) := by rw [Bool.eq_iff_iff, decide_eq_true_eq, decide_eq_true_eq]; omega

set_option maxRecDepth 100000 in
set_option maxHeartbeats 8000000 in
theorem refValid_s (r : Rq) (w0 : World) : Calls Tryd.prog 33 #[.agg (rqL r).toArray] w0 fun e w' => e = .returned (.bool (rqV r)) ∧ Has w0 w' [] := by
  have S := Has.start w0
  obtain ⟨k, t, p, d, n⟩ := r
  have hp := beq8z p
  have hd := beq8z d
  have hn := beq32z n
  have hl : decide ((n.toNat : Int) ≤ 65535) = decide (n.toNat ≤ 65535) := leInt _ 65535
  rcases kcase k with rfl | rfl | rfl | rfl | rfl | rfl | ⟨h1, h2, h3, h4, h5, h6⟩
  case inr.inr.inr.inr.inr.inr =>
    have hV : rqV ⟨k, t, p, d, n⟩ = false := by
      cases hv : rqV ⟨k, t, p, d, n⟩ with
      | false => rfl
      | true =>
        have := rqV_kind _ hv
        simp only at this
        rcases this with rfl | rfl | rfl | rfl | rfl | rfl <;> simp at *
    rw [hV]
    have i1 : ((k.toNat : Int) == 1) = false := by rw [beq_eq_false_iff_ne]; omega
    have i2 : ((k.toNat : Int) == 2) = false := by rw [beq_eq_false_iff_ne]; omega
    have i3 : ((k.toNat : Int) == 3) = false := by rw [beq_eq_false_iff_ne]; omega
    have i4 : ((k.toNat : Int) == 4) = false := by rw [beq_eq_false_iff_ne]; omega
    have i5 : ((k.toNat : Int) == 5) = false := by rw [beq_eq_false_iff_ne]; omega
    have i6 : ((k.toNat : Int) == 6) = false := by rw [beq_eq_false_iff_ne]; omega
    clear hp hd hn hl h1 h2 h3 h4 h5 h6 hV
    go_enter Tryd.func33, Tryd.ntmps33
    go_wp2_with (first | ((with_reducible refine iD 1 (.box 69 (.tmp 0)) ?_); refine step_boxA (dst := some 1) S 69 (.tmp 0) _ rfl gw ?_; clear S; intro g1 w S) | ((with_reducible refine iO _ (.load 5 _) ?_); refine step_load1 5 _ _ _ rfl (cL) _ Tryd.underlying5 rfl gw ?_) | ((with_reducible refine iO _ (.load 38 _) ?_); refine step_load1 38 _ _ _ rfl (cL) _ Tryd.underlying38 rfl gw ?_) | fail)
    go_ret
    exact ⟨rfl, S.nil⟩
  · have hV : rqV ⟨1, t, p, d, n⟩ = decide (n = 0) := by simp [rqV]
    rw [hV]
    generalize decide (n = 0) = nb at *
    clear hp hd hl hV
    have HN := Lib.hid hn; clear hn
    go_enter Tryd.func33, Tryd.ntmps33
    go_wp2_with (first | ((with_reducible refine iD 1 (.box 69 (.tmp 0)) ?_); refine step_boxA (dst := some 1) S 69 (.tmp 0) _ rfl gw ?_; clear S; intro g1 w S) | ((with_reducible refine iO _ (.load 5 _) ?_); refine step_load1 5 _ _ _ rfl (cL) _ Tryd.underlying5 rfl gw ?_) | ((with_reducible refine iO _ (.load 38 _) ?_); refine step_load1 38 _ _ _ rfl (cL) _ Tryd.underlying38 rfl gw ?_) | fail)
    go_ret
    exact ⟨by rw [← HN.out]; rfl, S.nil⟩
  · have hV : rqV ⟨2, t, p, d, n⟩ = (decide (p = 0) && (decide (d = 0) && decide (n.toNat ≤ 65535))) := by simp [rqV, Bool.decide_and]
    rw [hV]
    generalize decide (p = 0) = pb at *
    generalize decide (d = 0) = db at *
    generalize decide (n.toNat ≤ 65535) = nb at *
    clear hV hn
    have HL := Lib.hid hl; clear hl
    cases pb <;> cases db
    all_goals
      go_enter Tryd.func33, Tryd.ntmps33
      go_wp2_with (first | ((with_reducible refine iD 1 (.box 69 (.tmp 0)) ?_); refine step_boxA (dst := some 1) S 69 (.tmp 0) _ rfl gw ?_; clear S; intro g1 w S) | ((with_reducible refine iO _ (.load 5 _) ?_); refine step_load1 5 _ _ _ rfl (cL) _ Tryd.underlying5 rfl gw ?_) | ((with_reducible refine iO _ (.load 38 _) ?_); refine step_load1 38 _ _ _ rfl (cL) _ Tryd.underlying38 rfl gw ?_) | fail)
      go_ret
      exact ⟨by first | rfl | (rw [← HL.out]; rfl), S.nil⟩
  · have hV : rqV ⟨3, t, p, d, n⟩ = (decide (p = 0) && (decide (d = 0) && decide (n.toNat ≤ 65535))) := by simp [rqV, Bool.decide_and]
    rw [hV]
    generalize decide (p = 0) = pb at *
    generalize decide (d = 0) = db at *
    generalize decide (n.toNat ≤ 65535) = nb at *
    clear hV hn
    have HL := Lib.hid hl; clear hl
    cases pb <;> cases db
    all_goals
      go_enter Tryd.func33, Tryd.ntmps33
      go_wp2_with (first | ((with_reducible refine iD 1 (.box 69 (.tmp 0)) ?_); refine step_boxA (dst := some 1) S 69 (.tmp 0) _ rfl gw ?_; clear S; intro g1 w S) | ((with_reducible refine iO _ (.load 5 _) ?_); refine step_load1 5 _ _ _ rfl (cL) _ Tryd.underlying5 rfl gw ?_) | ((with_reducible refine iO _ (.load 38 _) ?_); refine step_load1 38 _ _ _ rfl (cL) _ Tryd.underlying38 rfl gw ?_) | fail)
      go_ret
      exact ⟨by first | rfl | (rw [← HL.out]; rfl), S.nil⟩
  · have hV : rqV ⟨4, t, p, d, n⟩ = (decide (p = 0) && (decide (d = 0) && decide (n = 0))) := by simp [rqV, Bool.decide_and]
    rw [hV]
    generalize decide (p = 0) = pb at *
    generalize decide (d = 0) = db at *
    generalize decide (n = 0) = nb at *
    clear hV hl
    have HN := Lib.hid hn; clear hn
    cases pb <;> cases db
    all_goals
      go_enter Tryd.func33, Tryd.ntmps33
      go_wp2_with (first | ((with_reducible refine iD 1 (.box 69 (.tmp 0)) ?_); refine step_boxA (dst := some 1) S 69 (.tmp 0) _ rfl gw ?_; clear S; intro g1 w S) | ((with_reducible refine iO _ (.load 5 _) ?_); refine step_load1 5 _ _ _ rfl (cL) _ Tryd.underlying5 rfl gw ?_) | ((with_reducible refine iO _ (.load 38 _) ?_); refine step_load1 38 _ _ _ rfl (cL) _ Tryd.underlying38 rfl gw ?_) | fail)
      go_ret
      exact ⟨by first | rfl | (rw [← HN.out]; rfl), S.nil⟩
  · have hV : rqV ⟨5, t, p, d, n⟩ = (decide (p = 0) && decide (d = 0)) := by simp [rqV, Bool.decide_and]
    rw [hV]
    generalize decide (p = 0) = pb at *
    generalize decide (d = 0) = db at *
    clear hV hn hl
    cases pb <;> cases db
    all_goals
      go_enter Tryd.func33, Tryd.ntmps33
      go_wp2_with (first | ((with_reducible refine iD 1 (.box 69 (.tmp 0)) ?_); refine step_boxA (dst := some 1) S 69 (.tmp 0) _ rfl gw ?_; clear S; intro g1 w S) | ((with_reducible refine iO _ (.load 5 _) ?_); refine step_load1 5 _ _ _ rfl (cL) _ Tryd.underlying5 rfl gw ?_) | ((with_reducible refine iO _ (.load 38 _) ?_); refine step_load1 38 _ _ _ rfl (cL) _ Tryd.underlying38 rfl gw ?_) | fail)
      go_ret
      exact ⟨rfl, S.nil⟩
  · have hV : rqV ⟨6, t, p, d, n⟩ = (decide (p = 0) && decide (d = 0)) := by simp [rqV, Bool.decide_and]
    rw [hV]
    generalize decide (p = 0) = pb at *
    generalize decide (d = 0) = db at *
    clear hV hn hl
    cases pb <;> cases db
    all_goals
      go_enter Tryd.func33, Tryd.ntmps33
      go_wp2_with (first | ((with_reducible refine iD 1 (.box 69 (.tmp 0)) ?_); refine step_boxA (dst := some 1) S 69 (.tmp 0) _ rfl gw ?_; clear S; intro g1 w S) | ((with_reducible refine iO _ (.load 5 _) ?_); refine step_load1 5 _ _ _ rfl (cL) _ Tryd.underlying5 rfl gw ?_) | ((with_reducible refine iO _ (.load 38 _) ?_); refine step_load1 38 _ _ _ rfl (cL) _ Tryd.underlying38 rfl gw ?_) | fail)
      go_ret
      exact ⟨rfl, S.nil⟩
end Go.Proofs.YtfhkmmagpnojmaaDoor
