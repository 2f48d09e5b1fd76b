/- The number that at most eight bytes are: what digest.take and dunnageref01.Value return, for bytes that lie anywhere; the world stays. -/
import Derived.Test.YtioonimpobcglaaDoorProg
import Derived.Test.YtioonimpobcglaaDoorLib
import Derived.WalkLawsBesides
import Derived.WalkSpells
import Derived.Outline
import Derived.Laws.BitsAllLaws
set_option linter.unusedSimpArgs false
set_option linter.unusedVariables false
namespace Go.Proofs.YtioonimpobcglaaDoor
open Go.RowKit


theorem or_byte (n c : Nat) (hn : n < 72057594037927936) (hc : c < 256) : bits .or .u64 ((n : Int) * 256) (c : Int) = ((256 * n + c : Nat) : Int) := by
  have e : ((n * 256 : Nat) : Int) = (n : Int) * 256 := by omega
  have hj : n * 256 ||| c = 256 * n + c := (nat_join 8 (n * 256) c (by omega) (by omega)).trans (by omega)
  have h := u64_or_nat (n * 256) c (by omega) (by omega)
  rw [e, hj] at h
  exact h

set_option maxHeartbeats 400000 in
theorem take_any (v : Value) (xs : List UInt8) (w : World) (hv : Bs w v xs) (h8 : xs.length ≤ 8) :
    Calls Tryd.prog 72 #[v] w fun e w' => e = .returned (.int .u64 (val xs : Int)) ∧ w = w' := by
  rcases hv.cases with ⟨a, rfl, rfl⟩ | ⟨b, off, cap, rfl, hl, hm, hc⟩
  · go_enter Tryd.func72, Tryd.ntmps72
    go_wp2
    refine wp_loop_rounds 1 ?_
    rw [rounds_succ]
    go_wp2
    go_ret
    exact ⟨rfl, rfl⟩
  · unfold maxLen at hm
    go_enter Tryd.func72, Tryd.ntmps72
    go_wp2
    go_loop [3, 8] (fun n i => ∃ k : Nat, k ≤ xs.length ∧ i = .int .i64 k ∧ n = .int .u64 (val (xs.take k) : Int)) (fun _ i => xs.length - (intOf i).toNat)
    case atStart => exact ⟨0, Nat.zero_le _, rfl, rfl⟩
    case round =>
      obtain ⟨k, hk, rfl, rfl⟩ := hrel
      by_cases hlt : k < xs.length
      · have hck := hc k hlt
        have hb := val_take_lt xs k hlt h8
        have hu := (xs[k]).toNat_lt
        have hs := val_take_succ xs k hlt
        have HS := Lib.hid hs; clear hs
        go_wp2
        go_round
        case rel => exact ⟨k + 1, by omega, by go_num, by rw [HS.out, or_byte _ _ hb hu]⟩
        case measure => simp [intOf]; omega
      · go_wp2
        go_ret
        exact ⟨ret_int (by rw [List.take_of_length_le (by omega)]), rfl⟩

set_option maxHeartbeats 400000 in
theorem value_any (v : Value) (xs : List UInt8) (w : World) (hv : Bs w v xs) (h8 : xs.length ≤ 8) :
    Calls Tryd.prog 48 #[v] w fun e w' => e = .returned (.int .u64 (val xs : Int)) ∧ w = w' := by
  rcases hv.cases with ⟨a, rfl, rfl⟩ | ⟨b, off, cap, rfl, hl, hm, hc⟩
  · go_enter Tryd.func48, Tryd.ntmps48
    go_wp2
    refine wp_loop_rounds 1 ?_
    rw [rounds_succ]
    go_wp2
    go_ret
    exact ⟨rfl, rfl⟩
  · unfold maxLen at hm
    go_enter Tryd.func48, Tryd.ntmps48
    go_wp2
    go_loop [3, 4] (fun n i => ∃ k : Nat, k ≤ xs.length ∧ i = .int .i64 k ∧ n = .int .u64 (val (xs.take k) : Int)) (fun _ i => xs.length - (intOf i).toNat)
    case atStart => exact ⟨0, Nat.zero_le _, rfl, rfl⟩
    case round =>
      obtain ⟨k, hk, rfl, rfl⟩ := hrel
      by_cases hlt : k < xs.length
      · have hck := hc k hlt
        have hb := val_take_lt xs k hlt h8
        have hu := (xs[k]).toNat_lt
        have hs := val_take_succ xs k hlt
        have HS := Lib.hid hs; clear hs
        go_wp2
        go_round
        case rel => exact ⟨k + 1, by omega, by go_num, by rw [HS.out]; go_num⟩
        case measure => simp [intOf]; omega
      · go_wp2
        go_ret
        exact ⟨ret_int (by rw [List.take_of_length_le (by omega)]), rfl⟩
end Go.Proofs.YtioonimpobcglaaDoor
