/- The method 'read' of orders, states, tokens; rows of sights. No condition but the reach. -/
import Derived.Test.YtfhkmmagpnojmaaZBd
import Derived.Deep.Cut
import Derived.Test.YtfhkmmagpnojmaaZRpB
import Derived.Test.YtfhkmmagpnojmaaZDecR
import Derived.Test.YtfhkmmagpnojmaaZRcM
import Derived.Test.YtfhkmmagpnojmaaZRelyD
set_option linter.unusedSimpArgs false
set_option linter.unusedVariables false
namespace Go.Proofs.Ytfhkmmagpnojmaa
open Go.RowKit

abbrev rowSg (v : Value) (l : List Sgt) : Res := row v 101 3 l.length (l.flatMap sgtL)
set_option maxRecDepth 100000 in
set_option maxHeartbeats 4000000 in
theorem orderRead_s (v : Value) (g : Nat) (bv : Value) (b : List UInt8) (p : Nat) (w0 w1 : World) (F : List Res) (S : Has w0 w1 (rdr g bv p :: F)) (hb : Bs w0 bv b) (hp : p ≤ b.length) (hl : b.length ≤ 140737488355328) :
    Calls Try.prog 98 #[v, .pointer (some ⟨g, 0, none⟩)] w1 fun e w' =>
      (p + 2 ≤ b.length ∧ e = .returned (.iface 122 (.int .i64 (atB b p 2 : Int))) ∧ Has w0 w' (rdr g bv (p + 2) :: F)) ∨ (b.length < p + 2 ∧ e = .panicked [erl] ∧ ∃ q, Has w0 w' (rdr g bv q :: F)) := by
  have p1 := fun w F S => ruint_i 2 2 rfl g bv b p w0 w F S hb (by decide) (by decide) hp hl
  have hlt := atB_lt b p 2
  have e1 : IntKind.i64.wrap (atB b p 2 : Int) = (atB b p 2 : Int) := by rw [IntKind.wrap_i64]; omega
  have HB := Lib.hid hb; have P1 := Lib.hid p1; clear hb p1
  clear hlt
  go_enter Try.func98, Try.ntmps98
  go_wp2_with (first | (go_at_call 35; (with_reducible refine (P1.out _ _ (S.pick pk)).mono ?_); rintro e w1 (⟨hf, rfl, S1⟩ | ⟨hf, rfl, S1⟩); rotate_left; exact ⟨rfl, .inr ⟨by omega, rfl, _, S1⟩⟩; clear S; have S := S1; clear S1) | fail)
  go_ret
  exact .inl ⟨hf, rfl, S⟩
set_option maxRecDepth 100000 in
set_option maxHeartbeats 4000000 in
theorem stateRead_s (cs : Array Value) (g : Nat) (bv : Value) (b : List UInt8) (p : Nat) (w0 w1 : World) (F : List Res) (S : Has w0 w1 (rdr g bv p :: F)) (hb : Bs w0 bv b) (hp : p ≤ b.length) (hl : b.length ≤ 140737488355328) :
    Calls Try.prog 101 #[.agg cs, .pointer (some ⟨g, 0, none⟩)] w1 fun e w' =>
      (p + 9 ≤ b.length ∧ e = .returned (.iface 124 (.agg #[.int .u8 (atB b p 1 : Int), .int .u64 (atB b (p + 1) 8 : Int)])) ∧ Has w0 w' (rdr g bv (p + 9) :: F)) ∨ (b.length < p + 9 ∧ e = .panicked [erl] ∧ ∃ q, Has w0 w' (rdr g bv q :: F)) := by
  have p1 := fun w F S => ruint_i 1 1 rfl g bv b p w0 w F S hb (by decide) (by decide) hp hl
  have p2 := fun w F S h => ruint_i 8 8 rfl g bv b (p + 1) w0 w F S hb (by decide) (by decide) h hl
  have hlt := atB_lt b p 1
  have e1 : IntKind.u8.wrap (atB b p 1 : Int) = (atB b p 1 : Int) := by rw [IntKind.wrap_u8]; omega
  have e2 : (atB b p 1 : Int) % 256 = (atB b p 1 : Int) := by omega
  have b1 := build_st
  have HB := Lib.hid hb; have P1 := Lib.hid p1; have P2 := Lib.hid p2; clear hb p1 p2
  clear hlt
  go_enter Try.func101, Try.ntmps101
  go_wp2_with (first | (go_at_call 35; (with_reducible refine (P1.out _ _ (S.pick pk)).mono ?_); rintro e w1 (⟨hf, rfl, S1⟩ | ⟨hf, rfl, S1⟩); rotate_left; exact ⟨rfl, .inr ⟨by omega, rfl, _, S1.drop (Pick.tail (Pick.head _ _))⟩⟩; clear S; have S := S1; clear S1; have _t := P1; clear P1) | (go_at_call 35; (with_reducible refine (P2.out _ _ (S.pick pk) hf).mono ?_); rintro e w1 (⟨hf2, rfl, S1⟩ | ⟨hf2, rfl, S1⟩); rotate_left; exact ⟨rfl, .inr ⟨by omega, rfl, _, S1.drop (Pick.tail (Pick.head _ _))⟩⟩; clear S; have S := S1; clear S1) | ((with_reducible refine iD 2 (.box 124 (.tmp 0)) ?_); refine step_boxA (dst := some 2) S 124 (.tmp 0) _ rfl rfl ?_; clear S; intro g2 w S) | fail)
  go_ret
  exact .inl ⟨hf2, rfl, S.drop (Pick.tail (Pick.head _ _))⟩
set_option maxRecDepth 100000 in
set_option maxHeartbeats 4000000 in
theorem ticketRead_s (cs : Array Value) (g : Nat) (bv : Value) (b : List UInt8) (p : Nat) (w0 w1 : World) (F : List Res) (S : Has w0 w1 (rdr g bv p :: F)) (hb : Bs w0 bv b) (hp : p ≤ b.length) (hl : b.length ≤ 140737488355328) :
    Calls Try.prog 84 #[.agg cs, .pointer (some ⟨g, 0, none⟩)] w1 fun e w' =>
      (p + 46 ≤ b.length ∧ e = .returned (.iface 73 (.agg (tokL (decT ((b.drop p).take 46))).toArray)) ∧ Has w0 w' (rdr g bv (p + 46) :: F)) ∨ (b.length < p + 46 ∧ e = .panicked [erl] ∧ ∃ q, Has w0 w' (rdr g bv q :: F)) := by
  have p2 := fun w F S => rbytes_i 46 46 rfl g bv b p w0 w F S hb (by decide) hp hl
  obtain ⟨T46, hT⟩ : ∃ T, T = (b.drop p).take 46 := ⟨_, rfl⟩
  have p3 := fun v w h => dec_s v T46 w h
  rw [← hT] at p2 ⊢
  have HB := Lib.hid hb; have P2 := Lib.hid p2; have P3 := Lib.hid p3; clear hb p2 p3
  clear hT
  go_enter Try.func84, Try.ntmps84
  go_wp2_with (first | (go_at_call 37; (with_reducible refine (P2.out _ _ (S.pick (r := rdr g bv p) pk)).mono ?_); rintro e w1 (⟨hf2, v9, rfl, S1⟩ | ⟨hf2, rfl, S1⟩); rotate_left; exact ⟨rfl, .inr ⟨by omega, rfl, _, S1.drop (Pick.tail (Pick.head _ _))⟩⟩; clear S; have S := S1; clear S1) | ((with_reducible refine iD 2 (.box 73 (.tmp 0)) ?_); refine step_boxA (dst := some 2) S 73 (.tmp 0) _ rfl rfl ?_; clear S; intro g2 w S) | (go_at_call 36; (with_reducible refine (P3.out _ _ (S.bs (xs := T46) pk)).mono ?_); rintro e w1 ⟨rfl, T⟩; replace S := S.call T; clear T; (try simp only [z4, z5] at S)) | ((with_reducible refine iD 5 (.alloc 36) ?_); refine step_alloc (dst := some 5) S 36 (.agg ((tokL tokZ).toArray)) ((tokL tokZ).toArray) kR rfl rfl ?_; clear S; intro g5 w S) | ((with_reducible refine iO none (.store 36 (.tmp 5) (.tmp 11)) ?_); refine step_store S 36 (.tmp 5) (.tmp 11) _ _ rfl rfl _ _ pk 36 kR lN lN on1 rfl ?_; clear S; intro w S) | ((with_reducible refine iO _ (.load 36 _) ?_); first | (refine step_load S 36 _ _ rfl _ _ _ pk _ Try.underlying36 rfl 36 kR lN rfl ?_) | (refine step_loadO 36 _ _ rfl _ _ _ (S.old_heap (Hid.out (by assumption))) _ Try.underlying36 rfl 36 kR lN rfl ?_) | (refine step_loadR 36 _ _ _ rfl _ (S.old_range hy) _ Try.underlying36 rfl 36 kR lN _ rfl rfl ?_)) | fail)
  go_ret
  exact .inl ⟨hf2, rfl, ((S.drop (Pick.head _ _)).drop (Pick.tail (Pick.head _ _))).drop (Pick.tail (Pick.head _ _))⟩
end Go.Proofs.Ytfhkmmagpnojmaa
