/- Requests as the specification has them: their errors, the request of some bytes. No condition but the reach. -/
import Derived.Test.YtfhkmmagpnojmaaBd
import Derived.Test.YtfhkmmagpnojmaaRefR
import Derived.Test.YtfhkmmagpnojmaaRefE
set_option linter.unusedSimpArgs false
set_option linter.unusedVariables false
namespace Go.Proofs.Ytfhkmmagpnojmaa
open Go.RowKit

set_option maxRecDepth 100000 in
set_option maxHeartbeats 2000000 in
theorem refCheckRequest_s (r : Rq) (w0 : World) : Calls Try.prog 13 #[.agg (rqL r).toArray] w0 fun e w' => e = .returned (.int .i64 (rqE r)) ∧ Has w0 w' [] := by
  have S := Has.start w0
  have p1 := fun w => refValid_s r w
  unfold rqE
  generalize rqV r = v at *
  have P1 := Lib.hid p1; clear p1
  cases v
  all_goals
    go_enter Try.func13, Try.ntmps13
    go_wp2_with (first | ((with_reducible show wpList _ _ _ (⟨some 1, .box 38 (.tmp 0), _, _, _, _⟩ :: _) _ _); refine step_boxA (dst := some 1) S 38 (.tmp 0) _ rfl rfl ?_; clear S; intro g1 w S) | ((with_reducible show wpList _ _ _ (⟨_, .load 38 _, _, _, _, _⟩ :: _) _ _); first | (refine step_load S 38 _ _ rfl _ _ _ pk _ Try.underlying38 rfl 40 (by kernel_rfl) (by first | rfl | (first | rfl | assumption | (exact Hid.out (by assumption)) | (exact rqL_size _) | (exact tokL_size _) | (rw [arr8_size]; first | rfl | assumption | (exact Hid.out (by assumption)) | exact rqL_size _ | exact tokL_size _ | exact List.length_replicate ..) | (simp [arr8_size]; done))) rfl ?_) | (refine step_loadO 38 _ _ rfl _ _ _ (S.old_heap (Hid.out (by assumption))) _ Try.underlying38 rfl 40 (by kernel_rfl) (by first | rfl | (first | rfl | assumption | (exact Hid.out (by assumption)) | (exact rqL_size _) | (exact tokL_size _) | (rw [arr8_size]; first | rfl | assumption | (exact Hid.out (by assumption)) | exact rqL_size _ | exact tokL_size _ | exact List.length_replicate ..) | (simp [arr8_size]; done))) rfl ?_) | (refine step_loadR 38 _ _ _ rfl _ (S.old_range hy) _ Try.underlying38 rfl 40 (by kernel_rfl) (by first | rfl | (first | rfl | assumption | (exact Hid.out (by assumption)) | (exact rqL_size _) | (exact tokL_size _) | (rw [arr8_size]; first | rfl | assumption | (exact Hid.out (by assumption)) | exact rqL_size _ | exact tokL_size _ | exact List.length_replicate ..) | (simp [arr8_size]; done))) _ rfl rfl ?_)) | (go_at_call 30; (with_reducible refine (P1.out _).mono ?_); rintro e w1 ⟨rfl, T⟩; replace S := S.call T; clear T; (try simp only [List.nil_append, List.cons_append] at S)) | fail)
    go_ret
    exact ⟨rfl, S.nil⟩

set_option maxRecDepth 100000 in
set_option maxHeartbeats 2000000 in
theorem requestEncoded_s (r : Rq) (w0 : World) : Calls Try.prog 11 #[.agg (rqL r).toArray] w0 (MadeE w0 (encRE r) (rqE r)) := by
  have S := Has.start w0
  have p1 := fun w => refValid_s r w
  have p2 := fun w => refEncodeRequest_s r w
  unfold rqE encRE
  generalize rqV r = v at *
  generalize encR r = X at *
  have P1 := Lib.hid p1; have P2 := Lib.hid p2; clear p1 p2
  cases v
  · go_enter Try.func11, Try.ntmps11
    go_wp2_with (first | ((with_reducible show wpList _ _ _ (⟨some 1, .box 38 (.tmp 0), _, _, _, _⟩ :: _) _ _); refine step_boxA (dst := some 1) S 38 (.tmp 0) _ rfl rfl ?_; clear S; intro g1 w S) | ((with_reducible show wpList _ _ _ (⟨_, .load 38 _, _, _, _, _⟩ :: _) _ _); first | (refine step_load S 38 _ _ rfl _ _ _ pk _ Try.underlying38 rfl 40 (by kernel_rfl) (by first | rfl | (first | rfl | assumption | (exact Hid.out (by assumption)) | (exact rqL_size _) | (exact tokL_size _) | (rw [arr8_size]; first | rfl | assumption | (exact Hid.out (by assumption)) | exact rqL_size _ | exact tokL_size _ | exact List.length_replicate ..) | (simp [arr8_size]; done))) rfl ?_) | (refine step_loadO 38 _ _ rfl _ _ _ (S.old_heap (Hid.out (by assumption))) _ Try.underlying38 rfl 40 (by kernel_rfl) (by first | rfl | (first | rfl | assumption | (exact Hid.out (by assumption)) | (exact rqL_size _) | (exact tokL_size _) | (rw [arr8_size]; first | rfl | assumption | (exact Hid.out (by assumption)) | exact rqL_size _ | exact tokL_size _ | exact List.length_replicate ..) | (simp [arr8_size]; done))) rfl ?_) | (refine step_loadR 38 _ _ _ rfl _ (S.old_range hy) _ Try.underlying38 rfl 40 (by kernel_rfl) (by first | rfl | (first | rfl | assumption | (exact Hid.out (by assumption)) | (exact rqL_size _) | (exact tokL_size _) | (rw [arr8_size]; first | rfl | assumption | (exact Hid.out (by assumption)) | exact rqL_size _ | exact tokL_size _ | exact List.length_replicate ..) | (simp [arr8_size]; done))) _ rfl rfl ?_)) | (go_at_call 30; (with_reducible refine (P1.out _).mono ?_); rintro e w1 ⟨rfl, T⟩; replace S := S.call T; clear T; (try simp only [List.nil_append, List.cons_append] at S)) | fail)
    go_ret2
    exact ⟨_, rfl, S.nil.nil8⟩
  · go_enter Try.func11, Try.ntmps11
    go_wp2_with (first | ((with_reducible show wpList _ _ _ (⟨some 1, .box 38 (.tmp 0), _, _, _, _⟩ :: _) _ _); refine step_boxA (dst := some 1) S 38 (.tmp 0) _ rfl rfl ?_; clear S; intro g1 w S) | ((with_reducible show wpList _ _ _ (⟨_, .load 38 _, _, _, _, _⟩ :: _) _ _); first | (refine step_load S 38 _ _ rfl _ _ _ pk _ Try.underlying38 rfl 40 (by kernel_rfl) (by first | rfl | (first | rfl | assumption | (exact Hid.out (by assumption)) | (exact rqL_size _) | (exact tokL_size _) | (rw [arr8_size]; first | rfl | assumption | (exact Hid.out (by assumption)) | exact rqL_size _ | exact tokL_size _ | exact List.length_replicate ..) | (simp [arr8_size]; done))) rfl ?_) | (refine step_loadO 38 _ _ rfl _ _ _ (S.old_heap (Hid.out (by assumption))) _ Try.underlying38 rfl 40 (by kernel_rfl) (by first | rfl | (first | rfl | assumption | (exact Hid.out (by assumption)) | (exact rqL_size _) | (exact tokL_size _) | (rw [arr8_size]; first | rfl | assumption | (exact Hid.out (by assumption)) | exact rqL_size _ | exact tokL_size _ | exact List.length_replicate ..) | (simp [arr8_size]; done))) rfl ?_) | (refine step_loadR 38 _ _ _ rfl _ (S.old_range hy) _ Try.underlying38 rfl 40 (by kernel_rfl) (by first | rfl | (first | rfl | assumption | (exact Hid.out (by assumption)) | (exact rqL_size _) | (exact tokL_size _) | (rw [arr8_size]; first | rfl | assumption | (exact Hid.out (by assumption)) | exact rqL_size _ | exact tokL_size _ | exact List.length_replicate ..) | (simp [arr8_size]; done))) _ rfl rfl ?_)) | (go_at_call 30; (with_reducible refine (P1.out _).mono ?_); rintro e w1 ⟨rfl, T⟩; replace S := S.call T; clear T; (try simp only [List.nil_append, List.cons_append] at S)) | (go_at_call 31; (with_reducible refine (P2.out _).mono ?_); rintro e w1 ⟨v8, rfl, T⟩; replace S := S.call T; clear T; (try simp only [List.nil_append, List.cons_append] at S)) | fail)
    go_ret2
    exact ⟨_, rfl, S.sub (by repeat (first | exact Sub.nil _ | refine Sub.cons pk ?_))⟩

theorem build_rq1 (k : Int) (w : World) : (Instr.build 38 #[(0, .int .u8 k)]).run Try.prog w = .ok (.agg ([Value.int .u8 k] ++ tokL tokZ ++ [Value.int .u8 0, .int .u8 0, .int .u32 0]).toArray) w := by kernel_rfl

set_option maxRecDepth 100000 in
/-- A request with a kind. -/
theorem step_buildRq1 {ops : Array Oper} {rest : List Oper} {a : Act} {w : World} {Q : Exit → Act → World → Prop} {dst : Option Tmp} {ty : TypeId} {pos : String} {after : Array Edge} {gd : Option (Nat × Bool)} (x : Operand) (k : UInt8)
    (hx : a.eval x = by8 k)
    (hw : Region.wanted ⟨dst, .build 38 #[(0, x)], ty, pos, after, gd⟩ (yielded ops a.tmps) = true)
    (h : wpList Try.prog ops Q rest (a.put dst (.agg (rqL ⟨k, tokZ, 0, 0, 0⟩).toArray)) w) : wpList Try.prog ops Q (⟨dst, .build 38 #[(0, x)], ty, pos, after, gd⟩ :: rest) a w := by
  refine step_val (v := .agg (rqL ⟨k, tokZ, 0, 0, 0⟩).toArray) hw ?_ h
  have hp : (#[(0, x)].map fun (i, x) => (i, a.eval x)) = #[(0, .int .u8 (k.toNat : Int))] := by simp [hx]
  have := build_rq1 k.toNat w
  simp only [execOp, hp, Sem.run_bind, this, Result.andThen_ok, Sem.run_pure]
  rfl

theorem Bs.cell {w : World} {b off n c : Nat} {xs : List UInt8} (h : Bs w (.slice (some ⟨b, off, none⟩) n c) xs) (hn : n = xs.length) (i : Nat) (hi : i < xs.length) : w.cell? ⟨b, off + i, none⟩ = some (by8 (xs.getD i 0)) := by
  subst hn
  obtain ⟨b', off', e, hc⟩ := h.atA (by omega)
  simp only [Option.some.injEq, Addr.mk.injEq, and_true] at e
  obtain ⟨rfl, rfl⟩ := e
  exact hc i _ (by simp [List.getD, hi])
end Go.Proofs.Ytfhkmmagpnojmaa
