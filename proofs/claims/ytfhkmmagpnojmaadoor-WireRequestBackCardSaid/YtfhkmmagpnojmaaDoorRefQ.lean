/- Requests as the specification has them: their errors, the request of some bytes. No condition but the reach. -/
import Derived.Test.YtfhkmmagpnojmaaDoorRefR
import Derived.Test.YtfhkmmagpnojmaaDoorRefE
set_option linter.unusedSimpArgs false
set_option linter.unusedVariables false
namespace Go.Proofs.YtfhkmmagpnojmaaDoor
open Go.RowKit

theorem build_rq1 (k : Int) (w : World) : (Instr.build 69 #[(0, .int .u8 k)]).run Tryd.prog w = .ok (.agg ([Value.int .u8 k] ++ tokL tokZ ++ [Value.int .u8 0, .int .u8 0, .int .u32 0]).toArray) w := by kernel_rfl

set_option maxRecDepth 100000 in
/-- A request with a kind. -/
theorem step_buildRq1 {ops : Array Oper} {rest : List Oper} {a : Act} {w : World} {Q : Exit → Act → World → Prop} {dst : Option Tmp} {ty : TypeId} {pos : String} {after : Array Edge} {gd : Option (Nat × Bool)} (x : Operand) (k : UInt8)
    (hx : a.eval x = by8 k)
    (hw : Region.wanted ⟨dst, .build 69 #[(0, x)], ty, pos, after, gd⟩ (yielded ops a.tmps) = true)
    (h : wpList Tryd.prog ops Q rest (a.put dst (.agg (rqL ⟨k, tokZ, 0, 0, 0⟩).toArray)) w) : wpList Tryd.prog ops Q (⟨dst, .build 69 #[(0, x)], ty, pos, after, gd⟩ :: rest) a w := by
  refine step_val (v := .agg (rqL ⟨k, tokZ, 0, 0, 0⟩).toArray) hw ?_ h
  have hp : (#[(0, x)].map fun (i, x) => (i, a.eval x)) = #[(0, .int .u8 (k.toNat : Int))] := by simp [hx]
  have := build_rq1 k.toNat w
  simp only [execOp, hp, Sem.run_bind, this, Result.andThen_ok, Sem.run_pure]
  rfl

theorem Bs.cell {w : World} {b off n c : Nat} {xs : List UInt8} (h : Bs w (.slice (some ⟨b, off, none⟩) n c) xs) (hn : n = xs.length) (i : Nat) (hi : i < xs.length) : w.cell? ⟨b, off + i, none⟩ = some (by8 (xs.getD i 0)) := by
  subst hn
  obtain ⟨b', off', e, hc⟩ := h.atA (by omega)
  simp only [Option.some.injEq, Addr.mk.injEq, and_true] at e
  obtain ⟨rfl, rfl⟩ := e
  exact hc i _ (by simp [List.getD, hi])
end Go.Proofs.YtfhkmmagpnojmaaDoor
