/- Records that are built. No condition. -/
import Derived.Test.YtfhkmmagpnojmaaZRcM
set_option linter.unusedSimpArgs false
set_option linter.unusedVariables false
namespace Go.Proofs.Ytfhkmmagpnojmaa
open Go.RowKit

theorem build_rc4v (x y z : Int) (d0 d1 d2 d3 d4 d5 d6 d7 d8 d9 d10 d11 d12 d13 d14 d15 d16 d17 d18 d19 d20 d21 d22 d23 d24 d25 d26 d27 d28 d29 d30 d31 : UInt8) (w : World) : (Instr.build 106 #[(0, .int .u64 x), (1, .int .u8 y), (2, .int .i64 z), (3, Value.agg ([d0, d1, d2, d3, d4, d5, d6, d7, d8, d9, d10, d11, d12, d13, d14, d15, d16, d17, d18, d19, d20, d21, d22, d23, d24, d25, d26, d27, d28, d29, d30, d31].map by8).toArray)]).run Try.prog w = .ok (.agg ([Value.int .u64 x, .int .u8 y, .int .i64 z] ++ [d0, d1, d2, d3, d4, d5, d6, d7, d8, d9, d10, d11, d12, d13, d14, d15, d16, d17, d18, d19, d20, d21, d22, d23, d24, d25, d26, d27, d28, d29, d30, d31].map by8).toArray) w := by kernel_rfl
theorem build_rc4 (x y z : Int) (D : List UInt8) (hD : D.length = 32) (w : World) : (Instr.build 106 #[(0, .int .u64 x), (1, .int .u8 y), (2, .int .i64 z), (3, Value.agg (D.map by8).toArray)]).run Try.prog w = .ok (.agg ([Value.int .u64 x, .int .u8 y, .int .i64 z] ++ D.map by8).toArray) w :=
  match D, hD with
  | [d0, d1, d2, d3, d4, d5, d6, d7, d8, d9, d10, d11, d12, d13, d14, d15, d16, d17, d18, d19, d20, d21, d22, d23, d24, d25, d26, d27, d28, d29, d30, d31], _ => build_rc4v x y z d0 d1 d2 d3 d4 d5 d6 d7 d8 d9 d10 d11 d12 d13 d14 d15 d16 d17 d18 d19 d20 d21 d22 d23 d24 d25 d26 d27 d28 d29 d30 d31 w
set_option maxRecDepth 100000 in
theorem does_buildRc4 {a : Act} {w : World} {dst : Option Tmp} {ty : TypeId} {pos : String} {after : Array Edge} {guard : Option (Nat × Bool)} {Post : Value → World → Prop} (x y z u : Operand) (r : Rcd)
    (hx : a.eval x = .int .u64 (r.tick.toNat : Int)) (hy : a.eval y = by8 r.kind) (hz : a.eval z = .int .i64 r.code.v) (hu : a.eval u = .agg (arr8 r.link))
    (h : Post (.agg (rcdL r).toArray) w) : does Try.prog a.eval ⟨dst, .build 106 #[(0, x), (1, y), (2, z), (3, u)], ty, pos, after, guard⟩ w Post := by
  refine does_val (v := .agg (rcdL r).toArray) ?_ h
  have hp : (#[(0, x), (1, y), (2, z), (3, u)].map fun (i, x) => (i, a.eval x)) = #[(0, .int .u64 (r.tick.toNat : Int)), (1, .int .u8 (r.kind.toNat : Int)), (2, .int .i64 r.code.v), (3, Value.agg (r.link.map by8).toArray)] := by simp [hx, hy, hz, hu, arr8]
  have := build_rc4 r.tick.toNat r.kind.toNat r.code.v r.link r.len w
  simp only [execOp, hp, Sem.run_bind, this, Result.andThen_ok, Sem.run_pure]
  rfl
set_option maxRecDepth 100000 in
theorem does_buildRc1 {a : Act} {w0 w : World} {l : List Res} {dst : Option Tmp} {ty : TypeId} {pos : String} {after : Array Edge} {gd : Option (Nat × Bool)} {Post : Value → World → Prop} (S : Has w0 w l) (x : Operand) (r : Rcd) (hx : a.eval x = .agg (rcdL r).toArray)
    (h : ∀ v w', Has w0 w' (rowRc v [r] :: l) → Post v w') : does Try.prog a.eval ⟨dst, .buildSlice 51 1 #[(0, x)], ty, pos, after, gd⟩ w Post :=
  does_buildS1 S 51 106 35 x (rcdL r) _ Try.underlying51 infoRc2 (by decide) (by decide) hx (rcdL_length _) fun v w' S' => h v w' (by
    have e : [r].flatMap rcdL = rcdL r := by simp
    show Has w0 w' (row v _ 35 1 ([r].flatMap rcdL) :: l)
    rw [e]
    exact S')
end Go.Proofs.Ytfhkmmagpnojmaa
