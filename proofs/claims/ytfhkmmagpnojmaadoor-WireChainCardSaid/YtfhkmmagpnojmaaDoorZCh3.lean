/- WireChain's walk with the number as a natural number. No condition but the table of constants and the reach. -/
import Derived.Test.YtfhkmmagpnojmaaDoorZCh2
set_option linter.unusedSimpArgs false
set_option linter.unusedVariables false
namespace Go.Proofs.YtfhkmmagpnojmaaDoor
open Go.RowKit
theorem wireChain_c (v0 : Value) (ns : List Nt) (f : Nat) (hf : f < 4294967296) (w0 : World) (hn : Sl w0 4 v0 ns.length (ns.flatMap ntL)) (hb : ∀ n ∈ ns, Bs w0 n.hv n.b ∧ n.b.length ≤ 140737488351232) (hK : KT w0) :
    Calls Tryd.prog 15 #[v0, .int .u32 (f : Int)] w0 fun e w' => e = .returned (.bool true) ∧ Has w0 w' [] := by
  have := wireChain_walk v0 ns (UInt32.ofNat f) w0 hn hb hK
  rw [UInt32.toNat_ofNat', Nat.mod_eq_of_lt hf] at this
  exact this
end Go.Proofs.YtfhkmmagpnojmaaDoor
