/- The hash after some more bytes: what dunnageref01.Write returns; new memory alone. No condition. -/
import Derived.Test.YtioonimpobcglaaDoorCheck
import Derived.Test.YtioonimpobcglaaDoorBlocks
import Derived.Test.YtioonimpobcglaaDoorWrite
import Derived.Test.YtioonimpobcglaaDoorRow2
set_option linter.unusedSimpArgs false
set_option linter.unusedVariables false
namespace Go.Proofs.YtioonimpobcglaaDoor
open Go.RowKit

/-- What a call leaves that returns a hash and an error's number; the tail reads as ts. -/
def HashE (w : World) (s : St) (ts : List UInt8) (n : Nat) (code : Int) (e : Ending) (w' : World) : Prop :=
  ∃ a c, e = .returned (.tuple #[hashV s (.slice a ts.length c) n, .int .i64 code]) ∧ Bs w' (.slice a ts.length c) ts ∧ Below w.heap.size w w'

theorem hashZ {w w' : World} {code : Int} (hb : Below w.heap.size w w') : HashE w stZ [] 0 code (.returned (.tuple #[.agg (cellsH stZ (.slice none 0 0) 0), .int .i64 code])) w' := ⟨none, 0, rfl, Bs.mk0 _ _, hb⟩

theorem cellsH_no8 {s : St} {a : Option Addr} {m c n i : Nat} {x : UInt8} (h : (cellsH s (.slice a m c) n)[i]? = some (by8 x)) : False := by
  rcases i with _ | _ | _ | _ | _ | _ | _ | _ | _ | _ | i <;> simp [cellsH, U32] at h

end Go.Proofs.YtioonimpobcglaaDoor
