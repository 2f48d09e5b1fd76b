/- Layer 1's functions on bytes and texts, in terms of things made. Conditions: those of the elder contracts. -/
import Derived.Test.YtioonimpobcglaaDoorStB
import Derived.Test.YtioonimpobcglaaDoorPutU
import Derived.Test.YtioonimpobcglaaDoorRefNum
set_option linter.unusedSimpArgs false
set_option linter.unusedVariables false
namespace Go.Proofs.YtioonimpobcglaaDoor
open Go.RowKit

/-- New bytes and an error. -/
def MadeE (w : World) (xs : List UInt8) (code : Int) (e : Ending) (w' : World) : Prop := ∃ v, e = .returned (.tuple #[v, .int .i64 code]) ∧ Has w w' [row8 v xs]
def MadeNE (w : World) (xs : List UInt8) (next code : Int) (e : Ending) (w' : World) : Prop := ∃ v, e = .returned (.tuple #[v, .int .i64 next, .int .i64 code]) ∧ Has w w' [row8 v xs]

theorem FreshE.made {w w' : World} {xs : List UInt8} {c : Int} {e : Ending} (h : FreshE w xs c e w') : MadeE w xs c e w' := by
  obtain ⟨v, he, ho, hb⟩ := h
  exact ⟨v, he, Has.of_row8 hb ho⟩

theorem putUint_s (v : Value) (xs : List UInt8) (n : Nat) (ni s : Int) (hni : ni = (n : Int)) (w : World) (hv : Bs w v xs) (hl : xs.length ≤ 140737488355328) (hn : n < 18446744073709551616) (hs : -9223372036854775808 ≤ s ∧ s ≤ 9223372036854775807) :
    Calls Tryd.prog 45 #[v, .int .u64 ni, .int .i64 s] w (MadeE w (putR xs n s) (putE xs.length n s)) := by
  subst hni
  exact (putUint_any v xs n s w hv hl hn hs).mono fun _ _ h => FreshE.made h

theorem takeBytes_s (v : Value) (xs : List UInt8) (p n : Int) (w : World) (hv : Bs w v xs) (hl : xs.length ≤ 140737488355328)
    (hp : -9223372036854775808 ≤ p ∧ p ≤ 9223372036854775807) (hn : -9223372036854775808 ≤ n ∧ n ≤ 9223372036854775807) :
    Calls Tryd.prog 71 #[v, .int .i64 p, .int .i64 n] w (MadeNE w (takeR xs p n) (takeN xs.length p n) (takeE xs.length p n)) :=
  (takeBytes_any v xs p n w hv hl hp hn).mono fun _ _ h => by
    obtain ⟨v, he, ho, hb⟩ := h
    exact ⟨v, he, Has.of_row8 hb ho⟩

theorem takeUint_s (v : Value) (xs : List UInt8) (p s : Int) (w : World) (hv : Bs w v xs) (hl : xs.length ≤ 140737488355328)
    (hp : -9223372036854775808 ≤ p ∧ p ≤ 9223372036854775807) (hs : -9223372036854775808 ≤ s ∧ s ≤ 9223372036854775807) :
    Calls Tryd.prog 47 #[v, .int .i64 p, .int .i64 s] w fun e w' =>
      e = .returned (.tuple #[.int .u64 (tuV xs p s : Nat), .int .i64 (tuN xs.length p s), .int .i64 (tuE xs.length p s)]) ∧ Has w w' [] :=
  (takeUint_any v xs p s w hv hl hp hs).mono fun _ _ h => ⟨h.1, Has.of_below h.2⟩

theorem strB_inj {xs ys : List UInt8} : strB xs = strB ys ↔ xs = ys := by
  constructor
  · intro h
    have := congrArg ByteArray.data h
    simpa [strB] using this
  · intro h; rw [h]
theorem strB_size (xs : List UInt8) : (strB xs).size = xs.length := rfl
theorem strB_list (xs : List UInt8) : (strB xs).data.toList = xs := rfl
end Go.Proofs.YtioonimpobcglaaDoor
