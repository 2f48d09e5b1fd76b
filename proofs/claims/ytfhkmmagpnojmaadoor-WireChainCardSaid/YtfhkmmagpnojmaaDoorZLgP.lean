/- A log in plain words: its cells, its validity, one record more, the records from a number on. No condition. -/
import Derived.Test.YtfhkmmagpnojmaaDoorZVer
set_option linter.unusedSimpArgs false
set_option linter.unusedVariables false
namespace Go.Proofs.YtfhkmmagpnojmaaDoor
open Go.RowKit

/-- A log: its count, the link of its last record, its last records. -/
structure Lg where
  cnt : UInt32
  link : List UInt8
  recs : List Rcd
  len : link.length = 32
def lgZ : Lg := ⟨0, zs32, [], rfl⟩
/-- The cells of a log, its records' slice given. -/
def lgL (g : Lg) (v : Value) : List Value := .int .u32 (g.cnt.toNat : Int) :: (g.link.map by8 ++ [v])
theorem lgL_size (g : Lg) (v : Value) : (lgL g v).toArray.size = 34 := by simp [lgL, g.len]
theorem lgL_one (g : Lg) (v : Value) (h : v.oneCell' = true) : (lgL g v).toArray.all (·.oneCell') = true := by
  rw [Array.all_eq_true']
  intro u hu
  simp only [lgL, List.mem_toArray, List.mem_append, List.mem_cons, List.not_mem_nil, or_false] at hu
  rcases hu with rfl | hu | rfl
  · rfl
  · exact oneCell_u8 _ u hu
  · exact h
theorem lgL_0 (g : Lg) (v : Value) : (lgL g v).toArray[0]? = some (.int .u32 (g.cnt.toNat : Int)) := rfl
theorem lgL_link (g : Lg) (v : Value) : (((lgL g v).toArray.toList.drop 1).take 32).toArray = arr8 g.link := by
  have : (((lgL g v).toArray.toList.drop 1).take 32) = g.link.map by8 := by
    show ((g.link.map by8 ++ [v]).take 32) = _
    rw [List.take_append_of_le_length (by simp [g.len]), List.take_of_length_le (by simp [g.len])]
  rw [this]
  rfl
theorem lgL_33 (g : Lg) (v : Value) : (lgL g v).toArray[33]? = some v := by
  rw [List.getElem?_toArray]
  show (g.link.map by8 ++ [v])[32]? = some v
  rw [List.getElem?_append_right (by simp [g.len])]
  simp [g.len]
/-- The link of the last record, or zeros. -/
def lastK (l : List Rcd) : List UInt8 := match l.getLast? with | some x => x.link | none => zs32
def lgV (g : Lg) : Bool := decide (g.recs.length = min g.cnt.toNat 32) && (chV g.recs && decide (g.link = lastK g.recs))
/-- What a check of a log answers. -/
def lgE (g : Lg) : Int := if lgV g = true then 0 else 8
/-- The error of a record more. -/
def apE (g : Lg) (t : UInt64) (k : UInt8) (c : I64) (n : Nat) : Int :=
  if lgV g = false then 8 else if lnkE t k c n ≠ 0 then lnkE t k c n else if g.cnt.toNat = 4294967295 then 9 else 0
/-- The records kept beside one more. -/
def keepR (l : List Rcd) : List Rcd := l.drop (l.length + 1 - 32)
def newR (g : Lg) (t : UInt64) (k : UInt8) (c : I64) (b : List UInt8) : Rcd := ⟨t, k, c, lnkD g.link t k c b, sumD_length _⟩
def apR (g : Lg) (t : UInt64) (k : UInt8) (c : I64) (b : List UInt8) : Lg :=
  if apE g t k c b.length = 0 then ⟨g.cnt + 1, lnkD g.link t k c b, keepR g.recs ++ [newR g t k c b], sumD_length _⟩ else lgZ
/-- The records from a number on. -/
def sinceR (g : Lg) (first : UInt32) : List Rcd := if lgV g = true then g.recs.drop (min (max first.toNat (g.cnt.toNat - g.recs.length) - (g.cnt.toNat - g.recs.length)) g.recs.length) else []
theorem lgV_parts (g : Lg) (h : lgV g = true) : g.recs.length = min g.cnt.toNat 32 ∧ (∀ x ∈ g.recs, rcdV x = true) ∧ g.link = lastK g.recs := by
  simp only [lgV, Bool.and_eq_true, decide_eq_true_eq] at h
  exact ⟨h.1, ((chV_iff _).1 h.2.1).2, h.2.2⟩
end Go.Proofs.YtfhkmmagpnojmaaDoor
