/- Plain vocabulary for this seat's walks: a slice value that reads as a list of cells, bytes as UInt8, and how such readings are kept when the call makes new memory. No condition. -/
import Derived.WalkKit
import Derived.Lib.Hide
set_option linter.unusedSimpArgs false
set_option linter.unusedVariables false
namespace Go.Proofs.YtioonimpobcglaaDoor
open Go.RowKit

theorem ret_int {k : IntKind} {a b : Int} (h : a = b) : Ending.returned (.int k a) = .returned (.int k b) := by rw [h]

/-- v is a slice of n elements of 'size' cells each, and its cells are xs. -/
def Sl (w : World) (size : Nat) (v : Value) (n : Nat) (xs : List Value) : Prop :=
  xs.length = n * size ∧
  ((∃ a, v = .slice a 0 0 ∧ n = 0) ∨
   ∃ b off cap, v = .slice (some ⟨b, off, none⟩) n cap ∧ n ≤ cap ∧ cap ≤ maxLen ∧
     ∀ i (h : i < xs.length), w.cell? ⟨b, off + i, none⟩ = some xs[i])

/-- A byte as a value. -/
abbrev by8 (x : UInt8) : Value := .int .u8 (x.toNat : Int)

/-- v is a slice that reads as the bytes xs. -/
def Bs (w : World) (v : Value) (xs : List UInt8) : Prop := Sl w 1 v xs.length (xs.map by8)

theorem Sl.len {w : World} {size : Nat} {v : Value} {n : Nat} {xs : List Value} (h : Sl w size v n xs) : xs.length = n * size := h.1

theorem Sl.below {w w' : World} {size : Nat} {v : Value} {n : Nat} {xs : List Value} (h : Sl w size v n xs) (hb : Below w.heap.size w w') : Sl w' size v n xs := by
  refine ⟨h.1, ?_⟩
  rcases h.2 with h | ⟨b, off, cap, hv, h1, h2, hc⟩
  · exact .inl h
  · refine .inr ⟨b, off, cap, hv, h1, h2, fun i hi => ?_⟩
    have := hc i hi
    rw [hb.cell (World.block_lt_of_cell? w _ this)]
    exact this

theorem Bs.below {w w' : World} {v : Value} {xs : List UInt8} (h : Bs w v xs) (hb : Below w.heap.size w w') : Bs w' v xs := Sl.below h hb

theorem Bs.cases {w : World} {v : Value} {xs : List UInt8} (h : Bs w v xs) :
    (∃ a, v = .slice a 0 0 ∧ xs = []) ∨
    ∃ b off cap, v = .slice (some ⟨b, off, none⟩) xs.length cap ∧ xs.length ≤ cap ∧ cap ≤ maxLen ∧
      ∀ i (h : i < xs.length), w.cell? ⟨b, off + i, none⟩ = some (.int .u8 (xs[i].toNat : Int)) := by
  rcases h.2 with ⟨a, hv, hn⟩ | ⟨b, off, cap, hv, h1, h2, hc⟩
  · exact .inl ⟨a, hv, List.eq_nil_of_length_eq_zero hn⟩
  · refine .inr ⟨b, off, cap, hv, h1, h2, fun i hi => ?_⟩
    have := hc i (by simpa using hi)
    simpa using this

theorem Bs.mk {w : World} {xs : List UInt8} {b off cap : Nat} (h1 : xs.length ≤ cap) (h2 : cap ≤ maxLen)
    (hc : ∀ i (h : i < xs.length), w.cell? ⟨b, off + i, none⟩ = some (.int .u8 (xs[i].toNat : Int))) : Bs w (.slice (some ⟨b, off, none⟩) xs.length cap) xs :=
  ⟨by simp, .inr ⟨b, off, cap, rfl, h1, h2, fun i hi => by rw [hc i (by simpa using hi)]; simp⟩⟩

theorem Bs.mk0 (w : World) (a : Option Addr) : Bs w (.slice a 0 0) [] := ⟨rfl, .inl ⟨a, rfl, rfl⟩⟩

/-- What the call owns reads as what it owns. -/
theorem Sl.of_own {w : World} {base : Nat} {e : TypeId} {size : Nat} {v : Value} {n : Nat} {xs : List Value} (h : w.ownsRow base e size v n xs) : Sl w size v n xs := by
  refine ⟨h.1, ?_⟩
  rcases h.2 with ⟨hv, hn⟩ | ⟨g, cap, cur, hv, _, hg, h1, h2, h3, h4⟩
  · exact .inl ⟨none, by rw [hv], hn⟩
  · refine .inr ⟨g, 0, cap, hv, h1, h2, fun i hi => ?_⟩
    have := h.cells (g := g) (by rw [hv]; rfl) i xs[i] (by simp)
    have hadd : (⟨g, 0, none⟩ : Addr).add i = ⟨g, 0 + i, none⟩ := by unfold Addr.add; split <;> simp_all
    rw [← hadd]
    exact this

/-- The number that bytes are, the first the highest. -/
def val (xs : List UInt8) : Nat := xs.foldl (fun n c => 256 * n + c.toNat) 0

theorem val_snoc (xs : List UInt8) (c : UInt8) : val (xs ++ [c]) = 256 * val xs + c.toNat := by simp [val]

theorem val_lt (xs : List UInt8) : val xs < 256 ^ xs.length := by
  suffices h : ∀ (ys : List UInt8) (n m : Nat), n < 256 ^ m → ys.foldl (fun n c => 256 * n + c.toNat) n < 256 ^ (m + ys.length) by
    simpa [val] using h xs 0 0 (by simp)
  intro ys
  induction ys with
  | nil => intro n m h; simpa using h
  | cons c ys ih =>
    intro n m h
    have hc := c.toNat_lt
    have := ih (256 * n + c.toNat) (m + 1) (by rw [Nat.pow_succ]; omega)
    simp only [List.foldl_cons, List.length_cons]
    rw [show m + (ys.length + 1) = m + 1 + ys.length by omega]
    exact this

theorem val_take_succ (xs : List UInt8) (k : Nat) (h : k < xs.length) : val (xs.take (k + 1)) = 256 * val (xs.take k) + (xs[k]).toNat := by
  rw [List.take_succ_eq_append_getElem h, val_snoc]

theorem val_take_lt (xs : List UInt8) (k : Nat) (h : k < xs.length) (h8 : xs.length ≤ 8) : val (xs.take k) < 72057594037927936 := by
  have := val_lt (xs.take k)
  have hk : (xs.take k).length ≤ 7 := by simp; omega
  exact Nat.lt_of_lt_of_le this (Nat.le_trans (Nat.pow_le_pow_right (by decide) hk) (by decide))

end Go.Proofs.YtioonimpobcglaaDoor
