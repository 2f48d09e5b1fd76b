/- More small laws on rows and worlds. No condition. -/
import Derived.Test.YtioonimpobcglaaDoorRow
set_option linter.unusedSimpArgs false
set_option linter.unusedVariables false
namespace Go.Proofs.YtioonimpobcglaaDoor
open Go.RowKit

/-- A row of one element type is not a block of another. -/
theorem own_other {w : World} {base e size n g : Nat} {v : Value} {xs : List Value} {cs : Array Value} {t : TypeId} {fr : Nat × Nat} (h : w.ownsRow base e size v n xs) (hg : w.heap[g]? = some (.cells cs t fr)) (hne : e ≠ t) : some g ≠ v.ownBlock := by
  rcases h.2 with ⟨rfl, _⟩ | ⟨k, cap, cur, rfl, _, hk, _⟩
  · simp [Value.ownBlock]
  · intro he
    have : g = k := by simpa [Value.ownBlock] using he
    subst this
    rw [hk] at hg
    simp only [Option.some.injEq, Obj.cells.injEq] at hg
    exact hne hg.2.1

theorem all_by8 (xs : List UInt8) : (xs.map by8).toArray.all (·.oneCell') = true := by
  rw [Array.all_eq_true_iff_forall_mem]
  intro u hu
  simp only [List.mem_toArray, List.mem_map] at hu
  obtain ⟨x, _, rfl⟩ := hu
  rfl

theorem empty_ownB (w : World) : (w.alloc (.cells #[] 5)).ownsRow w.heap.size 5 1 (.slice (some ⟨w.heap.size, 0, none⟩) 0 0) 0 [] :=
  World.ownsRow_made w #[] 0 (Nat.le_refl _) (by decide) rfl

/-- A block that stood, behind a new variable that has been filled. -/
theorem heap_past {w : World} {g : Nat} {o : Option Obj} (h : w.heap[g]? = o) (hg : g < w.heap.size) (z : Obj) (cs : Array Value) : ((w.alloc z).setRow w.heap.size cs).heap[g]? = o :=
  (setRow_other _ _ g _ (by omega)).trans ((Below.heap_alloc w z g hg).trans h)
theorem below_past {B : Nat} {w w1 : World} (h : Below B w w1) (hB : B ≤ w1.heap.size) (z : Obj) (cs : Array Value) : Below B w ((w1.alloc z).setRow w1.heap.size cs) := below_row (h.alloc hB z) hB cs

/-- Bytes do not lie in a block that holds none. -/
theorem Bs.other_blk {w : World} {g : Nat} {t : TypeId} {fr : Nat × Nat} {old : Array Value} {v : Value} {xs : List UInt8} (h : Bs w v xs) (hA : w.heap[g]? = some (.cells old t fr)) (hno : ∀ (i : Nat) (x : UInt8), old[i]? = some (by8 x) → False) (cs : Array Value) : Bs (w.setRow g cs) v xs := by
  rcases h.cases with ⟨a, rfl, rfl⟩ | ⟨b, off, cap, rfl, h1, h2, hc⟩
  · exact Bs.mk0 _ _
  · refine Bs.mk h1 h2 fun i hi => ?_
    have hci := hc i hi
    have hne : b ≠ g := by
      rintro rfl
      rw [cell_of_row w b (off + i) old t fr hA] at hci
      exact hno _ _ hci
    exact (World.cell?_of_block (setRow_other w g b cs hne)).trans hci

theorem some_slice {w : World} {base e size n : Nat} {v : Value} {xs : List Value} (h : w.ownsRow base e size v n xs) (hn : n ≠ 0) : ∃ g cap, v = .slice (some ⟨g, 0, none⟩) n cap ∧ n ≤ cap := by
  rcases h.2 with ⟨_, h0⟩ | ⟨g, cap, cur, hv, _, _, hc, _⟩
  · exact absurd h0 hn
  · exact ⟨g, cap, hv, hc⟩
end Go.Proofs.YtioonimpobcglaaDoor
