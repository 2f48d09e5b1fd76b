/- A hash as a value; the hash of no bytes; whether two hashes are equal. No condition. -/
import Derived.Test.YtioonimpobcglaaDoorRefComp
import Derived.Test.YtioonimpobcglaaDoorEq
import Derived.Deep.RegionHeld3
import Derived.Laws.ResultCell
set_option linter.unusedSimpArgs false
set_option linter.unusedVariables false
namespace Go.Proofs.YtioonimpobcglaaDoor
open Go.RowKit

/-- The table of constants lies where the program has laid it. -/
def KT (w : World) : Prop := (∃ t f, w.heap[1]? = some (.cells (kTab.map U32).toArray t f)) ∧ 1 < w.heap.size

theorem KT.later {w w1 : World} (h : KT w) {B : Nat} (hb : Below B w w1) (hB : w.heap.size ≤ B) : KT w1 := by
  obtain ⟨⟨t, f, h1⟩, h2⟩ := h
  exact ⟨⟨t, f, (hb.block _ (Nat.lt_of_lt_of_le h2 hB)).trans h1⟩, Nat.lt_of_lt_of_le h2 hb.size⟩

theorem KT.drew {w : World} (h : KT w) : KT w.drew := h
theorem KT.drewN {w : World} (h : KT w) (n : Nat) : KT (w.drewN n) := h
theorem KT.alloc {w : World} (h : KT w) (o : Obj) : KT (w.alloc o) := h.later (below1 w o) (Nat.le_refl _)

theorem KT.of_var {w : World} (h : w.var? Tryd.prog "dunnage/digest.constants" = some (kTab.map U32).toArray) : KT w := by
  have hg : Tryd.prog.globalNamed "dunnage/digest.constants" = some 1 := by kernel_rfl
  unfold World.var? at h
  rw [hg] at h
  simp only [Option.bind_some] at h
  cases hq : w.heap[1]? with
  | none => rw [hq] at h; cases h
  | some o =>
    rw [hq] at h
    cases o with
    | cells cs t f =>
      simp only [Option.some.injEq] at h
      subst h
      refine ⟨⟨t, f, hq⟩, ?_⟩
      rcases Nat.lt_or_ge 1 w.heap.size with h | h
      · exact h
      · rw [Array.getElem?_eq_none h] at hq; cases hq
    | _ => cases h

theorem compressK (s : St) (b : List UInt8) (w : World) (hb : b.length = 64) (hK : KT w) :
    Calls Tryd.prog 85 #[.agg #[U32 s.a, U32 s.b, U32 s.c, U32 s.d, U32 s.e, U32 s.f, U32 s.g, U32 s.h], .agg (b.map by8).toArray] w fun e w' => e = .returned (aggS (compS s b)) ∧ Below w.heap.size w w' := by
  obtain ⟨⟨t, f, h1⟩, h2⟩ := hK
  exact compress_any t f s b w hb h1 h2

/-- A hash's cells: its state, its tail, its length. -/
def cellsH (s : St) (t : Value) (n : Nat) : Array Value := #[U32 s.a, U32 s.b, U32 s.c, U32 s.d, U32 s.e, U32 s.f, U32 s.g, U32 s.h, t, .int .u64 (n : Int)]

/-- A hash as a value. -/
def hashV (s : St) (t : Value) (n : Nat) : Value := .agg (cellsH s t n)

set_option maxRecDepth 20000 in
set_option maxHeartbeats 400000 in
theorem start_any (w : World) : Calls Tryd.prog 76 #[] w fun e w' => e = .returned (hashV startS (.slice none 0 0) 0) ∧ Below w.heap.size w w' := by
  go_enter Tryd.func76, Tryd.ntmps76
  go_wp2
  exact ret_row rfl w.heap.size 117 _ (heap_new _ _ _) _ Tryd.underlying117 10 (by kernel_rfl) rfl rfl rfl rfl ⟨rfl, (Below.refl _ _).alloc (Nat.le_refl _) _⟩
set_option maxRecDepth 20000 in
set_option maxHeartbeats 400000 in
theorem first_any (w : World) : Calls Tryd.prog 84 #[] w fun e w' => e = .returned (aggS startS) ∧ Below w.heap.size w w' := by
  go_enter Tryd.func84, Tryd.ntmps84
  go_wp2
  exact ret_row rfl w.heap.size 115 _ (heap_new _ _ _) _ Tryd.underlying115 8 (by kernel_rfl) rfl rfl rfl rfl ⟨rfl, (Below.refl _ _).alloc (Nat.le_refl _) _⟩

end Go.Proofs.YtioonimpobcglaaDoor
