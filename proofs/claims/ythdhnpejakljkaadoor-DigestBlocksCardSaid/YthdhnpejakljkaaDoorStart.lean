/- A hash as a value; the hash of no bytes; whether two hashes are equal. No condition. -/
import Derived.Test.YthdhnpejakljkaaDoorRefComp
import Derived.Test.YthdhnpejakljkaaDoorEq
import Derived.Deep.RegionHeld3
import Derived.Laws.ResultCell
set_option linter.unusedSimpArgs false
set_option linter.unusedVariables false
namespace Go.Proofs.YthdhnpejakljkaaDoor
open Go.RowKit

/-- The table of constants lies where the program has laid it. -/
def KT (w : World) : Prop := (∃ t f, w.heap[0]? = some (.cells (kTab.map U32).toArray t f)) ∧ 0 < w.heap.size

theorem KT.later {w w1 : World} (h : KT w) {B : Nat} (hb : Below B w w1) (hB : w.heap.size ≤ B) : KT w1 := by
  obtain ⟨⟨t, f, h1⟩, h2⟩ := h
  exact ⟨⟨t, f, (hb.block _ (Nat.lt_of_lt_of_le h2 hB)).trans h1⟩, Nat.lt_of_lt_of_le h2 hb.size⟩

theorem KT.drew {w : World} (h : KT w) : KT w.drew := h
theorem KT.drewN {w : World} (h : KT w) (n : Nat) : KT (w.drewN n) := h
theorem KT.alloc {w : World} (h : KT w) (o : Obj) : KT (w.alloc o) := h.later (below1 w o) (Nat.le_refl _)

theorem KT.of_var {w : World} (h : w.var? Tryd.prog "dunnage/digest.constants" = some (kTab.map U32).toArray) : KT w := by
  have hg : Tryd.prog.globalNamed "dunnage/digest.constants" = some 0 := by kernel_rfl
  unfold World.var? at h
  rw [hg] at h
  simp only [Option.bind_some] at h
  cases hq : w.heap[0]? with
  | none => rw [hq] at h; cases h
  | some o =>
    rw [hq] at h
    cases o with
    | cells cs t f =>
      simp only [Option.some.injEq] at h
      subst h
      refine ⟨⟨t, f, hq⟩, ?_⟩
      rcases Nat.lt_or_ge 0 w.heap.size with h | h
      · exact h
      · rw [Array.getElem?_eq_none h] at hq; cases hq
    | _ => cases h

theorem compressK (s : St) (b : List UInt8) (w : World) (hb : b.length = 64) (hK : KT w) :
    Calls Tryd.prog 14 #[.agg #[U32 s.a, U32 s.b, U32 s.c, U32 s.d, U32 s.e, U32 s.f, U32 s.g, U32 s.h], .agg (b.map by8).toArray] w fun e w' => e = .returned (aggS (compS s b)) ∧ Below w.heap.size w w' := by
  obtain ⟨⟨t, f, h1⟩, h2⟩ := hK
  exact compress_any t f s b w hb h1 h2

/-- A hash's cells: its state, its tail, its length. -/
def cellsH (s : St) (t : Value) (n : Nat) : Array Value := #[U32 s.a, U32 s.b, U32 s.c, U32 s.d, U32 s.e, U32 s.f, U32 s.g, U32 s.h, t, .int .u64 (n : Int)]

/-- A hash as a value. -/
def hashV (s : St) (t : Value) (n : Nat) : Value := .agg (cellsH s t n)

set_option maxRecDepth 20000 in
set_option maxHeartbeats 400000 in
theorem start_any (w : World) : Calls Tryd.prog 17 #[] w fun e w' => e = .returned (hashV startS (.slice none 0 0) 0) ∧ Below w.heap.size w w' := by
  go_enter Tryd.func17, Tryd.ntmps17
  go_wp2
  exact ret_row rfl w.heap.size 30 _ (heap_new _ _ _) _ Tryd.underlying30 10 (by kernel_rfl) rfl rfl rfl rfl ⟨rfl, (Below.refl _ _).alloc (Nat.le_refl _) _⟩
set_option maxRecDepth 20000 in
set_option maxHeartbeats 400000 in
theorem first_any (w : World) : Calls Tryd.prog 46 #[] w fun e w' => e = .returned (aggS startS) ∧ Below w.heap.size w w' := by
  go_enter Tryd.func46, Tryd.ntmps46
  go_wp2
  exact ret_row rfl w.heap.size 23 _ (heap_new _ _ _) _ Tryd.underlying23 8 (by kernel_rfl) rfl rfl rfl rfl ⟨rfl, (Below.refl _ _).alloc (Nat.le_refl _) _⟩

set_option maxRecDepth 20000 in
set_option maxHeartbeats 400000 in
theorem refStart_any (w : World) : Calls Tryd.prog 18 #[] w fun e w' => e = .returned (hashV startS (.slice none 0 0) 0) ∧ Below w.heap.size w w' := by
  go_enter Tryd.func18, Tryd.ntmps18
  go_wp2_with (first | (go_at_call 46; (with_reducible refine (first_any _).mono ?_); rintro e w1 ⟨rfl, hb⟩; have HB := Lib.hid hb; clear hb; unfold aggS) | ((with_reducible show wpList _ _ _ (⟨none, .store 30 (.tmp 0) (.tmp 2), _, _, _, _⟩ :: _) _ _); refine wpList_store_rowN rfl 30 (.tmp 0) (.tmp 2) rfl (w.heap.size) _ rfl rfl 30 _ (heap_later HB.out (by simp) (heap_new _ _ _)) 10 (by kernel_rfl) rfl rfl (by simp [U32_one, one_slice, one_int, one_bool]) ?_) | fail)
  exact ret_row rfl w.heap.size 30 _ (setRow_heap _ _ _ _ _ _ (heap_later HB.out (by simp) (heap_new _ _ _))) _ Tryd.underlying30 10 (by kernel_rfl) rfl rfl rfl rfl ⟨rfl, below_row ((below1 _ _).trans (HB.out.mono (by simp))) (Nat.le_refl _) _⟩

set_option maxRecDepth 20000 in
set_option maxHeartbeats 400000 in
theorem sameHash_any (s : St) (u v : Value) (xs : List UInt8) (n : Nat) (w : World) (hu : Bs w u xs) (hv : Bs w v xs) :
    Calls Tryd.prog 16 #[hashV s u n, hashV s v n] w fun e w' => e = .returned (.bool true) ∧ Below w.heap.size w w' := by
  unfold hashV cellsH
  have hc1 := fun o1 o2 => Bs.conv (hu.below (below2 w o1 o2)) 27 9 5 Tryd.underlying27 Tryd.underlying5 Tryd.underlying9
  have hc2 := fun o1 o2 => Bs.conv (hv.below (below2 w o1 o2)) 27 9 5 Tryd.underlying27 Tryd.underlying5 Tryd.underlying9
  have eg : Tryd.prog.eqGuardType Tryd.prog.depth 23 = false := by kernel_rfl
  have he : ∀ w', (binOp .eql 23 (.agg #[U32 s.a, U32 s.b, U32 s.c, U32 s.d, U32 s.e, U32 s.f, U32 s.g, U32 s.h]) (.agg #[U32 s.a, U32 s.b, U32 s.c, U32 s.d, U32 s.e, U32 s.f, U32 s.g, U32 s.h])).run Tryd.prog w' = .ok (.bool true) w' := fun w' => by
    have := eql_words (P := Tryd.prog) 23 22 8 Tryd.underlying23 Tryd.underlying22 (by kernel_rfl) s.list s.list rfl rfl w'
    rwa [decide_eq_true rfl] at this
  go_enter Tryd.func16, Tryd.ntmps16
  go_wp2
  go_ret
  exact ⟨rfl, below2 _ _ _⟩
end Go.Proofs.YthdhnpejakljkaaDoor
