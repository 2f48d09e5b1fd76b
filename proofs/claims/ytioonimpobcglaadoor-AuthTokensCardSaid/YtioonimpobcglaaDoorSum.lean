/- The digest of a hash, by the specification; the digest of some bytes, by the program and by the specification; new memory alone. No condition but the table of constants. -/
import Derived.Test.YtioonimpobcglaaDoorRefFinish
set_option linter.unusedSimpArgs false
set_option linter.unusedVariables false
namespace Go.Proofs.YtioonimpobcglaaDoor
open Go.RowKit

/-- The digest of some bytes. -/
def sumD (xs : List UInt8) : List UInt8 := finD startS xs xs.length

set_option maxRecDepth 20000 in
set_option maxHeartbeats 1000000 in
theorem refSum_any (v : Value) (xs : List UInt8) (w : World) (hv : Bs w v xs) (hl : xs.length ≤ 1000000) :
    Calls Tryd.prog 78 #[v] w fun e w' => e = .returned (.agg ((sumD xs).map by8).toArray) ∧ Below w.heap.size w w' := by
  obtain ⟨a1, c1, rfl, k1, k2⟩ := Sl.shape hv
  unfold maxLen at k2
  have hDl : (sumD xs).length = 32 := outS_length _
  have hfin := fun w1 h => refFinish_any startS (.slice a1 xs.length c1) xs xs.length w1 h hl hl
  obtain ⟨D, hDD⟩ : ∃ D, D = ((sumD xs).map by8).toArray := ⟨_, rfl⟩
  have hDs : D.size = 32 := by rw [hDD]; simp [hDl]
  have hD1 : D.all (·.oneCell') = true := by rw [hDD]; exact all_by8 _
  rw [← sumD, ← hDD] at hfin
  rw [← hDD]
  have HV := Lib.hid hv; clear hv
  have HDS := Lib.hid hDs; have HD1 := Lib.hid hD1; have HFIN := Lib.hid hfin; clear hDs hD1 hfin
  clear hDD hDl
  go_enter Tryd.func78, Tryd.ntmps78
  go_wp2_with (first | (go_at_call 84; (with_reducible refine (first_any _).mono ?_); rintro e w1 ⟨rfl, hb1⟩; have HB1 := Lib.hid hb1; clear hb1; unfold aggS) | (go_at_call 83; (with_reducible refine (HFIN.out _ (HV.out.below ((below1 _ _).trans (HB1.out.mono (by simp))))).mono ?_); rintro e w2 ⟨rfl, hb2⟩; have HB2 := Lib.hid hb2; clear hb2) | ((with_reducible show wpList _ _ _ (⟨none, .store 25 (.tmp 2) (.tmp 8), _, _, _, _⟩ :: _) _ _); refine wpList_store_rowN rfl 25 (.tmp 2) (.tmp 8) rfl (w.heap.size) _ rfl rfl 25 _ (heap_later HB2.out (by have := HB1.out.size; simp at this; omega) (heap_later HB1.out (by simp) (heap_new _ _ _))) 32 (by kernel_rfl) HDS.out rfl HD1.out ?_) | fail)
  refine ret_row rfl w.heap.size 25 _ (setRow_heap _ _ _ _ _ _ (heap_later HB2.out (by have := HB1.out.size; simp at this; omega) (heap_later HB1.out (by simp) (heap_new _ _ _)))) _ Tryd.underlying25 32 (by kernel_rfl) HDS.out rfl rfl rfl ?_
  exact ⟨rfl, below_row (((below1 _ _).trans (HB1.out.mono (by simp))).trans (HB2.out.mono (by have := HB1.out.size; simp at this; omega))) (Nat.le_refl _) _⟩

/-- The digest of some bytes, or zeros; the error. -/
def smD (xs : List UInt8) : List UInt8 := if xs.length ≤ 8192 then sumD xs else List.replicate 32 0
def smE (k : Nat) : Int := if k ≤ 8192 then 0 else 4
theorem smD_length (xs : List UInt8) : (smD xs).length = 32 := by unfold smD; split <;> simp [sumD, finD, outS_length]

end Go.Proofs.YtioonimpobcglaaDoor
