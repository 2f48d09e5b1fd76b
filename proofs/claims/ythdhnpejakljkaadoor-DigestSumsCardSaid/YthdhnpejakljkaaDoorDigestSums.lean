/- DigestSums holds for every input: the program's digest of some bytes, or its error, is the specification's. No condition but the table of constants. -/
import Derived.Test.YthdhnpejakljkaaDoorSumP
import Derived.Test.YthdhnpejakljkaaDoorArgs
set_option linter.unusedSimpArgs false
set_option linter.unusedVariables false
namespace Go.Proofs.YthdhnpejakljkaaDoor
open Go.RowKit

set_option maxRecDepth 20000 in
set_option maxHeartbeats 1000000 in
theorem digestSums_walk (v : Value) (xs : List UInt8) (w : World) (hv : Bs w v xs) (hK : KT w) :
    Calls Tryd.prog 5 #[v] w fun e w' => e = .returned (.bool true) ∧ Below w.heap.size w w' := by
  have hs := fun w1 h1 h2 => sum_any v xs w1 h1 h2
  have hr := fun w1 h1 => summed_any v xs w1 h1
  have hDl := smD_length xs
  have he : ∀ w', (binOp .eql 40 (.agg ((smD xs).map by8).toArray) (.agg ((smD xs).map by8).toArray)).run Tryd.prog w' = .ok (.bool true) w' := fun w' => by
    have := eql_bytes (P := Tryd.prog) 40 5 32 Tryd.underlying40 Tryd.underlying5 (by kernel_rfl) (smD xs) (smD xs) hDl hDl w'
    rwa [decide_eq_true rfl] at this
  have hD1 : ((smD xs).map by8).toArray.all (·.oneCell') = true := all_by8 _
  have hDs : ((smD xs).map by8).toArray.size = 32 := by simp [smD_length]
  have eg : Tryd.prog.eqGuardType Tryd.prog.depth 40 = false := by kernel_rfl
  obtain ⟨D, hDD⟩ : ∃ D, D = ((smD xs).map by8).toArray := ⟨_, rfl⟩
  obtain ⟨E, hEE⟩ : ∃ E, E = smE xs.length := ⟨_, rfl⟩
  rw [← hDD] at he hs hr hD1 hDs
  rw [← hEE] at hs hr
  have HV := Lib.hid hv; have HK := Lib.hid hK; clear hv hK
  have HS := Lib.hid hs; have HR := Lib.hid hr; have HD1 := Lib.hid hD1; have HDS := Lib.hid hDs; clear hs hr hD1 hDs
  clear hDD hEE hDl
  go_enter Tryd.func5, Tryd.ntmps5
  go_wp2_with (first | (go_at_call 25; (with_reducible refine (HS.out _ HV.out HK.out).mono ?_); rintro e w1 ⟨rfl, hb1⟩; have HB1 := Lib.hid hb1; clear hb1) | ((with_reducible show wpList _ _ _ (⟨none, .store 40 (.tmp 3) (.tmp 10), _, _, _, _⟩ :: _) _ _); refine wpList_store_rowN rfl 40 (.tmp 3) (.tmp 10) rfl (w1.heap.size) _ rfl rfl 40 _ (heap_new _ _ _) 32 (by kernel_rfl) HDS.out rfl HD1.out ?_) | (go_at_call 26; (with_reducible refine (HR.out _ ((HV.out.below HB1.out).below (below_past (Below.refl _ _) (Nat.le_refl _) _ _))).mono ?_); rintro e w2 ⟨rfl, hb2⟩; have HB2 := Lib.hid hb2; clear hb2) | ((with_reducible show wpList _ _ _ (⟨none, .store 40 (.tmp 5) (.tmp 15), _, _, _, _⟩ :: _) _ _); refine wpList_store_rowN rfl 40 (.tmp 5) (.tmp 15) rfl (w2.heap.size) _ rfl rfl 40 _ (heap_new _ _ _) 32 (by kernel_rfl) HDS.out rfl HD1.out ?_) | ((with_reducible show wpList _ _ _ (⟨some 17, _, _, _, _, _⟩ :: _) _ _); refine wpList_load_rowN rfl 40 (.tmp 3) rfl (w1.heap.size) rfl 40 (D) (0, 0) _ (heap_past (heap_later HB2.out (by simp) (setRow_heap _ _ _ _ _ _ (heap_new _ _ _))) (by have := HB2.out.size; simp at this; omega) _ _) Tryd.underlying40 rfl 32 (by kernel_rfl) HDS.out ?_) | ((with_reducible show wpList _ _ _ (⟨some 18, _, _, _, _, _⟩ :: _) _ _); refine wpList_load_rowN rfl 40 (.tmp 5) rfl (w2.heap.size) rfl 40 (D) (0, 0) _ (setRow_heap _ _ _ _ _ _ (heap_new _ _ _)) Tryd.underlying40 rfl 32 (by kernel_rfl) HDS.out ?_) | fail)
  go_ret
  exact ⟨rfl, HB1.out.trans (((below_past (Below.refl _ _) (Nat.le_refl _) _ _).trans (HB2.out.mono (by simp)) |>.trans ((below_past (Below.refl _ _) (Nat.le_refl _) _ _).mono (by have := HB2.out.size; simp at this; omega))).mono HB1.out.size)⟩
end Go.Proofs.YthdhnpejakljkaaDoor
