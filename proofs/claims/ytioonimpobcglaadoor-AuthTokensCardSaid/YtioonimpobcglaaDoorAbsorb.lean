/- The complete blocks of some bytes, compressed into a state: what digest.absorb returns, for bytes that lie anywhere; new memory alone. No condition but the table of constants. -/
import Derived.Test.YtioonimpobcglaaDoorStart
import Derived.Laws.Cover3
set_option linter.unusedSimpArgs false
set_option linter.unusedVariables false
namespace Go.Proofs.YtioonimpobcglaaDoor
open Go.RowKit

/-- What a call leaves that returns a state and bytes that stood. -/
def StateRest (w : World) (s : St) (xs : List UInt8) (e : Ending) (w' : World) : Prop :=
  ∃ v', e = .returned (.tuple #[aggS s, v']) ∧ Bs w v' xs ∧ Below w.heap.size w w'

theorem Bs.range {w : World} {b off cap n : Nat} {ys : List UInt8} (h : Bs w (.slice (some ⟨b, off, none⟩) n cap) ys) : w.rangeAt b off (ys.map by8) := by
  intro j v hj
  rcases h.cases with ⟨a, ha, hy⟩ | ⟨b', off', cap', hv, h1, h2, hc⟩
  · subst hy
    simp at hj
  · simp only [Value.slice.injEq, Option.some.injEq, Addr.mk.injEq, and_true] at hv
    obtain ⟨⟨rfl, rfl⟩, _, rfl⟩ := hv
    obtain ⟨hlt, rfl⟩ := List.getElem?_eq_some_iff.1 hj
    have := hc j (by simpa using hlt)
    simpa using this

theorem rangeAt_part {w : World} {b o : Nat} {cs : List Value} (h : w.rangeAt b o cs) (n : Nat) : w.rangeAt b o (cs.take n) := fun j v hj => by
  rw [List.getElem?_take] at hj
  split at hj
  · exact h j v hj
  · cases hj

theorem absS_succ (s : St) (xs : List UInt8) (k : Nat) : absS s xs (k + 1) = compS (absS s xs k) ((xs.drop (64 * k)).take 64) := rfl

/-- What stands at the head of a round. -/
structure AbsF (w : World) (r : St) (wr : World) : Prop where
  below : Below w.heap.size w wr
  st : wr.heap[w.heap.size]? = some (.cells (cellsS r) 115 (0, 0))
  res : wr.heap[w.heap.size + 1]? = some (.cells (cellsS ⟨0, 0, 0, 0, 0, 0, 0, 0⟩) 115 (0, 0))
  sz : w.heap.size + 2 ≤ wr.heap.size

theorem absF_new (w : World) (r : St) : AbsF w r ((w.alloc (.cells (cellsS r) 115)).alloc (.cells (cellsS ⟨0, 0, 0, 0, 0, 0, 0, 0⟩) 115)) := by
  refine ⟨below2 _ _ _, heap_later (below1 _ _) (by simp) (heap_new _ _ _), ?_, by simp⟩
  have := heap_new (w.alloc (.cells (cellsS r) 115)) (cellsS ⟨0, 0, 0, 0, 0, 0, 0, 0⟩) 115
  simpa using this

theorem AbsF.next {w wr w1 : World} {r r' : St} (h : AbsF w r wr) (hb : Below wr.heap.size wr w1) : AbsF w r' (w1.setRow w.heap.size (cellsS r')) := by
  have hs := h.sz
  have hs1 := hb.size
  refine ⟨below_row (h.below.trans (hb.mono (by omega))) (Nat.le_refl _) _, ?_, ?_, by simp; omega⟩
  · exact setRow_heap _ _ _ _ _ _ ((hb.block _ (by omega)).trans h.st)
  · rw [setRow_other _ _ _ _ (by omega)]
    exact (hb.block _ (by omega)).trans h.res

theorem AbsF.drew {w wr : World} {r : St} (h : AbsF w r wr) : AbsF w r wr.drew := ⟨⟨h.below.os, h.below.tape, h.below.output, h.below.size, h.below.block⟩, h.st, h.res, h.sz⟩

theorem AbsF.range {w wr : World} {r : St} (h : AbsF w r wr) : wr.rangeAt w.heap.size 0 [U32 r.a, U32 r.b, U32 r.c, U32 r.d, U32 r.e, U32 r.f, U32 r.g, U32 r.h] := by
  have := rangeAt_of_row h.st 0 8
  simpa [cellsS] using this

set_option maxRecDepth 20000 in
set_option maxHeartbeats 1000000 in
theorem absorb_any (s : St) (v : Value) (xs : List UInt8) (w : World) (hv : Bs w v xs) (hK : KT w) :
    Calls Tryd.prog 81 #[.agg #[U32 s.a, U32 s.b, U32 s.c, U32 s.d, U32 s.e, U32 s.f, U32 s.g, U32 s.h], v] w (StateRest w (absS s xs (xs.length / 64)) (xs.drop (64 * (xs.length / 64)))) := by
  obtain ⟨a, c, rfl, hc1, hc2⟩ := Sl.shape hv
  unfold maxLen at hc2
  have HV := Lib.hid hv; have HK := Lib.hid hK; clear hv hK
  have hF0 := absF_new w s
  have HF0 := Lib.hid hF0; clear hF0
  go_enter Tryd.func81, Tryd.ntmps81
  go_wp2
  go_loopw [1] (fun t wr => ∃ (k : Nat) (a' : Option Addr) (c' : Nat), 64 * k ≤ xs.length ∧ t = .slice a' (xs.length - 64 * k) c' ∧ Bs w (.slice a' (xs.length - 64 * k) c') (xs.drop (64 * k)) ∧ AbsF w (absS s xs k) wr)
    (fun t _ => match t with | .slice _ n _ => n | _ => 0)
  case atStart => exact ⟨0, a, c, by omega, rfl, by simpa using HV.out, HF0.out⟩
  case round =>
    obtain ⟨k, a', c', hk, rfl, hb, hF⟩ := hrel
    clear HF0
    by_cases hlt : 64 ≤ xs.length - 64 * k
    · have hlen : (xs.drop (64 * k)).length = xs.length - 64 * k := by simp
      have hbl : ((xs.drop (64 * k)).take 64).length = 64 := by simp; omega
      obtain ⟨b, off, rfl, hcc⟩ : ∃ b off, a' = some ⟨b, off, none⟩ ∧ xs.length - 64 * k ≤ c' := by
        rcases hb.cases with ⟨a0, ha, h0⟩ | ⟨b, off, cap, hv, h1, h2, hc⟩
        · rw [h0] at hlen; simp at hlen; omega
        · simp only [Value.slice.injEq] at hv
          obtain ⟨rfl, _, rfl⟩ := hv
          exact ⟨b, off, rfl, by omega⟩
      obtain ⟨a2, hif, hp⟩ := Sl.part (show Sl w 1 (.slice (some ⟨b, off, none⟩) (xs.length - 64 * k) c') (xs.length - 64 * k) ((xs.drop (64 * k)).map by8) by have := hb; unfold Bs at this; rwa [hlen] at this) 64 (xs.length - 64 * k - 64) (by omega)
      simp only [Nat.mul_one] at hif hp
      have hp2 : Bs w (.slice a2 (xs.length - 64 * (k + 1)) (c' - 64)) (xs.drop (64 * (k + 1))) := by
        have e1 : (xs.drop (64 * (k + 1))).length = xs.length - 64 * k - 64 := by simp; omega
        have e2 : ((xs.drop (64 * k)).map by8).drop 64 = (xs.drop (64 * (k + 1))).map by8 := by rw [← List.map_drop, List.drop_drop]; rfl
        have e3 : xs.length - 64 * (k + 1) = xs.length - 64 * k - 64 := by omega
        unfold Bs
        rw [e1, e3]
        rw [e2, List.take_of_length_le (by rw [List.length_map, e1]; exact Nat.le_refl _)] at hp
        exact hp
      have hr64 : wr.rangeAt b off (((xs.drop (64 * k)).take 64).map by8) := by
        rw [List.map_take]
        exact rangeAt_part (hb.below hF.below).range 64
      have hr8 := hF.range
      have hKr : KT wr.drew := HK.out.later (B := w.heap.size) hF.drew.below (Nat.le_refl _)
      have hi64 : (Tryd.prog.info? 131).map (·.size) = some (((xs.drop (64 * k)).take 64).map by8).length := by
        have h : (Tryd.prog.info? 131).map (·.size) = some 64 := by kernel_rfl
        rw [h, List.length_map, hbl]
      have hst : wr.heap[w.heap.size]? = some (.cells (cellsS (absS s xs k)) 115 (0, 0)) := hF.st
      have hsz := hF.sz
      have hcp := fun w1 (h : KT w1) => compressK (absS s xs k) ((xs.drop (64 * k)).take 64) w1 hbl h
      obtain ⟨r, hr⟩ : ∃ r, r = absS s xs k := ⟨_, rfl⟩
      obtain ⟨C, hC⟩ : ∃ C, C = ((xs.drop (64 * k)).take 64).map by8 := ⟨_, rfl⟩
      rw [← absS_succ, ← hr, ← hC] at hcp
      rw [← hr] at hr8 hst hF
      rw [← hC] at hr64 hi64
      have hl64 : 64 ≤ xs.length - 64 * k := hlt
      have har := fun w' => run_arrayAt (P := Tryd.prog) w' 131 5 64 (some ⟨b, off, none⟩) (xs.length - 64 * k) c' Tryd.underlying131 hl64
      have HCP := Lib.hid hcp; have HR8 := Lib.hid hr8; have HST := Lib.hid hst; have HF := Lib.hid hF; have HR64 := Lib.hid hr64; have HI64 := Lib.hid hi64; have HKR := Lib.hid hKr; have HP2 := Lib.hid hp2; clear hcp hr8 hst hF hr64 hi64 hKr hp2
      clear hr hC hb hp hlen hbl
      go_wp2_with fail
      refine wp_region_still_tail 4 (by kernel_rfl) (by kernel_rfl) ?_
      simp only [List.take_succ_cons, List.take_zero, List.drop_succ_cons, List.drop_zero]
      refine wpStill_load_mid rfl 115 (.tmp 2) rfl w.heap.size 0 rfl [U32 r.a, U32 r.b, U32 r.c, U32 r.d, U32 r.e, U32 r.f, U32 r.g, U32 r.h] _ HR8.out Tryd.underlying115 rfl (by kernel_rfl) ?_
      still_step
      still_step
      refine wpStill_load_mid rfl 131 (.tmp 11) rfl b off rfl C _ HR64.out Tryd.underlying131 rfl HI64.out ?_
      refine wpStill_nil ?_
      change wpList _ _ _ _ _ wr.drew
      simp only [Act.put, List.setIfInBounds_toArray, List.set_cons_zero, List.set_cons_succ]
      go_wp2_with (first | (go_at_call 85; (with_reducible refine (HCP.out _ HKR.out).mono ?_); rintro e w1 ⟨rfl, hb1⟩; have HB1 := Lib.hid hb1; clear hb1; unfold aggS) | ((with_reducible show wpList _ _ _ (⟨none, .store 115 (.tmp 2) (.tmp 13), _, _, _, _⟩ :: _) _ _); refine wpList_store_rowN rfl 115 (.tmp 2) (.tmp 13) rfl (w.heap.size) _ rfl rfl 115 _ ((HB1.out.block _ (by have := hsz; simp; omega)).trans HST.out) 8 (by kernel_rfl) rfl rfl (by simp [U32_one, one_slice, one_int, one_bool]) ?_) | fail)
      go_roundw
      case rel =>
        exact ⟨k + 1, a2, c' - 64, by omega, by congr 1, HP2.out, HF.out.drew.next HB1.out⟩
      case measure => simp; omega
    · have hkk : k = xs.length / 64 := by omega
      have HF := Lib.hid hF; have HB := Lib.hid hb; have HKK := Lib.hid hkk; clear hF hb hkk
      have hsz := HF.out.sz
      go_wp2_with (first | ((with_reducible show wpList _ _ _ (⟨some 16, _, _, _, _, _⟩ :: _) _ _); refine wpList_load_rowN rfl 115 (.tmp 2) rfl w.heap.size rfl 115 (cellsS (absS s xs k)) (0, 0) _ HF.out.st Tryd.underlying115 rfl 8 (by kernel_rfl) rfl ?_) | ((with_reducible show wpList _ _ _ (⟨none, .store 115 (.tmp 4) (.tmp 16), _, _, _, _⟩ :: _) _ _); refine wpList_store_rowN rfl 115 (.tmp 4) (.tmp 16) rfl (w.heap.size + 1) (cellsS (absS s xs k)) rfl rfl 115 _ HF.out.res 8 (by kernel_rfl) rfl rfl (by simp [cellsS, U32_one]) ?_))
      refine ret_row_tmp rfl (w.heap.size + 1) 115 (cellsS (absS s xs k)) (setRow_heap _ _ _ _ _ _ HF.out.res) _ Tryd.underlying115 8 (by kernel_rfl) rfl rfl rfl rfl ?_
      rw [← HKK.out]
      exact ⟨_, rfl, HB.out, below_row HF.out.below (by omega) _⟩
end Go.Proofs.YtioonimpobcglaaDoor
