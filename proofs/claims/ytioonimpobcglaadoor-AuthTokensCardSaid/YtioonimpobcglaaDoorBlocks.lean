/- The complete blocks of some bytes, compressed into a state: what dunnageref01.blocks returns, for bytes that lie anywhere; new memory alone. No condition. -/
import Derived.Test.YtioonimpobcglaaDoorAbsorb
set_option linter.unusedSimpArgs false
set_option linter.unusedVariables false
namespace Go.Proofs.YtioonimpobcglaaDoor
open Go.RowKit

/-- Bytes, and zeros behind them, as a block's cells. -/
def cellsB (bs : List UInt8) (n : Nat) : Array Value := ((bs ++ List.replicate (n - bs.length) 0).map by8).toArray

theorem cellsB_set (bs : List UInt8) (x : UInt8) (n : Nat) (h : bs.length < n) : (cellsB bs n).setIfInBounds bs.length (by8 x) = cellsB (bs ++ [x]) n := by
  apply Array.ext'
  simp only [cellsB, Array.toList_setIfInBounds, List.map_append, List.map_replicate, List.length_append, List.length_cons, List.length_nil]
  rw [List.set_append_right _ _ (by simp)]
  obtain ⟨m, hm⟩ : ∃ m, n - bs.length = m + 1 := ⟨n - bs.length - 1, by omega⟩
  have hm2 : n - (bs.length + 1) = m := by omega
  rw [List.length_map, Nat.sub_self, Nat.zero_add, hm, hm2]
  simp [List.replicate_succ]

theorem cellsB_any (bs : List UInt8) (n j : Nat) (h : j < n) (hb : bs.length ≤ n) : ∃ x, (cellsB bs n)[j]? = some x := ⟨_, Array.getElem?_eq_getElem (by simp [cellsB]; omega)⟩

theorem store_B {w : World} {g : Nat} {t : TypeId} {bs : List UInt8} {n : Nat} (h : w.heap[g]? = some (.cells (cellsB bs n) t (0, 0))) (x : UInt8) (hl : bs.length < n) (k : Nat) (hk : k = bs.length) :
    (w.setCell ⟨g, k, none⟩ (by8 x)).heap[g]? = some (.cells (cellsB (bs ++ [x]) n) t (0, 0)) := by
  subst hk
  rw [heap_setCell_same w g _ _ _ _ h, cellsB_set bs x n hl]

theorem take_succ8 (ys : List UInt8) (i : Nat) (hi : i < ys.length) : ys.take (i + 1) = ys.take i ++ [ys[i]] := List.take_succ_eq_append_getElem hi

theorem AbsF.mono {w wr wr' : World} {r : St} (h : AbsF w r wr) (hb : Below wr.heap.size wr wr') : AbsF w r wr' := by
  have := h.sz
  have := hb.size
  exact ⟨h.below.trans (hb.mono (by omega)), (hb.block _ (by omega)).trans h.st, (hb.block _ (by omega)).trans h.res, by omega⟩

theorem below_grown_new {w wr : World} {o : Obj} {g : Nat} (h : (w.alloc o).grownBy wr (some g)) (hg : g = w.heap.size) : Below w.heap.size w wr :=
  (below1 w o).grown h (by simp) (fun k hk => by simp at hk; omega)

set_option maxRecDepth 20000 in
set_option maxHeartbeats 2000000 in
theorem blocks_any (s : St) (v : Value) (xs : List UInt8) (w : World) (hv : Bs w v xs) :
    Calls Tryd.prog 88 #[.agg #[U32 s.a, U32 s.b, U32 s.c, U32 s.d, U32 s.e, U32 s.f, U32 s.g, U32 s.h], v] w (StateRest w (absS s xs (xs.length / 64)) (xs.drop (64 * (xs.length / 64)))) := by
  obtain ⟨a, c, rfl, hc1, hc2⟩ := Sl.shape hv
  unfold maxLen at hc2
  have HV := Lib.hid hv; clear hv
  have hF0 := absF_new w s
  have HF0 := Lib.hid hF0; clear hF0
  go_enter Tryd.func88, Tryd.ntmps88
  go_wp2
  go_loopw [1] (fun t wr => ∃ (k : Nat) (a' : Option Addr) (c' : Nat), 64 * k ≤ xs.length ∧ t = .slice a' (xs.length - 64 * k) c' ∧ Bs w (.slice a' (xs.length - 64 * k) c') (xs.drop (64 * k)) ∧ AbsF w (absS s xs k) wr)
    (fun t _ => match t with | .slice _ n _ => n | _ => 0)
  case atStart => exact ⟨0, a, c, by omega, rfl, by simpa using HV.out, HF0.out⟩
  case round =>
    obtain ⟨k, a', c', hk, rfl, hb, hF⟩ := hrel
    clear HF0
    by_cases hlt : 64 ≤ xs.length - 64 * k
    · have hlen : (xs.drop (64 * k)).length = xs.length - 64 * k := by simp
      have hbl : ((xs.drop (64 * k)).take 64).length = 64 := by simp; omega
      obtain ⟨b, off, rfl, hcc⟩ : ∃ b off, a' = some ⟨b, off, none⟩ ∧ xs.length - 64 * k ≤ c' := by
        rcases hb.cases with ⟨a0, ha, h0⟩ | ⟨b, off, cap, hv, h1, h2, hc⟩
        · rw [h0] at hlen; simp at hlen; omega
        · simp only [Value.slice.injEq] at hv
          obtain ⟨rfl, _, rfl⟩ := hv
          exact ⟨b, off, rfl, by omega⟩
      obtain ⟨a2, hif, hp⟩ := Sl.part (show Sl w 1 (.slice (some ⟨b, off, none⟩) (xs.length - 64 * k) c') (xs.length - 64 * k) ((xs.drop (64 * k)).map by8) by have := hb; unfold Bs at this; rwa [hlen] at this) 64 (xs.length - 64 * k - 64) (by omega)
      simp only [Nat.mul_one] at hif hp
      have hp2 : Bs w (.slice a2 (xs.length - 64 * (k + 1)) (c' - 64)) (xs.drop (64 * (k + 1))) := by
        have e1 : (xs.drop (64 * (k + 1))).length = xs.length - 64 * k - 64 := by simp; omega
        have e2 : ((xs.drop (64 * k)).map by8).drop 64 = (xs.drop (64 * (k + 1))).map by8 := by rw [← List.map_drop, List.drop_drop]; rfl
        have e3 : xs.length - 64 * (k + 1) = xs.length - 64 * k - 64 := by omega
        unfold Bs
        rw [e1, e3]
        rw [e2, List.take_of_length_le (by rw [List.length_map, e1]; exact Nat.le_refl _)] at hp
        exact hp
      have hr64 : wr.rangeAt b off (((xs.drop (64 * k)).take 64).map by8) := by
        rw [List.map_take]
        exact rangeAt_part (hb.below hF.below).range 64
      have hbb : b < wr.heap.size := World.block_lt_of_cell? wr _ (hr64 0 (by8 (((xs.drop (64 * k)).take 64)[0]'(by omega))) (by rw [List.getElem?_map, List.getElem?_eq_getElem (by omega)]; rfl))
      obtain ⟨C, hC⟩ : ∃ C, C = (xs.drop (64 * k)).take 64 := ⟨_, rfl⟩
      have hcp := fun w1 => refCompress_any (absS s xs k) C w1 (by rw [hC]; exact hbl)
      obtain ⟨r, hr⟩ : ∃ r, r = absS s xs k := ⟨_, rfl⟩
      rw [hC, ← absS_succ, ← hC, ← hr] at hcp
      rw [← hr] at hF
      rw [← hC] at hr64 hbl
      have hl64 : 64 ≤ xs.length - 64 * k := hlt
      have hsz := hF.sz
      have hi64 : (Tryd.prog.info? 131).map (·.size) = some (C.map by8).length := by
        have h : (Tryd.prog.info? 131).map (·.size) = some 64 := by kernel_rfl
        rw [h, List.length_map, hbl]
      have HCP := Lib.hid hcp; have HF := Lib.hid hF; have HR64 := Lib.hid hr64; have HP2 := Lib.hid hp2; have HBL := Lib.hid hbl; have HI64 := Lib.hid hi64; clear hcp hF hr64 hp2 hbl hi64
      clear hr hC hb hp hlen
      obtain ⟨wo, hwo⟩ : ∃ wo, wo = wr := ⟨_, rfl⟩
      rw [← hwo] at HF HR64 hsz hbb ⊢
      clear hwo
      have hZ : cellsB [] 64 = (cellsB [] 64) := rfl
      go_wp2_with fail
      go_loopw [7] (fun t wq => ∃ i : Nat, i ≤ 64 ∧ t = .int .i64 (i : Int) ∧ wq.heap[wo.heap.size]? = some (.cells (cellsB (C.take i) 64) 131 (0, 0)) ∧ (wo.alloc (.cells (cellsB [] 64) 131)).grownBy wq (some wo.heap.size)) (fun t _ => 64 - (intOf t).toNat)
      case atStart => exact ⟨0, by omega, rfl, heap_new wo (cellsB [] 64) 131, World.grownBy.refl _ _⟩
      case round =>
        obtain ⟨i, hi, rfl, hh, hg⟩ := hrel
        by_cases hi64 : i < 64
        · have hCi : (C.take i).length = i := by have := HBL.out; simp; omega
          have hx : i < C.length := by have := HBL.out; omega
          have hci : wr.cell? ⟨b, off + i, none⟩ = some (by8 C[i]) := by
            have h1 := HR64.out i (by8 C[i]) (by simp [List.getElem?_map, hx])
            have h2 : (wo.alloc (.cells (cellsB [] 64) 131)).cell? ⟨b, off + i, none⟩ = some (by8 C[i]) := ((below1 wo _).cell (by exact hbb)).trans h1
            exact hg.cell h2 (by simp; omega)
          have hfr := frozen_row hh i
          obtain ⟨old, hold⟩ := cellsB_any (C.take i) 64 i hi64 (by omega)
          have hco : wr.cell? ⟨wo.heap.size, i, none⟩ = some old := (cell_row hh i).trans hold
          have hst := store_B hh C[i] (by omega) i hCi.symm
          have hgs := grown_set hg i (by8 C[i])
          rw [← take_succ8 C i hx] at hst
          obtain ⟨y, hy⟩ : ∃ y, y = C[i] := ⟨_, rfl⟩
          rw [← hy] at hci hst hgs
          have l0 : (i : Int) < 64 := by omega
          have l1 : i < xs.length - 64 * k := by omega
          have HST := Lib.hid hst; have HGS := Lib.hid hgs; clear hst hgs
          clear hold hCi hh hg hy hx
          go_wp2_with fail
          go_roundw
          case rel => exact ⟨i + 1, by omega, by go_num, HST.out, HGS.out⟩
          case measure => simp [intOf]; omega
        · obtain rfl : i = 64 := by omega
          have hCt : C.take 64 = C := List.take_of_length_le (by rw [HBL.out]; exact Nat.le_refl _)
          rw [hCt] at hh
          have hCz : cellsB C 64 = (C.map by8).toArray := by unfold cellsB; rw [HBL.out]; simp
          rw [hCz] at hh
          have hbw := below_grown_new hg rfl
          have hF2 := HF.out.mono hbw
          have hF := hF2
          have hr8 := hF2.range
          have hst := hF2.st
          have hszr := hF2.sz
          have hr64b := rangeAt_of_row hh 0 64
          have HBW := Lib.hid hbw; have HF := Lib.hid hF; have HST := Lib.hid hst; have HH := Lib.hid hh; clear hbw hF hst hh
          clear hF2 hg hCt hCz hr8 hr64b
          go_wp2_with (first | ((with_reducible show wpList _ _ _ (⟨some 21, _, _, _, _, _⟩ :: _) _ _); refine wpList_load_rowN rfl 115 (.tmp 2) rfl w.heap.size rfl 115 #[U32 r.a, U32 r.b, U32 r.c, U32 r.d, U32 r.e, U32 r.f, U32 r.g, U32 r.h] (0, 0) _ HST.out Tryd.underlying115 rfl 8 (by kernel_rfl) rfl ?_) | ((with_reducible show wpList _ _ _ (⟨some 22, _, _, _, _, _⟩ :: _) _ _); refine wpList_load_rowN rfl 131 (.tmp 6) rfl wo.heap.size rfl 131 (C.map by8).toArray (0, 0) _ HH.out Tryd.underlying131 rfl 64 (by kernel_rfl) (by simp [HBL.out]) ?_) | (go_at_call 90; (with_reducible refine (HCP.out _).mono ?_); rintro e w1 ⟨rfl, hb1⟩; have HB1 := Lib.hid hb1; clear hb1; unfold aggS) | ((with_reducible show wpList _ _ _ (⟨none, .store 115 (.tmp 2) (.tmp 23), _, _, _, _⟩ :: _) _ _); refine wpList_store_rowN rfl 115 (.tmp 2) (.tmp 23) rfl (w.heap.size) _ rfl rfl 115 _ ((HB1.out.block _ (by omega)).trans HST.out) 8 (by kernel_rfl) rfl rfl (by simp [U32_one, one_slice, one_int, one_bool]) ?_) | fail)
          go_roundw
          case rel => exact ⟨k + 1, a2, c' - 64, by omega, by congr 1, HP2.out, HF.out.next HB1.out⟩
          case measure => simp; omega
    · have hkk : k = xs.length / 64 := by omega
      have HF := Lib.hid hF; have HB := Lib.hid hb; have HKK := Lib.hid hkk; clear hF hb hkk
      have hsz := HF.out.sz
      go_wp2_with (first | ((with_reducible show wpList _ _ _ (⟨some 26, _, _, _, _, _⟩ :: _) _ _); refine wpList_load_rowN rfl 115 (.tmp 2) rfl w.heap.size rfl 115 (cellsS (absS s xs k)) (0, 0) _ HF.out.st Tryd.underlying115 rfl 8 (by kernel_rfl) rfl ?_) | ((with_reducible show wpList _ _ _ (⟨none, .store 115 (.tmp 4) (.tmp 26), _, _, _, _⟩ :: _) _ _); refine wpList_store_rowN rfl 115 (.tmp 4) (.tmp 26) rfl (w.heap.size + 1) (cellsS (absS s xs k)) rfl rfl 115 _ HF.out.res 8 (by kernel_rfl) rfl rfl (by simp [cellsS, U32_one]) ?_))
      refine ret_row_tmp rfl (w.heap.size + 1) 115 (cellsS (absS s xs k)) (setRow_heap _ _ _ _ _ _ HF.out.res) _ Tryd.underlying115 8 (by kernel_rfl) rfl rfl rfl rfl ?_
      rw [← HKK.out]
      exact ⟨_, rfl, HB.out, below_row HF.out.below (by omega) _⟩
end Go.Proofs.YtioonimpobcglaaDoor
