/- The digest of a state, of bytes that are not yet compressed, and of the number of all bytes: what dunnageref01.finish returns, and dunnageref01.Finish of a hash; new memory alone. -/
import Derived.Test.YtioonimpobcglaaDoorFinish
import Derived.Test.YtioonimpobcglaaDoorRefWrite
set_option linter.unusedSimpArgs false
set_option linter.unusedVariables false
namespace Go.Proofs.YtioonimpobcglaaDoor
open Go.RowKit

theorem outS_get (r : St) (k : Nat) (hk : k < 32) : ∃ h : k < (outS r).length, (numB (r.list.getD (k / 4) 0).toNat 4)[k % 4]? = some ((outS r)[k]'h) := by
  refine ⟨by rw [outS_length]; exact hk, ?_⟩
  have : ∀ (l : List UInt32) (k : Nat), k < 4 * l.length → (outW (l.getD (k / 4) 0))[k % 4]? = (l.flatMap outW)[k]? := by
    intro l
    induction l with
    | nil => intro k hk; simp at hk
    | cons x l ih =>
      intro k hk
      have hx : (outW x).length = 4 := rfl
      by_cases h4 : k < 4
      · rw [List.flatMap_cons, List.getElem?_append_left (by rw [hx]; exact h4), Nat.div_eq_of_lt h4, Nat.mod_eq_of_lt h4]
        rfl
      · rw [List.flatMap_cons, List.getElem?_append_right (by rw [hx]; omega), hx]
        have := ih (k - 4) (by simp at hk; omega)
        rw [← this]
        have e1 : k / 4 = (k - 4) / 4 + 1 := by omega
        have e2 : k % 4 = (k - 4) % 4 := by omega
        rw [e1, e2, List.getD_cons_succ]
  rw [outW_numB, this r.list k (by simp [St.list]; omega)]
  exact List.getElem?_eq_getElem _

theorem num_cell {w : World} {base e : Nat} {v : Value} {ys : List UInt8} {n j : Nat} {y : UInt8} (h : w.ownsRow base e 1 v ys.length (ys.map by8)) (hl : ys.length = n) (hget : ys[j]? = some y) (hj : j < n) :
    ∃ g c, v = .slice (some ⟨g, 0, none⟩) n c ∧ n ≤ c ∧ w.cell? ⟨g, j, none⟩ = some (by8 y) := by
  subst hl
  obtain ⟨g, c, rfl, hc⟩ := some_slice h (by omega)
  exact ⟨g, c, rfl, hc, (h.cellAt j (by omega)).trans (by rw [List.getElem?_map, hget]; rfl)⟩

set_option maxRecDepth 20000 in
set_option maxHeartbeats 2000000 in
theorem refFinish_any (s : St) (v : Value) (xs : List UInt8) (n : Nat) (w : World) (hv : Bs w v xs) (hl : xs.length ≤ 1000000) (hn : n ≤ 1000000) :
    Calls Tryd.prog 83 #[.agg #[U32 s.a, U32 s.b, U32 s.c, U32 s.d, U32 s.e, U32 s.f, U32 s.g, U32 s.h], v, .int .u64 (n : Int)] w fun e w' =>
      e = .returned (.agg ((finD s xs n).map by8).toArray) ∧ Below w.heap.size w w' := by
  obtain ⟨a2, c2, rfl, k3, k4⟩ := Sl.shape hv
  unfold maxLen at k4
  have HV := Lib.hid hv; clear hv
  obtain ⟨zs, hzs⟩ : ∃ zs, zs = lastB xs n := ⟨_, rfl⟩
  obtain ⟨r, hr⟩ : ∃ r, r = absS s zs (zs.length / 64) := ⟨_, rfl⟩
  obtain ⟨tl, htl2⟩ : ∃ tl, tl = zs.drop (64 * (zs.length / 64)) := ⟨_, rfl⟩
  have hab := fun v2 w1 h1 => blocks_any s v2 zs w1 h1
  have hpl : (padB n).length ≤ 80 := by rw [padB_eq]; simp [numB_length]; omega
  obtain ⟨pd, hpd⟩ : ∃ pd, pd = padB n := ⟨_, rfl⟩
  have hpad := fun w1 => pad_any n w1 (by omega)
  have hD : finD s xs n = outS r := by rw [finD, ← hzs, hr]
  rw [← hr, ← htl2] at hab
  rw [← hpd] at hpad hpl
  rw [hD]
  have hzp : zs = xs ++ pd := by rw [hzs, lastB, hpd]
  have HAB := Lib.hid hab; have HZP := Lib.hid hzp; have HPAD := Lib.hid hpad; clear hab hzp hpad
  clear hzs hr htl2 hpd hD
  have hnum : ∀ (x : UInt32) (w1 : World), Calls Tryd.prog 70 #[.int .u64 (x.toNat : Int), .int .i64 4] w1 (Fresh w1 (numB x.toNat 4)) := fun x w1 => number_any x.toNat 4 w1 (by have := u32_lt x; omega) (by omega)
  have hcv : ∀ (x : UInt32) (w' : World), (convert 24 23 (U32 x)).run Tryd.prog w' = .ok (.int .u64 (x.toNat : Int)) w' := fun x w' => by
    have hx := u32_lt x
    unfold U32
    have h := run_convert_int (P := Tryd.prog) w' 24 23 .u32 (x.toNat : Int) (by kernel_rfl) (by kernel_rfl)
    rw [show Tryd.prog.intKind 23 = .u64 by kernel_rfl, IntKind.wrap_u64] at h
    rw [h]
    congr 2
    omega
  have hown0 : (((w.alloc (.cells (cellsS s) 115)).alloc (.cells ((List.replicate 32 (0 : UInt8)).map by8).toArray 25)).alloc (.cells #[] 5)).ownsRow (w.heap.size + 2) 5 1 (.slice (some ⟨w.heap.size + 1 + 1, 0, none⟩) 0 0) 0 [] := by
    have := empty_ownB ((w.alloc (.cells (cellsS s) 115)).alloc (.cells ((List.replicate 32 (0 : UInt8)).map by8).toArray 25))
    rw [size_two] at this
    exact this
  have HNUM := Lib.hid hnum; have HCV := Lib.hid hcv; have HOWN0 := Lib.hid hown0; clear hnum hcv hown0
  go_enter Tryd.func83, Tryd.ntmps83
  go_wp2_with (at_builtin; refine wpList_append_grew _ rfl (.tmp 10) (.tmp 11) 22 rfl (w.heap.size + 2) 5 (.int .u8 0) 1 1 Tryd.underlying22 Tryd.infoB rfl (by decide) _ _ _ rfl HOWN0.out _ _ _ rfl (HV.out.below (below3 _ _ _ _)) (oneCell_u8 _) ?c1 ?c2 ?c3 ?_)
  case c1 => unfold maxLen; omega
  case c2 => omega
  case c3 => simp
  intro v1 w1 hown1 hgrow1
  have hbw := hgrow1.belowOwn HOWN0.out (Nat.le_refl _) (by simp)
  have hH1 : w1.heap[w.heap.size]? = some (.cells (cellsS s) 115 (0, 0)) := (hbw.block _ (by omega)).trans (heap_three0 _ _ _ _)
  have hH2 : w1.heap[w.heap.size + 1]? = some (.cells ((List.replicate 32 (0 : UInt8)).map by8).toArray 25 (0, 0)) := (hbw.block _ (by omega)).trans (heap_three1 _ _ _ _)
  have hb01 : Below w.heap.size w w1 := (below3 _ _ _ _).trans (hbw.mono (by omega))
  have hs1 : w.heap.size + 2 ≤ w1.heap.size := by have := hbw.size; simp at this; omega
  have ho1 := own_eq (n' := xs.length) (xs' := xs.map by8) hown1 (by omega) (by simp)
  have HH1 := Lib.hid hH1; have HH2 := Lib.hid hH2; have HB01 := Lib.hid hb01; have HO1 := Lib.hid ho1; clear hH1 hH2 hb01 ho1
  clear hown1 hgrow1 hbw HOWN0
  go_wp2_with (first | (go_at_call 87; (with_reducible refine (HPAD.out _).mono ?_); rintro e w2 ⟨v2, rfl, ho2, hb2⟩; have HO2 := Lib.hid ho2; have HB2 := Lib.hid hb2; clear ho2 hb2) | (at_builtin; refine wpList_append_grew _ rfl (.tmp 13) (.tmp 15) 22 rfl (w.heap.size + 2) 5 (.int .u8 0) 1 1 Tryd.underlying22 Tryd.infoB rfl (by decide) _ _ _ rfl (own_later HO1.out HB2.out) _ _ _ rfl (Bs.of_own HO2.out rfl) (oneCell_u8 _) ?d1 ?d2 ?d3 ?_) | fail)
  case d1 => unfold maxLen; omega
  case d2 => omega
  case d3 => exact Nat.le_trans hs1 HB2.out.size
  intro v3 w3 hown3 hgrow3
  have hb13 : Below (w.heap.size + 2) w1 w3 := (HB2.out.mono hs1).trans (hgrow3.belowOwn (own_later HO1.out HB2.out) (Nat.le_refl _) (Nat.le_trans hs1 HB2.out.size))
  have hb03 : Below w.heap.size w w3 := HB01.out.trans (hb13.mono (by omega))
  have hs3 : Bs w3 v3 zs := by
    rw [HZP.out]
    exact Bs.of_own (own_eq hown3 rfl (by simp)) (by simp)
  have hsz3 := hb13.size
  have hI1 : w3.heap[w.heap.size]? = some (.cells (cellsS s) 115 (0, 0)) := (hb13.block _ (by omega)).trans HH1.out
  have hI2 : w3.heap[w.heap.size + 1]? = some (.cells ((List.replicate 32 (0 : UInt8)).map by8).toArray 25 (0, 0)) := (hb13.block _ (by omega)).trans HH2.out
  obtain ⟨q0, q1, q2, q3, q4, q5, q6, q7⟩ := cells_of hI1
  have HB03 := Lib.hid hb03; have HS3 := Lib.hid hs3; have HI1 := Lib.hid hI1; have HI2 := Lib.hid hI2; clear hb03 hs3 hI1 hI2
  clear hb13 hown3 hgrow3 HH1 HH2 HB2 HO2 HB01 HO1
  go_wp2_with (first | (go_at_call 88; (with_reducible refine (HAB.out _ _ HS3.out).mono ?_); rintro e w4 ⟨v4, rfl, hs4, hb4⟩; have HS4 := Lib.hid hs4; have HB4 := Lib.hid hb4; clear hs4 hb4; unfold aggS) | ((with_reducible show wpList _ _ _ (⟨none, .store 115 (.tmp 3) (.tmp 21), _, _, _, _⟩ :: _) _ _); refine wpList_store_rowN rfl 115 (.tmp 3) (.tmp 21) rfl (w.heap.size) _ rfl rfl 115 _ (heap_later HB4.out (heap_lt HI1.out) HI1.out) 8 (by kernel_rfl) rfl rfl (by simp [U32_one, one_slice, one_int, one_bool]) ?_) | fail)
  have hsz4 := HB4.out.size
  have hJ1 : (w4.setRow w.heap.size (cellsS r)).heap[w.heap.size]? = some (.cells (cellsS r) 115 (0, 0)) := setRow_heap _ _ _ _ _ _ (heap_later HB4.out (heap_lt HI1.out) HI1.out)
  have hJ2 : (w4.setRow w.heap.size (cellsS r)).heap[w.heap.size + 1]? = some (.cells ((List.replicate 32 (0 : UInt8)).map by8).toArray 25 (0, 0)) := (setRow_other _ _ _ _ (by omega)).trans (heap_later HB4.out (heap_lt HI2.out) HI2.out)
  have hb05 : Below w.heap.size w (w4.setRow w.heap.size (cellsS r)) := below_row (HB03.out.trans (HB4.out.mono (by omega))) (Nat.le_refl _) _
  have hs5 : (w4.setRow w.heap.size (cellsS r)).heap.size = w4.heap.size := by simp
  obtain ⟨w5, hw5⟩ : ∃ w5, w5 = w4.setRow w.heap.size (cellsS r) := ⟨_, rfl⟩
  change Code.wp _ _ _ _ ((w4.setRow w.heap.size (cellsS r)).alloc (.cells (cellsB [] 32) 25))
  rw [← hw5] at hJ1 hJ2 hb05 hs5 ⊢
  have hsz5 : w.heap.size + 2 ≤ w5.heap.size := by omega
  have HJ1 := Lib.hid hJ1; have HJ2 := Lib.hid hJ2; have HB05 := Lib.hid hb05; clear hJ1 hJ2 hb05
  clear hw5 q0 q1 q2 q3 q4 q5 q6 q7 HB4 HI1 HI2 HB03 HS3 HS4 hsz4 hsz3
  have hB8 : w4.heap.size = w5.heap.size := by omega
  rw [hB8]
  clear hB8 hs5
  go_loopw [9] (fun t wr => ∃ k : Nat, k ≤ 32 ∧ t = .int .i64 (k : Int) ∧ wr.heap[w5.heap.size]? = some (.cells (cellsB ((outS r).take k) 32) 25 (0, 0)) ∧ Below w5.heap.size w5 wr) (fun t _ => 32 - (intOf t).toNat)
  case atStart => exact ⟨0, by omega, rfl, heap_new w5 (cellsB [] 32) 25, below1 _ _⟩
  case round =>
    obtain ⟨k, hk, rfl, hh, hb⟩ := hrel
    have hsz := heap_lt hh
    by_cases hlt : k < 32
    · obtain ⟨hko, hget⟩ := outS_get r k hlt
      have hc := (cell_row (heap_later hb (heap_lt HJ1.out) HJ1.out) (k / 4)).trans (cellsS_get r (k / 4) (by omega))
      have hnx := HNUM.out (r.list.getD (k / 4) 0)
      have hcx := HCV.out (r.list.getD (k / 4) 0)
      have hnl : (numB (r.list.getD (k / 4) 0).toNat 4).length = 4 := numB_length _ _
      obtain ⟨ys, hys⟩ : ∃ ys, ys = numB (r.list.getD (k / 4) 0).toNat 4 := ⟨_, rfl⟩
      rw [← hys] at hnx hnl hget
      obtain ⟨x, hx⟩ : ∃ x, x = r.list.getD (k / 4) 0 := ⟨_, rfl⟩
      rw [← hx] at hc hnx hcx
      obtain ⟨y, hy⟩ : ∃ y, y = (outS r)[k] := ⟨_, rfl⟩
      rw [← hy] at hget
      have hl : ((outS r).take k).length = k := by simp; omega
      have l0 : (k : Int) < 32 := by omega
      have d0 : (k : Int) / 4 < 8 := by omega
      have d1 : 0 ≤ (k : Int) / 4 := by omega
      have d2 : ((k : Int) / 4).toNat = k / 4 := by omega
      have m0 : (k : Int) % 4 < 4 := by omega
      have m1 : 0 ≤ (k : Int) % 4 := by omega
      have m2 : ((k : Int) % 4).toNat = k % 4 := by omega
      have htk := take_succ8 (outS r) k hko
      rw [← hy] at htk
      have HNX := Lib.hid hnx; have HNL := Lib.hid hnl; have HGET := Lib.hid hget; have HH := Lib.hid hh; have HB := Lib.hid hb; have HL := Lib.hid hl; have HTK := Lib.hid htk; clear hnx hnl hget hh hb hl htk
      clear hys hx hy
      go_wp2_with fail
      (with_reducible refine (HNX.out _).mono ?_)
      rintro e w6 ⟨v6, rfl, ho6, hb6⟩
      obtain ⟨g6, c6, rfl, hc6, hc7⟩ := num_cell ho6 HNL.out HGET.out (by omega)
      have hh6 := heap_later hb6 hsz HH.out
      obtain ⟨o8, ho8⟩ := cellsB_any ((outS r).take k) 32 k hlt (by rw [HL.out]; omega)
      have hc9 := (cell_row hh6 k).trans ho8
      have hf9 := frozen_row hh6 k
      have hz6 := hb6.size
      have HH6 := Lib.hid hh6; have HB6 := Lib.hid hb6; clear hh6 hb6
      clear ho6 ho8
      go_wp2
      go_roundw
      case rel =>
        have hst := store_B HH6.out y (by rw [HL.out]; exact hlt) k HL.out.symm
        rw [← HTK.out] at hst
        exact ⟨k + 1, by omega, by go_num, hst, (HB.out.trans (HB6.out.mono (by omega))).setCell (Nat.le_refl _) _⟩
      case measure => simp [intOf]; omega
    · obtain rfl : k = 32 := by omega
      have ht : (outS r).take 32 = outS r := List.take_of_length_le (by rw [outS_length]; exact Nat.le_refl _)
      have hcz : cellsB ((outS r).take 32) 32 = ((outS r).map by8).toArray := by rw [ht]; unfold cellsB; rw [outS_length]; simp
      rw [hcz] at hh
      have hbf : Below w.heap.size w wr := HB05.out.trans (hb.mono (by omega))
      have hj2 := heap_later hb (heap_lt HJ2.out) HJ2.out
      obtain ⟨D, hD⟩ : ∃ D, D = ((outS r).map by8).toArray := ⟨_, rfl⟩
      have hDs : D.size = 32 := by rw [hD]; simp [outS_length]
      have hD1 : D.all (·.oneCell') = true := by rw [hD]; exact all_by8 _
      rw [← hD] at hh
      have HH := Lib.hid hh; have HBF := Lib.hid hbf; have HJ2 := Lib.hid hj2; have HDS := Lib.hid hDs; have HD1 := Lib.hid hD1; have HD := Lib.hid hD; have HB := Lib.hid hb; clear hh hbf hj2 hDs hD1 hD hb
      clear ht hcz
      go_wp2_with (first | ((with_reducible show wpList _ _ _ (⟨some 39, _, _, _, _, _⟩ :: _) _ _); refine wpList_load_rowN rfl 25 (.tmp 8) rfl w5.heap.size rfl 25 D (0, 0) _ HH.out Tryd.underlying25 rfl 32 (by kernel_rfl) HDS.out ?_) | ((with_reducible show wpList _ _ _ (⟨none, .store 25 (.tmp 6) (.tmp 39), _, _, _, _⟩ :: _) _ _); refine wpList_store_rowN rfl 25 (.tmp 6) (.tmp 39) rfl (w.heap.size + 1) D rfl rfl 25 _ HJ2.out 32 (by kernel_rfl) HDS.out (by simp) HD1.out ?_) | fail)
      refine ret_row rfl (w.heap.size + 1) 25 _ (setRow_heap _ _ _ _ _ _ HJ2.out) _ Tryd.underlying25 32 (by kernel_rfl) HDS.out rfl rfl rfl ?_
      exact ⟨by rw [HD.out], below_row HBF.out (by omega) _⟩
end Go.Proofs.YtioonimpobcglaaDoor
