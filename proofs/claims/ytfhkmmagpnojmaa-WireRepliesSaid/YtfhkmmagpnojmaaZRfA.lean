/- The reference's at and link: numbers and bytes at an index. No condition but the reach. -/
import Derived.Test.YtfhkmmagpnojmaaZBd
import Derived.Test.YtfhkmmagpnojmaaZRefQ
import Derived.Test.YtfhkmmagpnojmaaZBg
set_option linter.unusedSimpArgs false
set_option linter.unusedVariables false
namespace Go.Proofs.Ytfhkmmagpnojmaa
open Go.RowKit

set_option maxRecDepth 100000 in
set_option maxHeartbeats 4000000 in
theorem refAt_s (bv : Value) (b : List UInt8) (i n : Nat) (ii ni : Int) (hii : ii = (i : Int)) (hni : ni = (n : Int)) (w0 : World) (hb : Bs w0 bv b) (hl : b.length ≤ 140737488355328) (hi : i ≤ 100000) (hn : n ≤ 8) :
    Calls Try.prog 49 #[bv, .int .i64 ii, .int .i64 ni] w0 fun e w' => e = .returned (.int .u64 (atB b i n : Int)) ∧ Has w0 w' [] := by
  subst hii
  subst hni
  have S := Has.start w0
  obtain ⟨a0, c0, rfl, k1, k2⟩ := Sl.shape hb
  unfold maxLen at k2
  have hA : atB b i n = if i + n ≤ b.length then val ((b.drop i).take n) else 0 := rfl
  by_cases h : i + n ≤ b.length
  · rw [if_pos h] at hA
    rw [hA]
    have pv := fun v w h => valRef_s v ((b.drop i).take n) w h (by simp; omega)
    have hb2 := hb.cut i n h rfl
    have i1 : ¬ ((b.length : Int) < (i : Int) + (n : Int)) := by omega
    have hic : i + n ≤ c0 := by omega
    obtain ⟨V, hV⟩ : ∃ V, V = val ((b.drop i).take n) := ⟨_, rfl⟩
    rw [← hV] at pv ⊢
    have PV := Lib.hid pv; have HB2 := Lib.hid hb2; clear pv hb2
    clear hA hV hb
    go_enter Try.func49, Try.ntmps49
    go_wp2_with (first | ((with_reducible refine iD 18 (.slice 22 (.tmp 13) _ _ _) ?_); refine step_cutLH 22 5 1 (.tmp 13) (.tmp 14) (.tmp 17) a0 b.length c0 _ _ _ _ i (i + n) rfl rfl rfl rfl (by omega) (by omega) hic Try.underlying22 kR gw ?_) | (go_at_call 39; (with_reducible refine (PV.out _ _ (S.oldB HB2.out)).mono ?_); rintro e w1 ⟨rfl, T⟩; replace S := S.call T; clear T; (try simp only [z4, z5] at S)) | fail)
    go_ret
    exact ⟨rfl, S.nil⟩
  · rw [if_neg h] at hA
    rw [hA]
    have i1 : (b.length : Int) < (i : Int) + (n : Int) := by omega
    have HB := Lib.hid hb; clear hb
    clear hA
    go_enter Try.func49, Try.ntmps49
    go_wp2_with (first | ((with_reducible refine iO _ (.slice 22 _ _ _ _) ?_); refine step_cutLH 22 5 1 _ _ _ _ _ _ _ _ _ _ _ _ rfl rfl rfl (by first | rfl | omega) (by first | rfl | omega) (by first | (first | omega | assumption | (exact Hid.out (by assumption)) | (simp only [List.length_append, List.length_cons, List.length_nil]; omega)) | decide) (by first | (first | omega | assumption | (exact Hid.out (by assumption)) | (simp only [List.length_append, List.length_cons, List.length_nil]; omega)) | decide) Try.underlying22 kR rfl ?_) | fail)
    go_ret
    exact ⟨rfl, S.nil⟩
/-- The link that is read, byte by byte. -/
def lkC (b : List UInt8) (i k : Nat) : List UInt8 := (b.drop i).take k ++ List.replicate (32 - k) 0
theorem lkC_zero (b : List UInt8) (i : Nat) : lkC b i 0 = List.replicate 32 0 := by simp [lkC]
theorem lkC_all (b : List UInt8) (i : Nat) : lkC b i 32 = (b.drop i).take 32 := by simp [lkC]
theorem lkC_length (b : List UInt8) (i k : Nat) (h : i + 32 ≤ b.length) (hk : k ≤ 32) : (lkC b i k).length = 32 := by simp [lkC]; omega
theorem arr8_set (xs : List UInt8) (k : Nat) (x : UInt8) : (arr8 xs).setIfInBounds k (by8 x) = arr8 (xs.set k x) := by
  unfold arr8
  rw [List.setIfInBounds_toArray, List.map_set]
theorem lkC_set (b : List UInt8) (i k : Nat) (x : UInt8) (hx : b[i + k]? = some x) (hk : k < 32) (h : i + 32 ≤ b.length) : (arr8 (lkC b i k)).setIfInBounds k (by8 x) = arr8 (lkC b i (k + 1)) := by
  rw [arr8_set]
  congr 1
  unfold lkC
  have h1 : ((b.drop i).take k).length = k := by simp; omega
  rw [List.set_append_right _ _ (by omega), h1, Nat.sub_self, show 32 - k = (32 - (k + 1)) + 1 by omega, List.replicate_succ, List.set_cons_zero, List.take_add_one, List.getElem?_drop, hx]
  simp
set_option maxRecDepth 100000 in
set_option maxHeartbeats 4000000 in
theorem refLink_b (bv : Value) (b : List UInt8) (i : Nat) (ii : Int) (hii : ii = (i : Int)) (w0 : World) (hb : Bs w0 bv b) (hl : b.length ≤ 140737488355328) (hi : i ≤ 100000) :
    Calls Try.prog 50 #[bv, .int .i64 ii] w0 fun e w' => e = .returned (.agg (arr8 (lkB b i))) ∧ Has w0 w' [] := by
  subst hii
  have S := Has.start w0
  obtain ⟨a0, c0, rfl, k1, k2⟩ := Sl.shape hb
  unfold maxLen at k2
  by_cases h : i + 32 ≤ b.length
  · rw [show lkB b i = lkC b i 32 by rw [lkC_all]; exact if_pos h]
    have i1 : (i : Int) + 32 ≤ (b.length : Int) := by omega
    obtain ⟨bk, off, rfl, _⟩ := hb.atA (by omega)
    have hcell := fun k => hb.cell rfl (i + k)
    have hlen := fun k hk => lkC_length b i k h hk
    have hset := fun k x hx hk => lkC_set b i k x hx hk h
    have HB := Lib.hid hb; have HCELL := Lib.hid hcell; have HLEN := Lib.hid hlen; have HSET := Lib.hid hset; clear hb hcell hlen hset
    go_enter Try.func50, Try.ntmps50
    go_wp2_with (first | ((with_reducible refine iD 4 (.alloc 34) ?_); refine step_alloc (dst := some 4) S 34 (.agg (arr8 (List.replicate 32 0))) (arr8 (List.replicate 32 0)) kR rfl gw ?_; clear S; intro g4 w S) | ((with_reducible refine iD 5 (.alloc 34) ?_); refine step_alloc (dst := some 5) S 34 (.agg (arr8 (List.replicate 32 0))) (arr8 (List.replicate 32 0)) kR rfl gw ?_; clear S; intro g5 w S) | ((with_reducible refine iO _ (.load 5 _) ?_); refine step_load1 5 _ _ _ rfl (cL) _ Try.underlying5 rfl gw ?_) | ((with_reducible refine iO none (.store 5 (.tmp 25) (.tmp 24)) ?_); first | (refine step_store1 S 5 (.tmp 25) (.tmp 24) _ _ (.int _ _) rfl rfl _ _ pk kR rfl rfl lN gw ?_; clear S; intro w S; try simp only [List.setIfInBounds_toArray, List.set_cons_zero, List.set_cons_succ] at S) | (refine step_storeR S 5 (.tmp 25) (.tmp 24) _ _ (.int _ _) rfl rfl _ _ _ _ pk lE kR rfl rfl gw ?_; clear S; intro w S) | (refine step_storeS S 5 (.tmp 25) (.tmp 24) _ _ (.int _ _) rfl rfl _ _ _ _ _ pk lE kR rfl rfl gw ?_; clear S; intro w S)) | ((with_reducible refine iO _ (.load 34 _) ?_); first | (refine step_load S 34 _ _ rfl _ _ _ pk _ Try.underlying34 rfl 32 kR lN gw ?_) | (refine step_loadO 34 _ _ rfl _ _ _ (S.old_heap (Hid.out (by assumption))) _ Try.underlying34 rfl 32 kR lN gw ?_) | (refine step_loadR 34 _ _ _ rfl _ (S.old_range hy) _ Try.underlying34 rfl 32 kR lN _ rfl gw ?_)) | ((with_reducible refine iO none (.store 34 (.tmp 4) (.tmp 26)) ?_); refine step_store S 34 (.tmp 4) (.tmp 26) _ _ rfl rfl _ _ pk 32 kR lN lN on1 gw ?_; clear S; intro w S) | fail)
    rw [← lkC_zero b i] at S
    go_loopw [6] (fun u wr => ∃ (k : Nat), k ≤ 32 ∧ u = .int .i64 (k : Int) ∧ Has w0 wr [blk g5 (.cells (arr8 (lkC b i k)) 34 (0, 0)), blk g4 (.cells (arr8 (List.replicate 32 0)) 34 (0, 0))]) (fun u _ => 32 - (intOf u).toNat)
    case atStart => exact ⟨0, Nat.zero_le _, rfl, S⟩
    case round =>
      clear S
      obtain ⟨k, hk, rfl, S⟩ := hrel
      by_cases hlt : k < 32
      · have hki : (k : Int) < 32 := by omega
        have hki2 : (i : Int) + (k : Int) < (b.length : Int) := by omega
        have hx : b[i + k]? = some (b.getD (i + k) 0) := by simp [List.getD, show i + k < b.length by omega]
        have hs := HSET.out k _ hx hlt
        have hc := HCELL.out k (by omega)
        have hL := HLEN.out k (by omega)
        obtain ⟨x, hxe⟩ : ∃ x, x = b.getD (i + k) 0 := ⟨_, rfl⟩
        rw [← hxe] at hs hc
        obtain ⟨L, hLe⟩ : ∃ L, L = lkC b i k := ⟨_, rfl⟩
        rw [← hLe] at S hs hL
        clear hx hxe hLe
        have HS := Lib.hid hs; have HC := Lib.hid hc; have HL := Lib.hid hL; clear hs hc hL
        go_wp2_with (first | ((with_reducible refine iO none (.store 5 (.tmp 25) (.tmp 24)) ?_); refine step_store1 S 5 (.tmp 25) (.tmp 24) g5 k (by8 x) rfl rfl _ _ pk kR rfl rfl (by rw [arr8_size, HL.out]; omega) gw ?_; clear S; intro w S; rw [HS.out] at S) | ((with_reducible refine iD 4 (.alloc 34) ?_); refine step_alloc (dst := some 4) S 34 (.agg (arr8 (List.replicate 32 0))) (arr8 (List.replicate 32 0)) kR rfl gw ?_; clear S; intro g4 w S) | ((with_reducible refine iD 5 (.alloc 34) ?_); refine step_alloc (dst := some 5) S 34 (.agg (arr8 (List.replicate 32 0))) (arr8 (List.replicate 32 0)) kR rfl gw ?_; clear S; intro g5 w S) | ((with_reducible refine iO _ (.load 5 _) ?_); refine step_load1 5 _ _ _ rfl (cL) _ Try.underlying5 rfl gw ?_) | ((with_reducible refine iO none (.store 5 (.tmp 25) (.tmp 24)) ?_); first | (refine step_store1 S 5 (.tmp 25) (.tmp 24) _ _ (.int _ _) rfl rfl _ _ pk kR rfl rfl lN gw ?_; clear S; intro w S; try simp only [List.setIfInBounds_toArray, List.set_cons_zero, List.set_cons_succ] at S) | (refine step_storeR S 5 (.tmp 25) (.tmp 24) _ _ (.int _ _) rfl rfl _ _ _ _ pk lE kR rfl rfl gw ?_; clear S; intro w S) | (refine step_storeS S 5 (.tmp 25) (.tmp 24) _ _ (.int _ _) rfl rfl _ _ _ _ _ pk lE kR rfl rfl gw ?_; clear S; intro w S)) | ((with_reducible refine iO _ (.load 34 _) ?_); first | (refine step_load S 34 _ _ rfl _ _ _ pk _ Try.underlying34 rfl 32 kR lN gw ?_) | (refine step_loadO 34 _ _ rfl _ _ _ (S.old_heap (Hid.out (by assumption))) _ Try.underlying34 rfl 32 kR lN gw ?_) | (refine step_loadR 34 _ _ _ rfl _ (S.old_range hy) _ Try.underlying34 rfl 32 kR lN _ rfl gw ?_)) | ((with_reducible refine iO none (.store 34 (.tmp 4) (.tmp 26)) ?_); refine step_store S 34 (.tmp 4) (.tmp 26) _ _ rfl rfl _ _ pk 32 kR lN lN on1 gw ?_; clear S; intro w S) | fail)
        go_roundw
        case rel => exact ⟨k + 1, by omega, by go_num, S⟩
        case measure => simp [intOf]; omega
      · obtain rfl : k = 32 := by omega
        have hL := HLEN.out 32 (by omega)
        obtain ⟨L, hLe⟩ : ∃ L, L = lkC b i 32 := ⟨_, rfl⟩
        rw [← hLe] at S hL
        have HL := Lib.hid hL; have HLE := Lib.hid hLe; clear hL hLe
        go_wp2_with (first | ((with_reducible refine iD 26 (.load 34 (.tmp 5)) ?_); refine step_load S 34 (.tmp 5) g5 rfl _ (arr8 L) _ pk _ Try.underlying34 rfl 32 kR (by rw [arr8_size]; exact HL.out) gw ?_) | ((with_reducible refine iD 4 (.alloc 34) ?_); refine step_alloc (dst := some 4) S 34 (.agg (arr8 (List.replicate 32 0))) (arr8 (List.replicate 32 0)) kR rfl gw ?_; clear S; intro g4 w S) | ((with_reducible refine iD 5 (.alloc 34) ?_); refine step_alloc (dst := some 5) S 34 (.agg (arr8 (List.replicate 32 0))) (arr8 (List.replicate 32 0)) kR rfl gw ?_; clear S; intro g5 w S) | ((with_reducible refine iO _ (.load 5 _) ?_); refine step_load1 5 _ _ _ rfl (cL) _ Try.underlying5 rfl gw ?_) | ((with_reducible refine iO none (.store 5 (.tmp 25) (.tmp 24)) ?_); first | (refine step_store1 S 5 (.tmp 25) (.tmp 24) _ _ (.int _ _) rfl rfl _ _ pk kR rfl rfl lN gw ?_; clear S; intro w S; try simp only [List.setIfInBounds_toArray, List.set_cons_zero, List.set_cons_succ] at S) | (refine step_storeR S 5 (.tmp 25) (.tmp 24) _ _ (.int _ _) rfl rfl _ _ _ _ pk lE kR rfl rfl gw ?_; clear S; intro w S) | (refine step_storeS S 5 (.tmp 25) (.tmp 24) _ _ (.int _ _) rfl rfl _ _ _ _ _ pk lE kR rfl rfl gw ?_; clear S; intro w S)) | ((with_reducible refine iO _ (.load 34 _) ?_); first | (refine step_load S 34 _ _ rfl _ _ _ pk _ Try.underlying34 rfl 32 kR lN gw ?_) | (refine step_loadO 34 _ _ rfl _ _ _ (S.old_heap (Hid.out (by assumption))) _ Try.underlying34 rfl 32 kR lN gw ?_) | (refine step_loadR 34 _ _ _ rfl _ (S.old_range hy) _ Try.underlying34 rfl 32 kR lN _ rfl gw ?_)) | ((with_reducible refine iO none (.store 34 (.tmp 4) (.tmp 26)) ?_); refine step_store S 34 (.tmp 4) (.tmp 26) _ _ rfl rfl _ _ pk 32 kR lN lN on1 gw ?_; clear S; intro w S) | fail)
        refine ret_row rfl g4 34 _ (S.get pk) _ Try.underlying34 32 kR lN rfl rfl rfl ?_
        exact ⟨by rw [← HLE.out], S.nil⟩
  · rw [show lkB b i = List.replicate 32 0 from if_neg h]
    have i1 : ¬ (i : Int) + 32 ≤ (b.length : Int) := by omega
    have HB := Lib.hid hb; clear hb
    go_enter Try.func50, Try.ntmps50
    go_wp2_with (first | ((with_reducible refine iD 4 (.alloc 34) ?_); refine step_alloc (dst := some 4) S 34 (.agg (arr8 (List.replicate 32 0))) (arr8 (List.replicate 32 0)) kR rfl gw ?_; clear S; intro g4 w S) | ((with_reducible refine iD 5 (.alloc 34) ?_); refine step_alloc (dst := some 5) S 34 (.agg (arr8 (List.replicate 32 0))) (arr8 (List.replicate 32 0)) kR rfl gw ?_; clear S; intro g5 w S) | ((with_reducible refine iO _ (.load 5 _) ?_); refine step_load1 5 _ _ _ rfl (cL) _ Try.underlying5 rfl gw ?_) | ((with_reducible refine iO none (.store 5 (.tmp 25) (.tmp 24)) ?_); first | (refine step_store1 S 5 (.tmp 25) (.tmp 24) _ _ (.int _ _) rfl rfl _ _ pk kR rfl rfl lN gw ?_; clear S; intro w S; try simp only [List.setIfInBounds_toArray, List.set_cons_zero, List.set_cons_succ] at S) | (refine step_storeR S 5 (.tmp 25) (.tmp 24) _ _ (.int _ _) rfl rfl _ _ _ _ pk lE kR rfl rfl gw ?_; clear S; intro w S) | (refine step_storeS S 5 (.tmp 25) (.tmp 24) _ _ (.int _ _) rfl rfl _ _ _ _ _ pk lE kR rfl rfl gw ?_; clear S; intro w S)) | ((with_reducible refine iO _ (.load 34 _) ?_); first | (refine step_load S 34 _ _ rfl _ _ _ pk _ Try.underlying34 rfl 32 kR lN gw ?_) | (refine step_loadO 34 _ _ rfl _ _ _ (S.old_heap (Hid.out (by assumption))) _ Try.underlying34 rfl 32 kR lN gw ?_) | (refine step_loadR 34 _ _ _ rfl _ (S.old_range hy) _ Try.underlying34 rfl 32 kR lN _ rfl gw ?_)) | ((with_reducible refine iO none (.store 34 (.tmp 4) (.tmp 26)) ?_); refine step_store S 34 (.tmp 4) (.tmp 26) _ _ rfl rfl _ _ pk 32 kR lN lN on1 gw ?_; clear S; intro w S) | fail)
    go_loopw [6] (fun u wr => u = .int .i64 0 ∧ Has w0 wr [blk g5 (.cells (arr8 (List.replicate 32 0)) 34 (0, 0)), blk g4 (.cells (arr8 (List.replicate 32 0)) 34 (0, 0))]) (fun u _ => 32 - (intOf u).toNat)
    case atStart => exact ⟨rfl, S⟩
    case round =>
      clear S
      obtain ⟨rfl, S⟩ := hrel
      go_wp2_with (first | ((with_reducible refine iD 4 (.alloc 34) ?_); refine step_alloc (dst := some 4) S 34 (.agg (arr8 (List.replicate 32 0))) (arr8 (List.replicate 32 0)) kR rfl gw ?_; clear S; intro g4 w S) | ((with_reducible refine iD 5 (.alloc 34) ?_); refine step_alloc (dst := some 5) S 34 (.agg (arr8 (List.replicate 32 0))) (arr8 (List.replicate 32 0)) kR rfl gw ?_; clear S; intro g5 w S) | ((with_reducible refine iO _ (.load 5 _) ?_); refine step_load1 5 _ _ _ rfl (cL) _ Try.underlying5 rfl gw ?_) | ((with_reducible refine iO none (.store 5 (.tmp 25) (.tmp 24)) ?_); first | (refine step_store1 S 5 (.tmp 25) (.tmp 24) _ _ (.int _ _) rfl rfl _ _ pk kR rfl rfl lN gw ?_; clear S; intro w S; try simp only [List.setIfInBounds_toArray, List.set_cons_zero, List.set_cons_succ] at S) | (refine step_storeR S 5 (.tmp 25) (.tmp 24) _ _ (.int _ _) rfl rfl _ _ _ _ pk lE kR rfl rfl gw ?_; clear S; intro w S) | (refine step_storeS S 5 (.tmp 25) (.tmp 24) _ _ (.int _ _) rfl rfl _ _ _ _ _ pk lE kR rfl rfl gw ?_; clear S; intro w S)) | ((with_reducible refine iO _ (.load 34 _) ?_); first | (refine step_load S 34 _ _ rfl _ _ _ pk _ Try.underlying34 rfl 32 kR lN gw ?_) | (refine step_loadO 34 _ _ rfl _ _ _ (S.old_heap (Hid.out (by assumption))) _ Try.underlying34 rfl 32 kR lN gw ?_) | (refine step_loadR 34 _ _ _ rfl _ (S.old_range hy) _ Try.underlying34 rfl 32 kR lN _ rfl gw ?_)) | ((with_reducible refine iO none (.store 34 (.tmp 4) (.tmp 26)) ?_); refine step_store S 34 (.tmp 4) (.tmp 26) _ _ rfl rfl _ _ pk 32 kR lN lN on1 gw ?_; clear S; intro w S) | fail)
      refine ret_row rfl g4 34 _ (S.get pk) _ Try.underlying34 32 kR lN rfl rfl rfl ?_
      exact ⟨rfl, S.nil⟩
end Go.Proofs.Ytfhkmmagpnojmaa
