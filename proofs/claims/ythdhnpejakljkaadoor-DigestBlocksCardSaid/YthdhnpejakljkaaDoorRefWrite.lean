/- The hash after some more bytes: what dunnageref01.Write returns; new memory alone. No condition. -/
import Derived.Test.YthdhnpejakljkaaDoorCheck
import Derived.Test.YthdhnpejakljkaaDoorBlocks
import Derived.Test.YthdhnpejakljkaaDoorWrite
import Derived.Test.YthdhnpejakljkaaDoorRow2
set_option linter.unusedSimpArgs false
set_option linter.unusedVariables false
namespace Go.Proofs.YthdhnpejakljkaaDoor
open Go.RowKit

/-- What a call leaves that returns a hash and an error's number; the tail reads as ts. -/
def HashE (w : World) (s : St) (ts : List UInt8) (n : Nat) (code : Int) (e : Ending) (w' : World) : Prop :=
  ∃ a c, e = .returned (.tuple #[hashV s (.slice a ts.length c) n, .int .i64 code]) ∧ Bs w' (.slice a ts.length c) ts ∧ Below w.heap.size w w'

theorem hashZ {w w' : World} {code : Int} (hb : Below w.heap.size w w') : HashE w stZ [] 0 code (.returned (.tuple #[.agg (cellsH stZ (.slice none 0 0) 0), .int .i64 code])) w' := ⟨none, 0, rfl, Bs.mk0 _ _, hb⟩

theorem cellsH_no8 {s : St} {a : Option Addr} {m c n i : Nat} {x : UInt8} (h : (cellsH s (.slice a m c) n)[i]? = some (by8 x)) : False := by
  rcases i with _ | _ | _ | _ | _ | _ | _ | _ | _ | _ | i <;> simp [cellsH, U32] at h

set_option maxRecDepth 20000 in
set_option maxHeartbeats 2000000 in
theorem refWrite_any (s : St) (t v : Value) (ts bs : List UInt8) (n : Nat) (w : World) (ht : Bs w t ts) (hv : Bs w v bs) :
    Calls Tryd.prog 20 #[.agg #[U32 s.a, U32 s.b, U32 s.c, U32 s.d, U32 s.e, U32 s.f, U32 s.g, U32 s.h, t, .int .u64 (n : Int)], v] w (HashE w (wS s ts n bs) (wT ts n bs) (wN ts.length n bs.length) (wE ts.length n bs.length)) := by
  obtain ⟨a1, c1, rfl, k1, k2⟩ := Sl.shape ht
  obtain ⟨a2, c2, rfl, k3, k4⟩ := Sl.shape hv
  unfold maxLen at k2 k4
  have HT := Lib.hid ht; have HV := Lib.hid hv; clear ht hv
  cases hB : chkB ts.length n
  · have hE : wE ts.length n bs.length = 8 := by simp [wE, hB]
    simp only [wS, wT, wN, hE]
    rw [if_neg (by decide), if_neg (by decide), if_neg (by decide)]
    have HB := Lib.hid hB; clear hB
    clear hE
    go_enter Tryd.func20, Tryd.ntmps20
    go_wp2_with (first | (go_at_call 50; (with_reducible refine (validHash_any s a1 ts.length c1 n _ (by omega)).mono ?_); rintro e w1 ⟨rfl, hb1⟩; have HB1 := Lib.hid hb1; clear hb1; rw [HB.out]) | ((with_reducible show wpList _ _ _ (⟨none, .store 30 (.tmp 4) (.tmp 12), _, _, _, _⟩ :: _) _ _); refine wpList_store_rowN rfl 30 (.tmp 4) (.tmp 12) rfl (w.heap.size + 1) _ rfl rfl 30 _ (heap_later HB1.out (by rw [size_two]; omega) (heap_two1 _ _ _)) 10 (by kernel_rfl) rfl rfl (by simp [U32_one, one_slice, one_int, one_bool]) ?_) | fail)
    refine ret_row_tmp rfl (w.heap.size + 1) 30 (cellsH stZ (.slice none 0 0) 0) (setRow_heap _ _ _ _ _ _ (heap_later HB1.out (by rw [size_two]; omega) (heap_two1 _ _ _))) _ Tryd.underlying30 10 (by kernel_rfl) rfl rfl rfl rfl ?_
    exact hashZ (below_row ((below2 _ _ _).trans (HB1.out.mono (by simp; omega))) (by omega) _)
  · have hn : n ≤ 8192 ∧ ts.length = n % 64 := by
      unfold chkB at hB
      simpa only [Bool.and_eq_true, decide_eq_true_eq] using hB
    have htl : ts.length ≤ 64 := by omega
    obtain ⟨hn, hq⟩ := hn
    clear hq
    by_cases hm : 8192 - n < bs.length
    · have hE : wE ts.length n bs.length = 4 := by simp [wE, hB, hm]
      simp only [wS, wT, wN, hE]
      rw [if_neg (by decide), if_neg (by decide), if_neg (by decide)]
      have hm' : 8192 - (n : Int) < (bs.length : Int) := by omega
      have HB := Lib.hid hB; clear hB
      clear hE hm
      go_enter Tryd.func20, Tryd.ntmps20
      go_wp2_with (first | (go_at_call 50; (with_reducible refine (validHash_any s a1 ts.length c1 n _ (by omega)).mono ?_); rintro e w1 ⟨rfl, hb1⟩; have HB1 := Lib.hid hb1; clear hb1; rw [HB.out]; obtain ⟨hc, hf⟩ := bcell HB1.out) | ((with_reducible show wpList _ _ _ (⟨none, .store 30 (.tmp 4) (.tmp 20), _, _, _, _⟩ :: _) _ _); refine wpList_store_rowN rfl 30 (.tmp 4) (.tmp 20) rfl (w.heap.size + 1) _ rfl rfl 30 _ (heap_later HB1.out (by rw [size_two]; omega) (heap_two1 _ _ _)) 10 (by kernel_rfl) rfl rfl (by simp [U32_one, one_slice, one_int, one_bool]) ?_) | fail)
      refine ret_row_tmp rfl (w.heap.size + 1) 30 (cellsH stZ (.slice none 0 0) 0) (setRow_heap _ _ _ _ _ _ (heap_later HB1.out (by rw [size_two]; omega) (heap_two1 _ _ _))) _ Tryd.underlying30 10 (by kernel_rfl) rfl rfl rfl rfl ?_
      exact hashZ (below_row ((below2 _ _ _).trans (HB1.out.mono (by simp; omega))) (by omega) _)
    · have hE : wE ts.length n bs.length = 0 := by simp [wE, hB, hm]
      simp only [wS, wT, wN, hE, if_true]
      have hm' : ¬ 8192 - (n : Int) < (bs.length : Int) := by omega
      have hbl : bs.length ≤ 8192 := by omega
      obtain ⟨zs, hzs⟩ : ∃ zs, zs = ts ++ bs := ⟨_, rfl⟩
      obtain ⟨r, hr⟩ : ∃ r, r = absS s zs (zs.length / 64) := ⟨_, rfl⟩
      obtain ⟨tl, htl2⟩ : ∃ tl, tl = zs.drop (64 * (zs.length / 64)) := ⟨_, rfl⟩
      have hab := fun v2 w1 h1 => blocks_any s v2 zs w1 h1
      have hzl : zs.length = ts.length + bs.length := by rw [hzs]; simp
      rw [← hr, ← htl2] at hab
      rw [← hzs, ← hr, ← htl2]
      have HB := Lib.hid hB; have HAB := Lib.hid hab; have HZS := Lib.hid hzs; have HZL := Lib.hid hzl; clear hB hab hzs hzl
      clear hE hm hr htl2
      go_enter Tryd.func20, Tryd.ntmps20
      go_wp2_with (first | (go_at_call 50; (with_reducible refine (validHash_any s a1 ts.length c1 n _ (by omega)).mono ?_); rintro e w1 ⟨rfl, hb1⟩; have HB1 := Lib.hid hb1; clear hb1; rw [HB.out]; obtain ⟨hc, hf⟩ := bcell HB1.out; have hs2 : w.heap.size < w1.heap.size := Nat.lt_of_lt_of_le (by rw [size_two]; omega) HB1.out.size) | (at_builtin; refine wpList_append_grew _ rfl (.tmp 21) (.tmp 23) 27 rfl w1.heap.size 5 (.int .u8 0) 1 1 Tryd.underlying27 Tryd.infoB rfl (by decide) _ _ _ rfl (empty_ownB w1) _ _ _ rfl ((HT.out.below ((below2 _ _ _).trans (HB1.out.mono (by simp; omega)))).below (below1 w1 _)) (oneCell_u8 _) ?c1 ?c2 ?c3 ?_) | fail)
      case c1 => unfold maxLen; omega
      case c2 => omega
      case c3 => simp
      intro v2 w2 hown2 hgrow2
      have hH1 : w1.heap[w.heap.size]? = some (.cells (cellsH s (.slice a1 ts.length c1) n) 30 (0, 0)) := heap_later HB1.out (by rw [size_two]; omega) (heap_two0 _ _ _)
      have hH2 : w1.heap[w.heap.size + 1]? = some (.cells (cellsH stZ (.slice none 0 0) 0) 30 (0, 0)) := heap_later HB1.out (by rw [size_two]; omega) (heap_two1 _ _ _)
      have hb01 : Below w.heap.size w w1 := (below2 _ _ _).trans (HB1.out.mono (by simp; omega))
      have hs1 : w.heap.size + 2 ≤ w1.heap.size := by have := HB1.out.size; simp at this; omega
      have hb12 := (below1 w1 _).trans (hgrow2.belowOwn (empty_ownB w1) (Nat.le_refl _) (by simp))
      have ho2 := own_eq (n' := ts.length) (xs' := ts.map by8) hown2 (by omega) (by simp)
      have HH1 := Lib.hid hH1; have HH2 := Lib.hid hH2; have HB01 := Lib.hid hb01; have HB12 := Lib.hid hb12; have HO2 := Lib.hid ho2; clear hH1 hH2 hb01 hb12 ho2
      clear hc hf HB1 hown2 hgrow2
      go_wp2_with (at_builtin; refine wpList_append_grew _ rfl (.tmp 25) (.tmp 26) 27 rfl w1.heap.size 5 (.int .u8 0) 1 1 Tryd.underlying27 Tryd.infoB rfl (by decide) _ _ _ rfl HO2.out _ _ _ rfl (HV.out.below (HB01.out.trans (HB12.out.mono HB01.out.size))) (oneCell_u8 _) ?d1 ?d2 ?d3 ?_)
      case d1 => unfold maxLen; omega
      case d2 => omega
      case d3 => exact HB12.out.size
      intro v3 w3 hown3 hgrow3
      have hb13 := HB12.out.trans (hgrow3.belowOwn HO2.out (Nat.le_refl _) HB12.out.size)
      have ho3 := own_eq (n' := zs.length) (xs' := zs.map by8) hown3 (by rw [HZL.out]) (by rw [HZS.out]; simp)
      have hs3 : Bs w3 v3 zs := Bs.of_own ho3 rfl
      obtain ⟨hc, hf⟩ := bcell HB01.out
      have hH1c : w3.heap[w.heap.size]? = some (.cells (cellsH s (.slice a1 ts.length c1) n) 30 (0, 0)) := heap_later hb13 (by omega) HH1.out
      obtain ⟨⟨q0, q1, q2, q3, q4, q5, q6, q7⟩, q8⟩ := cellsH_S hH1c
      have HB13 := Lib.hid hb13; have HS3 := Lib.hid hs3; have HH1C := Lib.hid hH1c; clear hb13 hs3 hH1c
      clear hc hf hown3 hgrow3 ho3
      have hwk : IntKind.u64.wrap (bs.length : Int) = (bs.length : Int) := by rw [IntKind.wrap_u64]; omega
      go_wp2_with (first | (go_at_call 51; (with_reducible refine (HAB.out _ _ HS3.out).mono ?_); rintro e w4 ⟨v4, rfl, hs4, hb4⟩; have HS4 := Lib.hid hs4; have HB4 := Lib.hid hb4; clear hs4 hb4; unfold aggS; obtain ⟨a4, c4, rfl, _, _⟩ := Sl.shape HS4.out; have hb14 := HB13.out.trans (HB4.out.mono HB13.out.size); have hb14s := hb14.size; have hh1 := heap_later hb14 (by omega) HH1.out; have hh2 := heap_later hb14 (by omega) HH2.out; have hq9 : ∀ o cs, ((w4.alloc o).setRow w4.heap.size cs).cell? ⟨w.heap.size, 9, none⟩ = some (.int .u64 (n : Int)) := fun o cs => cell_row (heap_past hh1 (by omega) o cs) 9; have hr9 := fun o cs => heap_past hh2 (by omega) o cs; have HB14 := Lib.hid hb14; have HH1 := Lib.hid hh1; have HH2 := Lib.hid hh2; have HR9 := Lib.hid hr9; clear hb14 hh1 hh2 hr9) | ((with_reducible show wpList _ _ _ (⟨none, .store 23 (.tmp 7) (.tmp 33), _, _, _, _⟩ :: _) _ _); refine wpList_store_rowN rfl 23 (.tmp 7) (.tmp 33) rfl (w4.heap.size) _ rfl rfl 23 _ (heap_new _ _ _) 8 (by kernel_rfl) rfl rfl (by simp [U32_one, one_slice, one_int, one_bool]) ?_) | ((with_reducible show wpList _ _ _ (⟨some 35, _, _, _, _, _⟩ :: _) _ _); refine wpList_load_rowN rfl 23 (.tmp 7) rfl (w4.heap.size) rfl 23 (#[U32 r.a, U32 r.b, U32 r.c, U32 r.d, U32 r.e, U32 r.f, U32 r.g, U32 r.h]) (0, 0) _ (setRow_heap _ _ _ _ _ _ (heap_new _ _ _)) Tryd.underlying23 rfl 8 (by kernel_rfl) (by rfl) ?_) | ((with_reducible show wpList _ _ _ (⟨none, .store 30 (.tmp 4) (.tmp 43), _, _, _, _⟩ :: _) _ _); refine wpList_store_rowN rfl 30 (.tmp 4) (.tmp 43) rfl (w.heap.size + 1) _ rfl rfl 30 _ (HR9.out _ _) 10 (by kernel_rfl) rfl rfl (by simp [U32_one, one_slice, one_int, one_bool]) ?_) | fail)

      have hbf : Below w.heap.size w w4 := HB01.out.trans (HB14.out.mono (by omega))
      refine ret_row_tmp rfl (w.heap.size + 1) 30 _ (setRow_heap _ _ _ _ _ _ (HR9.out _ _)) _ Tryd.underlying30 10 (by kernel_rfl) rfl rfl rfl rfl ?_
      refine ⟨a4, c4, rfl, ?_, below_row (below_past hbf hbf.size _ _) (by omega) _⟩
      exact ((HS4.out.below HB4.out).below (below_past (Below.refl _ _) (Nat.le_refl _) _ _)).other_blk (HR9.out _ _) (fun i x h => cellsH_no8 h) _
end Go.Proofs.YthdhnpejakljkaaDoor
