/- The hash after some more bytes: what digest.Write returns, in new memory; what was there stays. No condition but the table of constants. -/
import Derived.Test.YtioonimpobcglaaDoorCheck
import Derived.Test.YtioonimpobcglaaDoorAbsorb
import Derived.Test.YtioonimpobcglaaDoorConcat
import Derived.Deep.DeepCutAuto
set_option linter.unusedSimpArgs false
set_option linter.unusedVariables false
namespace Go.Proofs.YtioonimpobcglaaDoor
open Go.RowKit

/-- The error of k bytes behind a hash of n bytes with a tail of m. -/
def wE (m n k : Nat) : Int := if chkB m n then (if 8192 - n < k then 4 else 0) else 8
def stZ : St := ⟨0, 0, 0, 0, 0, 0, 0, 0⟩
/-- The state, the tail and the length behind bs. -/
def wS (s : St) (ts : List UInt8) (n : Nat) (bs : List UInt8) : St := if wE ts.length n bs.length = 0 then absS s (ts ++ bs) ((ts ++ bs).length / 64) else stZ
def wT (ts : List UInt8) (n : Nat) (bs : List UInt8) : List UInt8 := if wE ts.length n bs.length = 0 then (ts ++ bs).drop (64 * ((ts ++ bs).length / 64)) else []
def wN (m n k : Nat) : Nat := if wE m n k = 0 then n + k else 0

/-- What a call leaves that returns a hash in new memory and an error's number. -/
def FreshHE (w : World) (s : St) (ts : List UInt8) (n : Nat) (code : Int) (e : Ending) (w' : World) : Prop :=
  ∃ a c, e = .returned (.tuple #[hashV s (.slice a ts.length c) n, .int .i64 code]) ∧ w'.ownsRow w.heap.size 5 1 (.slice a ts.length c) ts.length (ts.map by8) ∧ Below w.heap.size w w'

theorem freshZ {w w' : World} {code : Int} (hb : Below w.heap.size w w') : FreshHE w stZ [] 0 code (.returned (.tuple #[.agg (cellsH stZ (.slice none 0 0) 0), .int .i64 code])) w' := ⟨none, 0, rfl, World.ownsRow_nil _ _ _ _, hb⟩

theorem cellsH_S {w : World} {g : Nat} {s : St} {t : Value} {n : Nat} (h : w.heap[g]? = some (.cells (cellsH s t n) 117 (0, 0))) :
    (w.cell? ⟨g, 0, none⟩ = some (U32 s.a) ∧ w.cell? ⟨g, 1, none⟩ = some (U32 s.b) ∧ w.cell? ⟨g, 2, none⟩ = some (U32 s.c) ∧ w.cell? ⟨g, 3, none⟩ = some (U32 s.d) ∧ w.cell? ⟨g, 4, none⟩ = some (U32 s.e) ∧ w.cell? ⟨g, 5, none⟩ = some (U32 s.f) ∧ w.cell? ⟨g, 6, none⟩ = some (U32 s.g) ∧ w.cell? ⟨g, 7, none⟩ = some (U32 s.h)) ∧ w.cell? ⟨g, 8, none⟩ = some t :=
  ⟨⟨cell_row h 0, cell_row h 1, cell_row h 2, cell_row h 3, cell_row h 4, cell_row h 5, cell_row h 6, cell_row h 7⟩, cell_row h 8⟩

/-- Bytes do not lie among words. -/
theorem Bs.other_row {w : World} {g : Nat} {r : St} {t : TypeId} {v : Value} {xs : List UInt8} (h : Bs w v xs) (hA : w.heap[g]? = some (.cells (cellsS r) t (0, 0))) (cs : Array Value) : Bs (w.setRow g cs) v xs := by
  rcases h.cases with ⟨a, rfl, rfl⟩ | ⟨b, off, cap, rfl, h1, h2, hc⟩
  · exact Bs.mk0 _ _
  · refine Bs.mk h1 h2 fun i hi => ?_
    have hci := hc i hi
    have hne : b ≠ g := by
      rintro rfl
      rw [cell_row hA] at hci
      have hj : off + i < 8 := by
        rcases Nat.lt_or_ge (off + i) 8 with h | h
        · exact h
        · rw [Array.getElem?_eq_none (by simpa [cellsS] using h)] at hci; cases hci
      have : ∀ j, j < 8 → ∃ x : UInt32, (cellsS r)[j]? = some (U32 x) := fun j hj => ⟨_, cellsS_get r j hj⟩
      obtain ⟨x, hx⟩ := this _ hj
      rw [hx] at hci
      simp [U32] at hci
    exact (World.cell?_of_block (setRow_other w g b cs hne)).trans hci

set_option maxRecDepth 20000 in
set_option maxHeartbeats 1000000 in
theorem write_any (s : St) (t v : Value) (ts bs : List UInt8) (n : Nat) (w : World) (ht : Bs w t ts) (hv : Bs w v bs) (hK : KT w) :
    Calls Tryd.prog 75 #[.agg #[U32 s.a, U32 s.b, U32 s.c, U32 s.d, U32 s.e, U32 s.f, U32 s.g, U32 s.h, t, .int .u64 (n : Int)], v] w (FreshHE w (wS s ts n bs) (wT ts n bs) (wN ts.length n bs.length) (wE ts.length n bs.length)) := by
  obtain ⟨a1, c1, rfl, k1, k2⟩ := Sl.shape ht
  obtain ⟨a2, c2, rfl, k3, k4⟩ := Sl.shape hv
  unfold maxLen at k2 k4
  have HT := Lib.hid ht; have HV := Lib.hid hv; have HK := Lib.hid hK; clear ht hv hK
  cases hB : chkB ts.length n
  · have hE : wE ts.length n bs.length = 8 := by simp [wE, hB]
    have hC : chkE ts.length n = 8 := by simp [chkE, hB]
    simp only [wS, wT, wN, hE]
    rw [if_neg (by decide), if_neg (by decide), if_neg (by decide)]
    have HC := Lib.hid hC; clear hC
    clear hB hE
    go_enter Tryd.func75, Tryd.ntmps75
    go_wp2_with (first | (go_at_call 80; (with_reducible refine (check_any s a1 ts.length c1 n _ (by omega)).mono ?_); rintro e w1 ⟨rfl, hb1⟩; have HB1 := Lib.hid hb1; clear hb1; rw [HC.out]) | ((with_reducible show wpList _ _ _ (⟨none, .store 117 (.tmp 4) (.tmp 13), _, _, _, _⟩ :: _) _ _); refine wpList_store_rowN rfl 117 (.tmp 4) (.tmp 13) rfl (w.heap.size + 1) _ rfl rfl 117 _ (heap_later HB1.out (by rw [size_two]; omega) (heap_two1 _ _ _)) 10 (by kernel_rfl) rfl rfl (by simp [U32_one, one_slice, one_int, one_bool]) ?_) | fail)
    refine ret_row_tmp rfl (w.heap.size + 1) 117 (cellsH stZ (.slice none 0 0) 0) (setRow_heap _ _ _ _ _ _ (heap_later HB1.out (by rw [size_two]; omega) (heap_two1 _ _ _))) _ Tryd.underlying117 10 (by kernel_rfl) rfl rfl rfl rfl ?_
    exact freshZ (below_row ((below2 _ _ _).trans (HB1.out.mono (by simp; omega))) (by omega) _)
  · have hn : n ≤ 8192 := by
      unfold chkB at hB
      simp only [Bool.and_eq_true, decide_eq_true_eq] at hB
      exact hB.1
    have htl : ts.length ≤ 64 := by
      unfold chkB at hB
      simp only [Bool.and_eq_true, decide_eq_true_eq] at hB
      omega
    have hC : chkE ts.length n = 0 := by simp [chkE, hB]
    by_cases hm : 8192 - n < bs.length
    · have hE : wE ts.length n bs.length = 4 := by simp [wE, hB, hm]
      simp only [wS, wT, wN, hE]
      rw [if_neg (by decide), if_neg (by decide), if_neg (by decide)]
      have hm' : 8192 - (n : Int) < (bs.length : Int) := by omega
      have HC := Lib.hid hC; clear hC
      clear hB hE hm
      go_enter Tryd.func75, Tryd.ntmps75
      go_wp2_with (first | (go_at_call 80; (with_reducible refine (check_any s a1 ts.length c1 n _ (by omega)).mono ?_); rintro e w1 ⟨rfl, hb1⟩; have HB1 := Lib.hid hb1; clear hb1; rw [HC.out]; obtain ⟨hc, hf⟩ := bcell HB1.out) | ((with_reducible show wpList _ _ _ (⟨none, .store 117 (.tmp 4) (.tmp 22), _, _, _, _⟩ :: _) _ _); refine wpList_store_rowN rfl 117 (.tmp 4) (.tmp 22) rfl (w.heap.size + 1) _ rfl rfl 117 _ (heap_later HB1.out (by rw [size_two]; omega) (heap_two1 _ _ _)) 10 (by kernel_rfl) rfl rfl (by simp [U32_one, one_slice, one_int, one_bool]) ?_) | fail)
      refine ret_row_tmp rfl (w.heap.size + 1) 117 (cellsH stZ (.slice none 0 0) 0) (setRow_heap _ _ _ _ _ _ (heap_later HB1.out (by rw [size_two]; omega) (heap_two1 _ _ _))) _ Tryd.underlying117 10 (by kernel_rfl) rfl rfl rfl rfl ?_
      exact freshZ (below_row ((below2 _ _ _).trans (HB1.out.mono (by simp; omega))) (by omega) _)
    · have hE : wE ts.length n bs.length = 0 := by simp [wE, hB, hm]
      simp only [wS, wT, wN, hE, if_true]
      have hm' : ¬ 8192 - (n : Int) < (bs.length : Int) := by omega
      have hbl : bs.length ≤ 8192 := by omega
      obtain ⟨zs, hzs⟩ : ∃ zs, zs = ts ++ bs := ⟨_, rfl⟩
      obtain ⟨r, hr⟩ : ∃ r, r = absS s zs (zs.length / 64) := ⟨_, rfl⟩
      obtain ⟨tl, htl2⟩ : ∃ tl, tl = zs.drop (64 * (zs.length / 64)) := ⟨_, rfl⟩
      have hcc := fun g w1 h1 h2 h3 h4 => concat_any g (.slice a1 ts.length c1) (.slice a2 bs.length c2) ts bs w1 h1 h2 h3 h4 (by omega)
      have hab := fun v2 w1 h1 h2 => absorb_any s v2 zs w1 h1 h2
      rw [← hzs] at hcc
      rw [← hr, ← htl2] at hab
      rw [← hzs, ← hr, ← htl2]
      have htll : tl.length ≤ 8300 := by rw [htl2, hzs]; simp; omega
      have HC := Lib.hid hC; have HCC := Lib.hid hcc; have HAB := Lib.hid hab; clear hC hcc hab
      clear hB hE hm hzs hr htl2
      go_enter Tryd.func75, Tryd.ntmps75
      go_wp2_with (first | (go_at_call 80; (with_reducible refine (check_any s a1 ts.length c1 n _ (by omega)).mono ?_); rintro e w1 ⟨rfl, hb1⟩; have HB1 := Lib.hid hb1; clear hb1; rw [HC.out]; obtain ⟨hc, hf⟩ := bcell HB1.out) | fail)
      have hH1 : w1.heap[w.heap.size]? = some (.cells (cellsH s (.slice a1 ts.length c1) n) 117 (0, 0)) := heap_later HB1.out (by rw [size_two]; omega) (heap_two0 _ _ _)
      have hH2 : w1.heap[w.heap.size + 1]? = some (.cells (cellsH stZ (.slice none 0 0) 0) 117 (0, 0)) := heap_later HB1.out (by rw [size_two]; omega) (heap_two1 _ _ _)
      have hb01 : Below w.heap.size w w1 := (below2 _ _ _).trans (HB1.out.mono (by simp; omega))
      have hs1 : w.heap.size + 2 ≤ w1.heap.size := by have := HB1.out.size; simp at this; omega
      have HH1 := Lib.hid hH1; have HH2 := Lib.hid hH2; have HB01 := Lib.hid hb01; clear hH1 hH2 hb01
      clear hc hf HB1
      go_cut [7, 8] (fun p t w' => ∃ B7 a c, p = .pointer (some ⟨B7, 0, none⟩) ∧ t = .slice a tl.length c ∧ Bs w' t tl ∧ w'.heap[B7]? = some (.cells (cellsS r) 115 (0, 0)) ∧ Below w1.heap.size w1 w' ∧ w1.heap.size ≤ B7)
      · rename_i h1 h2
        have hF : Below w1.heap.size w1 w1.drew := (Below.refl _ _).drew
        refine wp_region_noPanic ?_
        refine wp_region_held_drew (S := fun w' => (w'.cell? ⟨w.heap.size, 0, none⟩ = some (U32 s.a) ∧ w'.cell? ⟨w.heap.size, 1, none⟩ = some (U32 s.b) ∧ w'.cell? ⟨w.heap.size, 2, none⟩ = some (U32 s.c) ∧ w'.cell? ⟨w.heap.size, 3, none⟩ = some (U32 s.d) ∧ w'.cell? ⟨w.heap.size, 4, none⟩ = some (U32 s.e) ∧ w'.cell? ⟨w.heap.size, 5, none⟩ = some (U32 s.f) ∧ w'.cell? ⟨w.heap.size, 6, none⟩ = some (U32 s.g) ∧ w'.cell? ⟨w.heap.size, 7, none⟩ = some (U32 s.h)) ∧ w'.cell? ⟨w.heap.size, 8, none⟩ = some (.slice a1 ts.length c1)) (by kernel_rfl) (cellsH_S (heap_later hF (by omega) HH1.out)) (fun hHeld => ?_)
        obtain ⟨c, hc⟩ : ∃ c, c = w1.drew := ⟨_, rfl⟩
        rw [← hc] at hF hHeld ⊢
        clear hc
        refine wpAnyH_take (i := 0) (v := ?v1) rfl (by kernel_rfl) (by kernel_rfl) (by kernel_rfl) (fun _ _ _ h => h) (Or.inl ⟨by rfl, ?y1⟩) (by assumption) ?_
        case y1 => (intro w hSw; (try dsimp only at hSw); go_simp; try (with_reducible rfl))
        try simp only [Act.put, List.setIfInBounds_toArray, List.set_cons_zero, List.set_cons_succ]
        refine wpAnyH_take (i := 1) (v := ?v2) rfl (by kernel_rfl) (by kernel_rfl) (by kernel_rfl) (fun _ _ _ h => h) (Or.inl ⟨by rfl, ?y2⟩) (by assumption) ?_
        case y2 => (intro w hSw; (try dsimp only at hSw); go_simp; try (with_reducible rfl))
        try simp only [Act.put, List.setIfInBounds_toArray, List.set_cons_zero, List.set_cons_succ]
        refine wpAnyH_take (i := 2) (v := ?v3) rfl (by kernel_rfl) (by kernel_rfl) (by kernel_rfl) (fun _ _ _ h => h) (Or.inl ⟨by rfl, ?y3⟩) (by assumption) ?_
        case y3 => (intro w hSw; (try dsimp only at hSw); go_simp; try (with_reducible rfl))
        try simp only [Act.put, List.setIfInBounds_toArray, List.set_cons_zero, List.set_cons_succ]
        refine wpAnyH_take (i := 3) (v := ?v4) rfl (by kernel_rfl) (by kernel_rfl) (by kernel_rfl) (fun _ _ _ h => h) (Or.inl ⟨by rfl, ?y4⟩) (by assumption) ?_
        case y4 => (intro w hSw; (try dsimp only at hSw); go_simp; try (with_reducible rfl))
        try simp only [Act.put, List.setIfInBounds_toArray, List.set_cons_zero, List.set_cons_succ]
        refine wpAnyH_take (i := 4) (v := ?v5) rfl (by kernel_rfl) (by kernel_rfl) (by kernel_rfl) (fun _ _ _ h => h) (Or.inl ⟨by rfl, ?y5⟩) (by assumption) ?_
        case y5 => (intro w hSw; (try dsimp only at hSw); go_simp; try (with_reducible rfl))
        try simp only [Act.put, List.setIfInBounds_toArray, List.set_cons_zero, List.set_cons_succ]
        clear hHeld
        refine wpAnyH_ready (rs := [5, 11]) (by kernel_rfl) (by simp) ?_
        refine AllReadyH.cons rfl (fun K hK => ?_) (AllReadyH.cons rfl (fun K hK => ?_) AllReadyH.nil)
        · go_simp
          have hg := two_cells c (.slice a1 ts.length c1) (.slice a2 bs.length c2) 22
          have hbn := hF.trans ((below1 c (.cells #[.slice a1 ts.length c1, .slice a2 bs.length c2] 22)).mono hF.size)
          refine hK.out _ _ (cellsH_S (heap_later (hbn) (by omega) HH1.out)) (fun _ => ?_)
          clear hK K
          try simp only [Act.put, List.setIfInBounds_toArray, List.set_cons_zero, List.set_cons_succ]
          generalize hgg : c.heap.size = g at hg ⊢
          obtain ⟨cw2, hcw2⟩ : ∃ cw2, cw2 = c.alloc (.cells #[.slice a1 ts.length c1, .slice a2 bs.length c2] 22) := ⟨_, rfl⟩
          rw [← hcw2] at hg hbn ⊢
          have hF2 := And.intro hbn hg
          clear hcw2 hgg hF hbn hg
          obtain ⟨c, rfl⟩ : ∃ c, c = cw2 := ⟨_, rfl⟩
          have hF := hF2; clear hF2
          refine wpAnyH_ready (rs := [6, 11]) (by kernel_rfl) (by simp) ?_
          refine AllReadyH.cons rfl (fun K hK => ?_) (AllReadyH.cons rfl (fun K hK => ?_) AllReadyH.nil)
          · go_simp
            go_at_call 82
            (with_reducible refine (HCC.out g _ hF.2.1 hF.2.2 (HT.out.below (HB01.out.trans (hF.1.mono HB01.out.size))) (HV.out.below (HB01.out.trans (hF.1.mono HB01.out.size)))).mono ?_)
            rintro e cw2 ⟨v2, rfl, ho2, hb2⟩
            have hs2 : Bs cw2 v2 zs := Sl.of_own ho2
            have hbn := hF.1.trans (hb2.mono hF.1.size)
            refine hK.out _ _ (cellsH_S (heap_later (hbn) (by omega) HH1.out)) (fun _ => ?_)
            clear hK K
            try simp only [Act.put, List.setIfInBounds_toArray, List.set_cons_zero, List.set_cons_succ]
            have hF2 := And.intro hbn hs2
            clear hF ho2 hb2 hs2 hbn
            obtain ⟨c, rfl⟩ : ∃ c, c = cw2 := ⟨_, rfl⟩
            have hF := hF2; clear hF2
            refine wpAnyH_ready (rs := [7, 11]) (by kernel_rfl) (by simp) ?_
            refine AllReadyH.cons rfl (fun K hK => ?_) (AllReadyH.cons rfl (fun K hK => ?_) AllReadyH.nil)
            · go_simp
              go_at_call 81
              (with_reducible refine (HAB.out v2 _ hF.2 (HK.out.later (HB01.out.trans (hF.1.mono HB01.out.size)) (Nat.le_refl _))).mono ?_)
              rintro e cw2 ⟨v3, rfl, hs3, hb3⟩
              have hs3b := hs3.below hb3
              obtain ⟨a3, c3, rfl, _, _⟩ := Sl.shape hs3b
              have hbn := hF.1.trans (hb3.mono hF.1.size)
              refine hK.out _ _ (cellsH_S (heap_later (hbn) (by omega) HH1.out)) (fun _ => ?_)
              clear hK K
              try simp only [Act.put, List.setIfInBounds_toArray, List.set_cons_zero, List.set_cons_succ]
              have hF2 := And.intro hbn hs3b
              clear hF hb3 hs3 hs3b hbn
              unfold aggS
              obtain ⟨c, rfl⟩ : ∃ c, c = cw2 := ⟨_, rfl⟩
              have hF := hF2; clear hF2
              have hHeld := cellsH_S (heap_later hF.1 (by omega) HH1.out)
              refine wpAnyH_take (i := 8) (oi := ⟨some 23, _, _, _, _, _⟩) (v := ?v6) rfl (by kernel_rfl) (by kernel_rfl) (by kernel_rfl) (fun _ _ _ h => h) (Or.inl ⟨by rfl, ?y6⟩) (by assumption) ?_
              case y6 => (intro w hSw; (try dsimp only at hSw); go_simp; try (with_reducible rfl))
              try simp only [Act.put, List.setIfInBounds_toArray, List.set_cons_zero, List.set_cons_succ]
              refine wpAnyH_take (i := 9) (oi := ⟨some 32, _, _, _, _, _⟩) (v := ?v7) rfl (by kernel_rfl) (by kernel_rfl) (by kernel_rfl) (fun _ _ _ h => h) (Or.inl ⟨by rfl, ?y7⟩) (by assumption) ?_
              case y7 => (intro w hSw; (try dsimp only at hSw); go_simp; try (with_reducible rfl))
              try simp only [Act.put, List.setIfInBounds_toArray, List.set_cons_zero, List.set_cons_succ]
              refine wpAnyH_take (i := 10) (oi := ⟨some 33, _, _, _, _, _⟩) (v := ?v8) rfl (by kernel_rfl) (by kernel_rfl) (by kernel_rfl) (fun _ _ _ h => h) (Or.inl ⟨by rfl, ?y8⟩) (by assumption) ?_
              case y8 => (intro w hSw; (try dsimp only at hSw); go_simp; try (with_reducible rfl))
              try simp only [Act.put, List.setIfInBounds_toArray, List.set_cons_zero, List.set_cons_succ]
              clear hHeld
              refine wpAnyH_ready (rs := [11]) (by kernel_rfl) (by simp) ?_
              refine AllReadyH.cons rfl (fun K hK => ?_) AllReadyH.nil
              go_simp
              have hbz := below1 c (.cells (cellsS stZ) 115)
              have hF2 : Below w1.heap.size w1 (c.alloc (.cells (cellsS stZ) 115)) ∧ Bs (c.alloc (.cells (cellsS stZ) 115)) (.slice a3 _ c3) tl := ⟨(hF.1.trans (hbz.mono hF.1.size)), hF.2.below hbz⟩
              have hA := And.intro (heap_new c (cellsS stZ) 115) (hF.1.size)
              refine hK.out _ _ (cellsH_S (heap_later (hF2.1) (by omega) HH1.out)) (fun _ => ?_)
              clear hK K
              try simp only [Act.put, List.setIfInBounds_toArray, List.set_cons_zero, List.set_cons_succ]
              generalize c.heap.size = B7 at hA ⊢
              obtain ⟨cw2, hcw2⟩ : ∃ cw2, cw2 = c.alloc (.cells (cellsS stZ) 115) := ⟨_, rfl⟩
              change wpAnyH _ _ _ _ _ _ _ _ (c.alloc (.cells (cellsS stZ) 115))
              rw [← hcw2] at hF2 hA ⊢
              clear hcw2 hbz hF
              obtain ⟨c, rfl⟩ : ∃ c, c = cw2 := ⟨_, rfl⟩
              have hF := hF2; clear hF2
              refine wpAnyH_ready (rs := [12]) (by kernel_rfl) (by simp) ?_
              refine AllReadyH.cons (o := ⟨none, _, _, _, _, _⟩) rfl (fun K hK => ?_) AllReadyH.nil
              rw [if_pos (by rfl)]
              refine wp_store_row (P := Tryd.prog) 115 (.tmp 7) (.tmp 32) rfl B7 (cellsS r) rfl rfl 115 _ hA.1 (by kernel_rfl) rfl (by simp [cellsS, U32_one]) ?_
              have hbr := below_row (hF.1) hA.2 (cellsS r)
              refine hK.out _ _ (cellsH_S (heap_later hbr (by omega) HH1.out)) (fun hHeld => ?_)
              clear hK K
              try simp only [Act.put, List.setIfInBounds_toArray, List.set_cons_zero, List.set_cons_succ]
              refine wpAnyH_take (i := 13) (oi := ⟨some 8, _, _, _, _, _⟩) (v := ?v9) rfl (by kernel_rfl) (by kernel_rfl) (by kernel_rfl) (fun _ _ _ h => h) (Or.inl ⟨by rfl, ?y9⟩) (by assumption) ?_
              case y9 => (intro w hSw; (try dsimp only at hSw); go_simp; try (with_reducible rfl))
              try simp only [Act.put, List.setIfInBounds_toArray, List.set_cons_zero, List.set_cons_succ]
              refine wpAnyH_done (by kernel_rfl) ?_ _
              refine NoPanic.normal ?_
              refine h2 _ _ (Met.intro (h1 _ _ ?_))
              refine ⟨_, _, _, _, _, _, _, _, _, _, _, _, _, _, _, _, _, _, _, _, _, _, _, _, _, _, _, _, _, _, _, _, _, _, _, _, _, ⟨B7, _, _, rfl, rfl, ?_, setRow_heap _ _ _ _ _ _ hA.1, hbr, hA.2⟩, rfl⟩
              exact hF.2.other_row hA.1 _
            · go_simp
              have hbz := below1 c (.cells (cellsS stZ) 115)
              have hF2 : Below w1.heap.size w1 (c.alloc (.cells (cellsS stZ) 115)) ∧ Bs (c.alloc (.cells (cellsS stZ) 115)) v2 zs := ⟨(hF.1.trans (hbz.mono hF.1.size)), hF.2.below hbz⟩
              have hA := And.intro (heap_new c (cellsS stZ) 115) (hF.1.size)
              refine hK.out _ _ (cellsH_S (heap_later (hF2.1) (by omega) HH1.out)) (fun _ => ?_)
              clear hK K
              try simp only [Act.put, List.setIfInBounds_toArray, List.set_cons_zero, List.set_cons_succ]
              generalize c.heap.size = B7 at hA ⊢
              obtain ⟨cw2, hcw2⟩ : ∃ cw2, cw2 = c.alloc (.cells (cellsS stZ) 115) := ⟨_, rfl⟩
              change wpAnyH _ _ _ _ _ _ _ _ (c.alloc (.cells (cellsS stZ) 115))
              rw [← hcw2] at hF2 hA ⊢
              clear hcw2 hbz hF
              obtain ⟨c, rfl⟩ : ∃ c, c = cw2 := ⟨_, rfl⟩
              have hF := hF2; clear hF2
              refine wpAnyH_ready (rs := [7]) (by kernel_rfl) (by simp) ?_
              refine AllReadyH.cons rfl (fun K hK => ?_) AllReadyH.nil
              go_simp
              go_at_call 81
              (with_reducible refine (HAB.out v2 _ hF.2 (HK.out.later (HB01.out.trans (hF.1.mono HB01.out.size)) (Nat.le_refl _))).mono ?_)
              rintro e cw2 ⟨v3, rfl, hs3, hb3⟩
              have hs3b := hs3.below hb3
              obtain ⟨a3, c3, rfl, _, _⟩ := Sl.shape hs3b
              have hbn := hF.1.trans (hb3.mono hF.1.size)
              refine hK.out _ _ (cellsH_S (heap_later (hbn) (by omega) HH1.out)) (fun _ => ?_)
              clear hK K
              try simp only [Act.put, List.setIfInBounds_toArray, List.set_cons_zero, List.set_cons_succ]
              have hA2 := And.intro (heap_later hb3 (heap_lt hA.1) hA.1) hA.2
              have hF2 := And.intro hbn hs3b
              clear hF hb3 hs3 hs3b hbn hA
              unfold aggS
              obtain ⟨c, rfl⟩ : ∃ c, c = cw2 := ⟨_, rfl⟩
              have hF := hF2; clear hF2
              have hA := hA2; clear hA2
              have hHeld := cellsH_S (heap_later hF.1 (by omega) HH1.out)
              refine wpAnyH_take (i := 8) (oi := ⟨some 23, _, _, _, _, _⟩) (v := ?v10) rfl (by kernel_rfl) (by kernel_rfl) (by kernel_rfl) (fun _ _ _ h => h) (Or.inl ⟨by rfl, ?y10⟩) (by assumption) ?_
              case y10 => (intro w hSw; (try dsimp only at hSw); go_simp; try (with_reducible rfl))
              try simp only [Act.put, List.setIfInBounds_toArray, List.set_cons_zero, List.set_cons_succ]
              refine wpAnyH_take (i := 9) (oi := ⟨some 32, _, _, _, _, _⟩) (v := ?v11) rfl (by kernel_rfl) (by kernel_rfl) (by kernel_rfl) (fun _ _ _ h => h) (Or.inl ⟨by rfl, ?y11⟩) (by assumption) ?_
              case y11 => (intro w hSw; (try dsimp only at hSw); go_simp; try (with_reducible rfl))
              try simp only [Act.put, List.setIfInBounds_toArray, List.set_cons_zero, List.set_cons_succ]
              refine wpAnyH_take (i := 10) (oi := ⟨some 33, _, _, _, _, _⟩) (v := ?v12) rfl (by kernel_rfl) (by kernel_rfl) (by kernel_rfl) (fun _ _ _ h => h) (Or.inl ⟨by rfl, ?y12⟩) (by assumption) ?_
              case y12 => (intro w hSw; (try dsimp only at hSw); go_simp; try (with_reducible rfl))
              try simp only [Act.put, List.setIfInBounds_toArray, List.set_cons_zero, List.set_cons_succ]
              clear hHeld
              refine wpAnyH_ready (rs := [12]) (by kernel_rfl) (by simp) ?_
              refine AllReadyH.cons (o := ⟨none, _, _, _, _, _⟩) rfl (fun K hK => ?_) AllReadyH.nil
              rw [if_pos (by rfl)]
              refine wp_store_row (P := Tryd.prog) 115 (.tmp 7) (.tmp 32) rfl B7 (cellsS r) rfl rfl 115 _ hA.1 (by kernel_rfl) rfl (by simp [cellsS, U32_one]) ?_
              have hbr := below_row (hF.1) hA.2 (cellsS r)
              refine hK.out _ _ (cellsH_S (heap_later hbr (by omega) HH1.out)) (fun hHeld => ?_)
              clear hK K
              try simp only [Act.put, List.setIfInBounds_toArray, List.set_cons_zero, List.set_cons_succ]
              refine wpAnyH_take (i := 13) (oi := ⟨some 8, _, _, _, _, _⟩) (v := ?v13) rfl (by kernel_rfl) (by kernel_rfl) (by kernel_rfl) (fun _ _ _ h => h) (Or.inl ⟨by rfl, ?y13⟩) (by assumption) ?_
              case y13 => (intro w hSw; (try dsimp only at hSw); go_simp; try (with_reducible rfl))
              try simp only [Act.put, List.setIfInBounds_toArray, List.set_cons_zero, List.set_cons_succ]
              refine wpAnyH_done (by kernel_rfl) ?_ _
              refine NoPanic.normal ?_
              refine h2 _ _ (Met.intro (h1 _ _ ?_))
              refine ⟨_, _, _, _, _, _, _, _, _, _, _, _, _, _, _, _, _, _, _, _, _, _, _, _, _, _, _, _, _, _, _, _, _, _, _, _, _, ⟨B7, _, _, rfl, rfl, ?_, setRow_heap _ _ _ _ _ _ hA.1, hbr, hA.2⟩, rfl⟩
              exact hF.2.other_row hA.1 _
          · go_simp
            have hbz := below1 c (.cells (cellsS stZ) 115)
            have hF2 : Below w1.heap.size w1 (c.alloc (.cells (cellsS stZ) 115)) ∧ (c.alloc (.cells (cellsS stZ) 115)).cell? ⟨g, 0, none⟩ = some (.slice a1 ts.length c1) ∧ (c.alloc (.cells (cellsS stZ) 115)).cell? ⟨g, 1, none⟩ = some (.slice a2 bs.length c2) := ⟨(hF.1.trans (hbz.mono hF.1.size)), cell_later hbz hF.2.1, cell_later hbz hF.2.2⟩
            have hA := And.intro (heap_new c (cellsS stZ) 115) (hF.1.size)
            refine hK.out _ _ (cellsH_S (heap_later (hF2.1) (by omega) HH1.out)) (fun _ => ?_)
            clear hK K
            try simp only [Act.put, List.setIfInBounds_toArray, List.set_cons_zero, List.set_cons_succ]
            generalize c.heap.size = B7 at hA ⊢
            obtain ⟨cw2, hcw2⟩ : ∃ cw2, cw2 = c.alloc (.cells (cellsS stZ) 115) := ⟨_, rfl⟩
            change wpAnyH _ _ _ _ _ _ _ _ (c.alloc (.cells (cellsS stZ) 115))
            rw [← hcw2] at hF2 hA ⊢
            clear hcw2 hbz hF
            obtain ⟨c, rfl⟩ : ∃ c, c = cw2 := ⟨_, rfl⟩
            have hF := hF2; clear hF2
            refine wpAnyH_ready (rs := [6]) (by kernel_rfl) (by simp) ?_
            refine AllReadyH.cons rfl (fun K hK => ?_) AllReadyH.nil
            go_simp
            go_at_call 82
            (with_reducible refine (HCC.out g _ hF.2.1 hF.2.2 (HT.out.below (HB01.out.trans (hF.1.mono HB01.out.size))) (HV.out.below (HB01.out.trans (hF.1.mono HB01.out.size)))).mono ?_)
            rintro e cw2 ⟨v2, rfl, ho2, hb2⟩
            have hs2 : Bs cw2 v2 zs := Sl.of_own ho2
            have hbn := hF.1.trans (hb2.mono hF.1.size)
            refine hK.out _ _ (cellsH_S (heap_later (hbn) (by omega) HH1.out)) (fun _ => ?_)
            clear hK K
            try simp only [Act.put, List.setIfInBounds_toArray, List.set_cons_zero, List.set_cons_succ]
            have hA2 := And.intro (heap_later hb2 (heap_lt hA.1) hA.1) hA.2
            have hF2 := And.intro hbn hs2
            clear hF ho2 hb2 hs2 hbn hA
            obtain ⟨c, rfl⟩ : ∃ c, c = cw2 := ⟨_, rfl⟩
            have hF := hF2; clear hF2
            have hA := hA2; clear hA2
            refine wpAnyH_ready (rs := [7]) (by kernel_rfl) (by simp) ?_
            refine AllReadyH.cons rfl (fun K hK => ?_) AllReadyH.nil
            go_simp
            go_at_call 81
            (with_reducible refine (HAB.out v2 _ hF.2 (HK.out.later (HB01.out.trans (hF.1.mono HB01.out.size)) (Nat.le_refl _))).mono ?_)
            rintro e cw2 ⟨v3, rfl, hs3, hb3⟩
            have hs3b := hs3.below hb3
            obtain ⟨a3, c3, rfl, _, _⟩ := Sl.shape hs3b
            have hbn := hF.1.trans (hb3.mono hF.1.size)
            refine hK.out _ _ (cellsH_S (heap_later (hbn) (by omega) HH1.out)) (fun _ => ?_)
            clear hK K
            try simp only [Act.put, List.setIfInBounds_toArray, List.set_cons_zero, List.set_cons_succ]
            have hA2 := And.intro (heap_later hb3 (heap_lt hA.1) hA.1) hA.2
            have hF2 := And.intro hbn hs3b
            clear hF hb3 hs3 hs3b hbn hA
            unfold aggS
            obtain ⟨c, rfl⟩ : ∃ c, c = cw2 := ⟨_, rfl⟩
            have hF := hF2; clear hF2
            have hA := hA2; clear hA2
            have hHeld := cellsH_S (heap_later hF.1 (by omega) HH1.out)
            refine wpAnyH_take (i := 8) (oi := ⟨some 23, _, _, _, _, _⟩) (v := ?v14) rfl (by kernel_rfl) (by kernel_rfl) (by kernel_rfl) (fun _ _ _ h => h) (Or.inl ⟨by rfl, ?y14⟩) (by assumption) ?_
            case y14 => (intro w hSw; (try dsimp only at hSw); go_simp; try (with_reducible rfl))
            try simp only [Act.put, List.setIfInBounds_toArray, List.set_cons_zero, List.set_cons_succ]
            refine wpAnyH_take (i := 9) (oi := ⟨some 32, _, _, _, _, _⟩) (v := ?v15) rfl (by kernel_rfl) (by kernel_rfl) (by kernel_rfl) (fun _ _ _ h => h) (Or.inl ⟨by rfl, ?y15⟩) (by assumption) ?_
            case y15 => (intro w hSw; (try dsimp only at hSw); go_simp; try (with_reducible rfl))
            try simp only [Act.put, List.setIfInBounds_toArray, List.set_cons_zero, List.set_cons_succ]
            refine wpAnyH_take (i := 10) (oi := ⟨some 33, _, _, _, _, _⟩) (v := ?v16) rfl (by kernel_rfl) (by kernel_rfl) (by kernel_rfl) (fun _ _ _ h => h) (Or.inl ⟨by rfl, ?y16⟩) (by assumption) ?_
            case y16 => (intro w hSw; (try dsimp only at hSw); go_simp; try (with_reducible rfl))
            try simp only [Act.put, List.setIfInBounds_toArray, List.set_cons_zero, List.set_cons_succ]
            clear hHeld
            refine wpAnyH_ready (rs := [12]) (by kernel_rfl) (by simp) ?_
            refine AllReadyH.cons (o := ⟨none, _, _, _, _, _⟩) rfl (fun K hK => ?_) AllReadyH.nil
            rw [if_pos (by rfl)]
            refine wp_store_row (P := Tryd.prog) 115 (.tmp 7) (.tmp 32) rfl B7 (cellsS r) rfl rfl 115 _ hA.1 (by kernel_rfl) rfl (by simp [cellsS, U32_one]) ?_
            have hbr := below_row (hF.1) hA.2 (cellsS r)
            refine hK.out _ _ (cellsH_S (heap_later hbr (by omega) HH1.out)) (fun hHeld => ?_)
            clear hK K
            try simp only [Act.put, List.setIfInBounds_toArray, List.set_cons_zero, List.set_cons_succ]
            refine wpAnyH_take (i := 13) (oi := ⟨some 8, _, _, _, _, _⟩) (v := ?v17) rfl (by kernel_rfl) (by kernel_rfl) (by kernel_rfl) (fun _ _ _ h => h) (Or.inl ⟨by rfl, ?y17⟩) (by assumption) ?_
            case y17 => (intro w hSw; (try dsimp only at hSw); go_simp; try (with_reducible rfl))
            try simp only [Act.put, List.setIfInBounds_toArray, List.set_cons_zero, List.set_cons_succ]
            refine wpAnyH_done (by kernel_rfl) ?_ _
            refine NoPanic.normal ?_
            refine h2 _ _ (Met.intro (h1 _ _ ?_))
            refine ⟨_, _, _, _, _, _, _, _, _, _, _, _, _, _, _, _, _, _, _, _, _, _, _, _, _, _, _, _, _, _, _, _, _, _, _, _, _, ⟨B7, _, _, rfl, rfl, ?_, setRow_heap _ _ _ _ _ _ hA.1, hbr, hA.2⟩, rfl⟩
            exact hF.2.other_row hA.1 _
        · go_simp
          have hbz := below1 c (.cells (cellsS stZ) 115)
          have hF2 : Below w1.heap.size w1 (c.alloc (.cells (cellsS stZ) 115)) := (hF.trans (hbz.mono hF.size))
          have hA := And.intro (heap_new c (cellsS stZ) 115) (hF.size)
          refine hK.out _ _ (cellsH_S (heap_later (hF2) (by omega) HH1.out)) (fun _ => ?_)
          clear hK K
          try simp only [Act.put, List.setIfInBounds_toArray, List.set_cons_zero, List.set_cons_succ]
          generalize c.heap.size = B7 at hA ⊢
          obtain ⟨cw2, hcw2⟩ : ∃ cw2, cw2 = c.alloc (.cells (cellsS stZ) 115) := ⟨_, rfl⟩
          change wpAnyH _ _ _ _ _ _ _ _ (c.alloc (.cells (cellsS stZ) 115))
          rw [← hcw2] at hF2 hA ⊢
          clear hcw2 hbz hF
          obtain ⟨c, rfl⟩ : ∃ c, c = cw2 := ⟨_, rfl⟩
          have hF := hF2; clear hF2
          refine wpAnyH_ready (rs := [5]) (by kernel_rfl) (by simp) ?_
          refine AllReadyH.cons rfl (fun K hK => ?_) AllReadyH.nil
          go_simp
          have hg := two_cells c (.slice a1 ts.length c1) (.slice a2 bs.length c2) 22
          have hbn := hF.trans ((below1 c (.cells #[.slice a1 ts.length c1, .slice a2 bs.length c2] 22)).mono hF.size)
          refine hK.out _ _ (cellsH_S (heap_later (hbn) (by omega) HH1.out)) (fun _ => ?_)
          clear hK K
          try simp only [Act.put, List.setIfInBounds_toArray, List.set_cons_zero, List.set_cons_succ]
          have hA2 := And.intro (heap_later (below1 c (.cells #[.slice a1 ts.length c1, .slice a2 bs.length c2] 22)) (heap_lt hA.1) hA.1) hA.2
          generalize hgg : c.heap.size = g at hg ⊢
          obtain ⟨cw2, hcw2⟩ : ∃ cw2, cw2 = c.alloc (.cells #[.slice a1 ts.length c1, .slice a2 bs.length c2] 22) := ⟨_, rfl⟩
          rw [← hcw2] at hg hbn hA2 ⊢
          have hF2 := And.intro hbn hg
          clear hcw2 hgg hF hbn hg hA
          obtain ⟨c, rfl⟩ : ∃ c, c = cw2 := ⟨_, rfl⟩
          have hF := hF2; clear hF2
          have hA := hA2; clear hA2
          refine wpAnyH_ready (rs := [6]) (by kernel_rfl) (by simp) ?_
          refine AllReadyH.cons rfl (fun K hK => ?_) AllReadyH.nil
          go_simp
          go_at_call 82
          (with_reducible refine (HCC.out g _ hF.2.1 hF.2.2 (HT.out.below (HB01.out.trans (hF.1.mono HB01.out.size))) (HV.out.below (HB01.out.trans (hF.1.mono HB01.out.size)))).mono ?_)
          rintro e cw2 ⟨v2, rfl, ho2, hb2⟩
          have hs2 : Bs cw2 v2 zs := Sl.of_own ho2
          have hbn := hF.1.trans (hb2.mono hF.1.size)
          refine hK.out _ _ (cellsH_S (heap_later (hbn) (by omega) HH1.out)) (fun _ => ?_)
          clear hK K
          try simp only [Act.put, List.setIfInBounds_toArray, List.set_cons_zero, List.set_cons_succ]
          have hA2 := And.intro (heap_later hb2 (heap_lt hA.1) hA.1) hA.2
          have hF2 := And.intro hbn hs2
          clear hF ho2 hb2 hs2 hbn hA
          obtain ⟨c, rfl⟩ : ∃ c, c = cw2 := ⟨_, rfl⟩
          have hF := hF2; clear hF2
          have hA := hA2; clear hA2
          refine wpAnyH_ready (rs := [7]) (by kernel_rfl) (by simp) ?_
          refine AllReadyH.cons rfl (fun K hK => ?_) AllReadyH.nil
          go_simp
          go_at_call 81
          (with_reducible refine (HAB.out v2 _ hF.2 (HK.out.later (HB01.out.trans (hF.1.mono HB01.out.size)) (Nat.le_refl _))).mono ?_)
          rintro e cw2 ⟨v3, rfl, hs3, hb3⟩
          have hs3b := hs3.below hb3
          obtain ⟨a3, c3, rfl, _, _⟩ := Sl.shape hs3b
          have hbn := hF.1.trans (hb3.mono hF.1.size)
          refine hK.out _ _ (cellsH_S (heap_later (hbn) (by omega) HH1.out)) (fun _ => ?_)
          clear hK K
          try simp only [Act.put, List.setIfInBounds_toArray, List.set_cons_zero, List.set_cons_succ]
          have hA2 := And.intro (heap_later hb3 (heap_lt hA.1) hA.1) hA.2
          have hF2 := And.intro hbn hs3b
          clear hF hb3 hs3 hs3b hbn hA
          unfold aggS
          obtain ⟨c, rfl⟩ : ∃ c, c = cw2 := ⟨_, rfl⟩
          have hF := hF2; clear hF2
          have hA := hA2; clear hA2
          have hHeld := cellsH_S (heap_later hF.1 (by omega) HH1.out)
          refine wpAnyH_take (i := 8) (oi := ⟨some 23, _, _, _, _, _⟩) (v := ?v18) rfl (by kernel_rfl) (by kernel_rfl) (by kernel_rfl) (fun _ _ _ h => h) (Or.inl ⟨by rfl, ?y18⟩) (by assumption) ?_
          case y18 => (intro w hSw; (try dsimp only at hSw); go_simp; try (with_reducible rfl))
          try simp only [Act.put, List.setIfInBounds_toArray, List.set_cons_zero, List.set_cons_succ]
          refine wpAnyH_take (i := 9) (oi := ⟨some 32, _, _, _, _, _⟩) (v := ?v19) rfl (by kernel_rfl) (by kernel_rfl) (by kernel_rfl) (fun _ _ _ h => h) (Or.inl ⟨by rfl, ?y19⟩) (by assumption) ?_
          case y19 => (intro w hSw; (try dsimp only at hSw); go_simp; try (with_reducible rfl))
          try simp only [Act.put, List.setIfInBounds_toArray, List.set_cons_zero, List.set_cons_succ]
          refine wpAnyH_take (i := 10) (oi := ⟨some 33, _, _, _, _, _⟩) (v := ?v20) rfl (by kernel_rfl) (by kernel_rfl) (by kernel_rfl) (fun _ _ _ h => h) (Or.inl ⟨by rfl, ?y20⟩) (by assumption) ?_
          case y20 => (intro w hSw; (try dsimp only at hSw); go_simp; try (with_reducible rfl))
          try simp only [Act.put, List.setIfInBounds_toArray, List.set_cons_zero, List.set_cons_succ]
          clear hHeld
          refine wpAnyH_ready (rs := [12]) (by kernel_rfl) (by simp) ?_
          refine AllReadyH.cons (o := ⟨none, _, _, _, _, _⟩) rfl (fun K hK => ?_) AllReadyH.nil
          rw [if_pos (by rfl)]
          refine wp_store_row (P := Tryd.prog) 115 (.tmp 7) (.tmp 32) rfl B7 (cellsS r) rfl rfl 115 _ hA.1 (by kernel_rfl) rfl (by simp [cellsS, U32_one]) ?_
          have hbr := below_row (hF.1) hA.2 (cellsS r)
          refine hK.out _ _ (cellsH_S (heap_later hbr (by omega) HH1.out)) (fun hHeld => ?_)
          clear hK K
          try simp only [Act.put, List.setIfInBounds_toArray, List.set_cons_zero, List.set_cons_succ]
          refine wpAnyH_take (i := 13) (oi := ⟨some 8, _, _, _, _, _⟩) (v := ?v21) rfl (by kernel_rfl) (by kernel_rfl) (by kernel_rfl) (fun _ _ _ h => h) (Or.inl ⟨by rfl, ?y21⟩) (by assumption) ?_
          case y21 => (intro w hSw; (try dsimp only at hSw); go_simp; try (with_reducible rfl))
          try simp only [Act.put, List.setIfInBounds_toArray, List.set_cons_zero, List.set_cons_succ]
          refine wpAnyH_done (by kernel_rfl) ?_ _
          refine NoPanic.normal ?_
          refine h2 _ _ (Met.intro (h1 _ _ ?_))
          refine ⟨_, _, _, _, _, _, _, _, _, _, _, _, _, _, _, _, _, _, _, _, _, _, _, _, _, _, _, _, _, _, _, _, _, _, _, _, _, ⟨B7, _, _, rfl, rfl, ?_, setRow_heap _ _ _ _ _ _ hA.1, hbr, hA.2⟩, rfl⟩
          exact hF.2.other_row hA.1 _
      · obtain ⟨B7, a, c, rfl, rfl, ht, hB7, hbc, hB7s⟩ := hcut
        have hsc := hbc.size
        have hS0 : (wc.drew.cell? ⟨B7, 0, none⟩ = some (U32 r.a) ∧ wc.drew.cell? ⟨B7, 1, none⟩ = some (U32 r.b) ∧ wc.drew.cell? ⟨B7, 2, none⟩ = some (U32 r.c) ∧ wc.drew.cell? ⟨B7, 3, none⟩ = some (U32 r.d) ∧ wc.drew.cell? ⟨B7, 4, none⟩ = some (U32 r.e) ∧ wc.drew.cell? ⟨B7, 5, none⟩ = some (U32 r.f) ∧ wc.drew.cell? ⟨B7, 6, none⟩ = some (U32 r.g) ∧ wc.drew.cell? ⟨B7, 7, none⟩ = some (U32 r.h)) ∧ wc.drew.cell? ⟨w.heap.size, 9, none⟩ = some (.int .u64 (n : Int)) := ⟨cells_of (w := wc.drew) hB7, cell_row (heap_later (W := w1) (w1 := wc.drew) hbc.drew (by omega) HH1.out) 9⟩
        have hwrap : IntKind.u64.wrap ((n : Int) + (bs.length : Int)) = (n : Int) + (bs.length : Int) := by rw [IntKind.wrap_u64]; omega
        have hwk : IntKind.u64.wrap (bs.length : Int) = (bs.length : Int) := by rw [IntKind.wrap_u64]; omega
        have hn0 : 0 ≤ 8192 - (n : Int) := by omega
        have ht2 : Bs wc.drew (.slice a tl.length c) tl := ht
        have HT2 := Lib.hid ht2; have HB7 := Lib.hid hB7; have HBC := Lib.hid hbc; clear ht2 hB7 hbc
        clear ht
        go_wp2_with fail
        refine wp_region_noPanic ?_
        refine wp_region_held_drew (S := fun w' => (w'.cell? ⟨B7, 0, none⟩ = some (U32 r.a) ∧ w'.cell? ⟨B7, 1, none⟩ = some (U32 r.b) ∧ w'.cell? ⟨B7, 2, none⟩ = some (U32 r.c) ∧ w'.cell? ⟨B7, 3, none⟩ = some (U32 r.d) ∧ w'.cell? ⟨B7, 4, none⟩ = some (U32 r.e) ∧ w'.cell? ⟨B7, 5, none⟩ = some (U32 r.f) ∧ w'.cell? ⟨B7, 6, none⟩ = some (U32 r.g) ∧ w'.cell? ⟨B7, 7, none⟩ = some (U32 r.h)) ∧ w'.cell? ⟨w.heap.size, 9, none⟩ = some (.int .u64 (n : Int))) (by kernel_rfl) (hS0) (fun hHeld => ?_)
        clear hS0
        refine wpAnyH_take (i := 0) (v := ?v22) rfl (by kernel_rfl) (by kernel_rfl) (by kernel_rfl) (fun _ _ _ h => h) (Or.inl ⟨by rfl, ?y22⟩) (by assumption) ?_
        case y22 => (intro w hSw; (try dsimp only at hSw); go_simp; try (with_reducible rfl))
        try simp only [Act.put, List.setIfInBounds_toArray, List.set_cons_zero, List.set_cons_succ]
        refine wpAnyH_take (i := 1) (v := ?v23) rfl (by kernel_rfl) (by kernel_rfl) (by kernel_rfl) (fun _ _ _ h => h) (Or.inl ⟨by rfl, ?y23⟩) (by assumption) ?_
        case y23 => (intro w hSw; (try dsimp only at hSw); go_simp; try (with_reducible rfl))
        try simp only [Act.put, List.setIfInBounds_toArray, List.set_cons_zero, List.set_cons_succ]
        refine wpAnyH_take (i := 3) (v := ?v24) rfl (by kernel_rfl) (by kernel_rfl) (by kernel_rfl) (fun _ _ _ h => h) (Or.inl ⟨by rfl, ?y24⟩) (by assumption) ?_
        case y24 => (intro w hSw; (try dsimp only at hSw); go_simp; try (with_reducible rfl))
        try simp only [Act.put, List.setIfInBounds_toArray, List.set_cons_zero, List.set_cons_succ]
        refine wpAnyH_take (i := 4) (v := ?v25) rfl (by kernel_rfl) (by kernel_rfl) (by kernel_rfl) (fun _ _ _ h => h) (Or.inl ⟨by rfl, ?y25⟩) (by assumption) ?_
        case y25 => (intro w hSw; (try dsimp only at hSw); go_simp; try (with_reducible rfl))
        try simp only [Act.put, List.setIfInBounds_toArray, List.set_cons_zero, List.set_cons_succ]
        refine wpAnyH_take (i := 5) (v := ?v26) rfl (by kernel_rfl) (by kernel_rfl) (by kernel_rfl) (fun _ _ _ h => h) (Or.inl ⟨by rfl, ?y26⟩) (by assumption) ?_
        case y26 => (intro w hSw; (try dsimp only at hSw); go_simp; try (with_reducible rfl))
        try simp only [Act.put, List.setIfInBounds_toArray, List.set_cons_zero, List.set_cons_succ]
        refine wpAnyH_take (i := 6) (v := ?v27) rfl (by kernel_rfl) (by kernel_rfl) (by kernel_rfl) (fun _ _ _ h => h) (Or.inl ⟨by rfl, ?y27⟩) (by assumption) ?_
        case y27 => (intro w hSw; (try dsimp only at hSw); go_simp; try (with_reducible rfl))
        try simp only [Act.put, List.setIfInBounds_toArray, List.set_cons_zero, List.set_cons_succ]
        refine wpAnyH_take (i := 7) (v := ?v28) rfl (by kernel_rfl) (by kernel_rfl) (by kernel_rfl) (fun _ _ _ h => h) (Or.inl ⟨by rfl, ?y28⟩) (by assumption) ?_
        case y28 => (intro w hSw; (try dsimp only at hSw); go_simp; try (with_reducible rfl))
        try simp only [Act.put, List.setIfInBounds_toArray, List.set_cons_zero, List.set_cons_succ]
        refine wpAnyH_take (i := 8) (v := ?v29) rfl (by kernel_rfl) (by kernel_rfl) (by kernel_rfl) (fun _ _ _ h => h) (Or.inl ⟨by rfl, ?y29⟩) (by assumption) ?_
        case y29 => (intro w hSw; (try dsimp only at hSw); go_simp; try (with_reducible rfl))
        try simp only [Act.put, List.setIfInBounds_toArray, List.set_cons_zero, List.set_cons_succ]
        refine wpAnyH_ready (rs := [2]) (by kernel_rfl) (by simp) ?_
        refine AllReadyH.cons rfl (fun K hK => ?_) AllReadyH.nil
        go_simp
        go_at_call 69
        (with_reducible refine (clone_any _ tl _ HT2.out (by omega)).mono ?_)
        rintro e w5 ⟨v5, rfl, ho5, hb5⟩
        have HO5 := Lib.hid ho5; have HB5 := Lib.hid hb5; clear ho5 hb5
        refine hK.out _ _ (⟨cells_of (heap_later HB5.out (heap_lt HB7.out) HB7.out), cell_row (heap_later (HBC.out.drew.trans (HB5.out.mono HBC.out.size)) (by omega) HH1.out) 9⟩) (fun hHeld => ?_)
        clear hK K
        try simp only [Act.put, List.setIfInBounds_toArray, List.set_cons_zero, List.set_cons_succ]
        obtain ⟨a5, c5, rfl, _, _⟩ := Sl.shape (Sl.of_own HO5.out)
        have hR5 : w5.heap[w.heap.size + 1]? = some (.cells (cellsH stZ (.slice none 0 0) 0) 117 (0, 0)) := heap_later (HBC.out.drew.trans (HB5.out.mono HBC.out.size)) (by omega) HH2.out
        refine wpAnyH_take (i := 9) (oi := ⟨some 43, _, _, _, _, _⟩) (v := ?v30) rfl (by kernel_rfl) (by kernel_rfl) (by kernel_rfl) (fun _ _ _ h => h) (Or.inl ⟨by rfl, ?y30⟩) (by assumption) ?_
        case y30 => (intro w hSw; (try dsimp only at hSw); go_simp; try (with_reducible rfl))
        try simp only [Act.put, List.setIfInBounds_toArray, List.set_cons_zero, List.set_cons_succ]
        refine wpAnyH_ready (rs := [10]) (by kernel_rfl) (by simp) ?_
        refine AllReadyH.cons (o := ⟨none, _, _, _, _, _⟩) rfl (fun K hK => ?_) AllReadyH.nil
        rw [if_pos (by rfl)]
        refine wp_store_row (P := Tryd.prog) 117 (.tmp 4) (.tmp 43) rfl (w.heap.size + 1) #[U32 r.a, U32 r.b, U32 r.c, U32 r.d, U32 r.e, U32 r.f, U32 r.g, U32 r.h, .slice a5 tl.length c5, .int .u64 ((n : Int) + (bs.length : Int))] rfl rfl 117 _ hR5 (by kernel_rfl) rfl (by simp [U32_one, one_slice, one_int]) ?_
        refine hK.out _ _ ⟨cells_of ((setRow_other w5 (w.heap.size + 1) B7 _ (by omega)).trans (heap_later HB5.out (heap_lt HB7.out) HB7.out)), cell_row ((setRow_other w5 (w.heap.size + 1) w.heap.size _ (by omega)).trans (heap_later (HBC.out.drew.trans (HB5.out.mono HBC.out.size)) (by omega) HH1.out)) 9⟩ (fun hHeld => ?_)
        clear hK K
        try simp only [Act.put, List.setIfInBounds_toArray, List.set_cons_zero, List.set_cons_succ]
        refine wpAnyH_take (i := 11) (oi := ⟨some 5, _, _, _, _, _⟩) (v := ?v31) rfl (by kernel_rfl) (by kernel_rfl) (by kernel_rfl) (fun _ _ _ h => h) (Or.inl ⟨by rfl, ?y31⟩) (by assumption) ?_
        case y31 => (intro w hSw; (try dsimp only at hSw); go_simp; try (with_reducible rfl))
        try simp only [Act.put, List.setIfInBounds_toArray, List.set_cons_zero, List.set_cons_succ]
        refine wpAnyH_done (by kernel_rfl) ?_ _
        refine NoPanic.normal ?_
        have hbf : Below w.heap.size w w5 := HB01.out.trans ((HBC.out.drew.trans (HB5.out.mono HBC.out.size)).mono (by omega))
        have HR5 := Lib.hid hR5; have HBF := Lib.hid hbf; clear hR5 hbf
        go_wp2_with fail
        refine ret_row_tmp rfl (w.heap.size + 1) 117 _ (setRow_heap _ _ _ _ _ _ HR5.out) _ Tryd.underlying117 10 (by kernel_rfl) rfl rfl rfl rfl ?_
        exact ⟨a5, c5, rfl, own_base (own_row HO5.out (show w.heap.size + 1 < wc.heap.size by omega) _) (show w.heap.size ≤ wc.heap.size by omega), below_row HBF.out (by omega) _⟩
end Go.Proofs.YtioonimpobcglaaDoor
