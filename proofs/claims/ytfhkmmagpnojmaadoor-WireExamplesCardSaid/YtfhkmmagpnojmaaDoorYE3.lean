/- Several texts under one header: what the claim needs of Bc. No condition but those that each names. -/
import Derived.Test.YtfhkmmagpnojmaaDoorYE1
import Derived.Test.YtfhkmmagpnojmaaDoorYE2
import Derived.Deep.DeepCutAuto
import Derived.Test.YtfhkmmagpnojmaaDoorYE0
import Derived.Laws.CopyOwn
import Derived.Laws.BitsAllLaws
set_option linter.unusedSimpArgs false
set_option linter.unusedVariables false

/- Several texts under one header: Write, Finish, RefWrite, RefFinish, Sum, ShaLaw, SumP, Masked. No condition but those that each names. -/

/- The hash after some more bytes: what digest.Write returns, in new memory; what was there stays. No condition but the table of constants. -/
namespace Go.Proofs.YtfhkmmagpnojmaaDoor
open Go.RowKit

/-- The error of k bytes behind a hash of n bytes with a tail of m. -/
def wE (m n k : Nat) : Int := if chkB m n then (if 8192 - n < k then 4 else 0) else 8
def stZ : St := ⟨0, 0, 0, 0, 0, 0, 0, 0⟩
/-- The state, the tail and the length behind bs. -/
def wS (s : St) (ts : List UInt8) (n : Nat) (bs : List UInt8) : St := if wE ts.length n bs.length = 0 then absS s (ts ++ bs) ((ts ++ bs).length / 64) else stZ
def wT (ts : List UInt8) (n : Nat) (bs : List UInt8) : List UInt8 := if wE ts.length n bs.length = 0 then (ts ++ bs).drop (64 * ((ts ++ bs).length / 64)) else []
def wN (m n k : Nat) : Nat := if wE m n k = 0 then n + k else 0
/-- What a call leaves that returns a hash in new memory and an error's number. -/
def FreshHE (w : World) (s : St) (ts : List UInt8) (n : Nat) (code : Int) (e : Ending) (w' : World) : Prop :=
  ∃ a c, e = .returned (.tuple #[hashV s (.slice a ts.length c) n, .int .i64 code]) ∧ w'.ownsRow w.heap.size 5 1 (.slice a ts.length c) ts.length (ts.map by8) ∧ Below w.heap.size w w'
theorem freshZ {w w' : World} {code : Int} (hb : Below w.heap.size w w') : FreshHE w stZ [] 0 code (.returned (.tuple #[.agg (cellsH stZ (.slice none 0 0) 0), .int .i64 code])) w' := ⟨none, 0, rfl, World.ownsRow_nil _ _ _ _, hb⟩
theorem cellsH_S {w : World} {g : Nat} {s : St} {t : Value} {n : Nat} (h : w.heap[g]? = some (.cells (cellsH s t n) 137 (0, 0))) :
    (w.cell? ⟨g, 0, none⟩ = some (U32 s.a) ∧ w.cell? ⟨g, 1, none⟩ = some (U32 s.b) ∧ w.cell? ⟨g, 2, none⟩ = some (U32 s.c) ∧ w.cell? ⟨g, 3, none⟩ = some (U32 s.d) ∧ w.cell? ⟨g, 4, none⟩ = some (U32 s.e) ∧ w.cell? ⟨g, 5, none⟩ = some (U32 s.f) ∧ w.cell? ⟨g, 6, none⟩ = some (U32 s.g) ∧ w.cell? ⟨g, 7, none⟩ = some (U32 s.h)) ∧ w.cell? ⟨g, 8, none⟩ = some t :=
  ⟨⟨cell_row h 0, cell_row h 1, cell_row h 2, cell_row h 3, cell_row h 4, cell_row h 5, cell_row h 6, cell_row h 7⟩, cell_row h 8⟩
/-- Bytes do not lie among words. -/
theorem Bs.other_row {w : World} {g : Nat} {r : St} {t : TypeId} {v : Value} {xs : List UInt8} (h : Bs w v xs) (hA : w.heap[g]? = some (.cells (cellsS r) t (0, 0))) (cs : Array Value) : Bs (w.setRow g cs) v xs := by
  rcases h.cases with ⟨a, rfl, rfl⟩ | ⟨b, off, cap, rfl, h1, h2, hc⟩
  · exact Bs.mk0 _ _
  · refine Bs.mk h1 h2 fun i hi => ?_
    have hci := hc i hi
    have hne : b ≠ g := by
      rintro rfl
      rw [cell_row hA] at hci
      have hj : off + i < 8 := by
        rcases Nat.lt_or_ge (off + i) 8 with h | h
        · exact h
        · rw [Array.getElem?_eq_none (by simpa [cellsS] using h)] at hci; cases hci
      have : ∀ j, j < 8 → ∃ x : UInt32, (cellsS r)[j]? = some (U32 x) := fun j hj => ⟨_, cellsS_get r j hj⟩
      obtain ⟨x, hx⟩ := this _ hj
      rw [hx] at hci
      simp [U32] at hci
    exact (World.cell?_of_block (setRow_other w g b cs hne)).trans hci
set_option maxRecDepth 20000 in
set_option maxHeartbeats 1000000 in
theorem write_any (s : St) (t v : Value) (ts bs : List UInt8) (n : Nat) (w : World) (ht : Bs w t ts) (hv : Bs w v bs) (hK : KT w) :
    Calls Tryd.prog 74 #[.agg #[U32 s.a, U32 s.b, U32 s.c, U32 s.d, U32 s.e, U32 s.f, U32 s.g, U32 s.h, t, .int .u64 (n : Int)], v] w (FreshHE w (wS s ts n bs) (wT ts n bs) (wN ts.length n bs.length) (wE ts.length n bs.length)) := by
  obtain ⟨a1, c1, rfl, k1, k2⟩ := Sl.shape ht
  obtain ⟨a2, c2, rfl, k3, k4⟩ := Sl.shape hv
  unfold maxLen at k2 k4
  have HT := Lib.hid ht; have HV := Lib.hid hv; have HK := Lib.hid hK; clear ht hv hK
  cases hB : chkB ts.length n
  · have hE : wE ts.length n bs.length = 8 := by simp [wE, hB]
    have hC : chkE ts.length n = 8 := by simp [chkE, hB]
    simp only [wS, wT, wN, hE]
    rw [if_neg (by decide), if_neg (by decide), if_neg (by decide)]
    have HC := Lib.hid hC; clear hC
    clear hB hE
    go_enter Tryd.func74, Tryd.ntmps74
    go_wp2_with (first | (go_at_call 88; (with_reducible refine (check_any s a1 ts.length c1 n _ (by omega)).mono ?_); rintro e w1 ⟨rfl, hb1⟩; have HB1 := Lib.hid hb1; clear hb1; rw [HC.out]) | ((with_reducible refine iO none (.store 137 (.tmp 4) (.tmp 13)) ?_); refine wpList_store_rowN rfl 137 (.tmp 4) (.tmp 13) rfl (w.heap.size + 1) _ rfl rfl 137 _ (heap_later HB1.out (by rw [size_two]; omega) (heap_two1 _ _ _)) 10 kR rfl rfl (by simp [U32_one, one_slice, one_int, one_bool]) ?_) | fail)
    refine ret_row_tmp rfl (w.heap.size + 1) 137 (cellsH stZ (.slice none 0 0) 0) (setRow_heap _ _ _ _ _ _ (heap_later HB1.out (by rw [size_two]; omega) (heap_two1 _ _ _))) _ Tryd.underlying137 10 kR rfl rfl rfl rfl ?_
    exact freshZ (below_row ((below2 _ _ _).trans (HB1.out.mono (by simp; omega))) (by omega) _)
  · have hn : n ≤ 8192 := by
      unfold chkB at hB
      simp only [Bool.and_eq_true, decide_eq_true_eq] at hB
      exact hB.1
    have htl : ts.length ≤ 64 := by
      unfold chkB at hB
      simp only [Bool.and_eq_true, decide_eq_true_eq] at hB
      omega
    have hC : chkE ts.length n = 0 := by simp [chkE, hB]
    by_cases hm : 8192 - n < bs.length
    · have hE : wE ts.length n bs.length = 4 := by simp [wE, hB, hm]
      simp only [wS, wT, wN, hE]
      rw [if_neg (by decide), if_neg (by decide), if_neg (by decide)]
      have hm' : 8192 - (n : Int) < (bs.length : Int) := by omega
      have HC := Lib.hid hC; clear hC
      clear hB hE hm
      go_enter Tryd.func74, Tryd.ntmps74
      go_wp2_with (first | (go_at_call 88; (with_reducible refine (check_any s a1 ts.length c1 n _ (by omega)).mono ?_); rintro e w1 ⟨rfl, hb1⟩; have HB1 := Lib.hid hb1; clear hb1; rw [HC.out]; obtain ⟨hc, hf⟩ := bcell HB1.out) | ((with_reducible refine iO none (.store 137 (.tmp 4) (.tmp 22)) ?_); refine wpList_store_rowN rfl 137 (.tmp 4) (.tmp 22) rfl (w.heap.size + 1) _ rfl rfl 137 _ (heap_later HB1.out (by rw [size_two]; omega) (heap_two1 _ _ _)) 10 kR rfl rfl (by simp [U32_one, one_slice, one_int, one_bool]) ?_) | fail)
      refine ret_row_tmp rfl (w.heap.size + 1) 137 (cellsH stZ (.slice none 0 0) 0) (setRow_heap _ _ _ _ _ _ (heap_later HB1.out (by rw [size_two]; omega) (heap_two1 _ _ _))) _ Tryd.underlying137 10 kR rfl rfl rfl rfl ?_
      exact freshZ (below_row ((below2 _ _ _).trans (HB1.out.mono (by simp; omega))) (by omega) _)
    · have hE : wE ts.length n bs.length = 0 := by simp [wE, hB, hm]
      simp only [wS, wT, wN, hE, if_true]
      have hm' : ¬ 8192 - (n : Int) < (bs.length : Int) := by omega
      have hbl : bs.length ≤ 8192 := by omega
      obtain ⟨zs, hzs⟩ : ∃ zs, zs = ts ++ bs := ⟨_, rfl⟩
      obtain ⟨r, hr⟩ : ∃ r, r = absS s zs (zs.length / 64) := ⟨_, rfl⟩
      obtain ⟨tl, htl2⟩ : ∃ tl, tl = zs.drop (64 * (zs.length / 64)) := ⟨_, rfl⟩
      have hcc := fun g w1 h1 h2 h3 h4 => concat_any g (.slice a1 ts.length c1) (.slice a2 bs.length c2) ts bs w1 h1 h2 h3 h4 (by omega)
      have hab := fun v2 w1 h1 h2 => absorb_any s v2 zs w1 h1 h2
      rw [← hzs] at hcc
      rw [← hr, ← htl2] at hab
      rw [← hzs, ← hr, ← htl2]
      have htll : tl.length ≤ 8300 := by rw [htl2, hzs]; simp; omega
      have HC := Lib.hid hC; have HCC := Lib.hid hcc; have HAB := Lib.hid hab; clear hC hcc hab
      clear hB hE hm hzs hr htl2
      go_enter Tryd.func74, Tryd.ntmps74
      go_wp2_with (first | (go_at_call 88; (with_reducible refine (check_any s a1 ts.length c1 n _ (by omega)).mono ?_); rintro e w1 ⟨rfl, hb1⟩; have HB1 := Lib.hid hb1; clear hb1; rw [HC.out]; obtain ⟨hc, hf⟩ := bcell HB1.out) | fail)
      have hH1 : w1.heap[w.heap.size]? = some (.cells (cellsH s (.slice a1 ts.length c1) n) 137 (0, 0)) := heap_later HB1.out (by rw [size_two]; omega) (heap_two0 _ _ _)
      have hH2 : w1.heap[w.heap.size + 1]? = some (.cells (cellsH stZ (.slice none 0 0) 0) 137 (0, 0)) := heap_later HB1.out (by rw [size_two]; omega) (heap_two1 _ _ _)
      have hb01 : Below w.heap.size w w1 := (below2 _ _ _).trans (HB1.out.mono (by simp; omega))
      have hs1 : w.heap.size + 2 ≤ w1.heap.size := by have := HB1.out.size; simp at this; omega
      have HH1 := Lib.hid hH1; have HH2 := Lib.hid hH2; have HB01 := Lib.hid hb01; clear hH1 hH2 hb01
      clear hc hf HB1
      go_cut [7, 8] (fun p t w' => ∃ B7 a c, p = .pointer (some ⟨B7, 0, none⟩) ∧ t = .slice a tl.length c ∧ Bs w' t tl ∧ w'.heap[B7]? = some (.cells (cellsS r) 135 (0, 0)) ∧ Below w1.heap.size w1 w' ∧ w1.heap.size ≤ B7)
      · rename_i h1 h2
        have hF : Below w1.heap.size w1 w1.drew := (Below.refl _ _).drew
        refine wp_region_noPanic ?_
        refine wp_region_held_drew (S := fun w' => (w'.cell? ⟨w.heap.size, 0, none⟩ = some (U32 s.a) ∧ w'.cell? ⟨w.heap.size, 1, none⟩ = some (U32 s.b) ∧ w'.cell? ⟨w.heap.size, 2, none⟩ = some (U32 s.c) ∧ w'.cell? ⟨w.heap.size, 3, none⟩ = some (U32 s.d) ∧ w'.cell? ⟨w.heap.size, 4, none⟩ = some (U32 s.e) ∧ w'.cell? ⟨w.heap.size, 5, none⟩ = some (U32 s.f) ∧ w'.cell? ⟨w.heap.size, 6, none⟩ = some (U32 s.g) ∧ w'.cell? ⟨w.heap.size, 7, none⟩ = some (U32 s.h)) ∧ w'.cell? ⟨w.heap.size, 8, none⟩ = some (.slice a1 ts.length c1)) kR (cellsH_S (heap_later hF (by omega) HH1.out)) (fun hHeld => ?_)
        obtain ⟨c, hc⟩ : ∃ c, c = w1.drew := ⟨_, rfl⟩
        rw [← hc] at hF hHeld ⊢
        clear hc
        refine wpAnyH_take (i := 0) (v := ?v1) rfl kR kR kR (fun _ _ _ h => h) (Or.inl ⟨by rfl, ?y1⟩) (by assumption) ?_
        case y1 => (intro w hSw; (try dsimp only at hSw); go_simp; try (with_reducible rfl))
        try simp only [Act.put, List.setIfInBounds_toArray, List.set_cons_zero, List.set_cons_succ]
        refine wpAnyH_take (i := 1) (v := ?v2) rfl kR kR kR (fun _ _ _ h => h) (Or.inl ⟨by rfl, ?y2⟩) (by assumption) ?_
        case y2 => (intro w hSw; (try dsimp only at hSw); go_simp; try (with_reducible rfl))
        try simp only [Act.put, List.setIfInBounds_toArray, List.set_cons_zero, List.set_cons_succ]
        refine wpAnyH_take (i := 2) (v := ?v3) rfl kR kR kR (fun _ _ _ h => h) (Or.inl ⟨by rfl, ?y3⟩) (by assumption) ?_
        case y3 => (intro w hSw; (try dsimp only at hSw); go_simp; try (with_reducible rfl))
        try simp only [Act.put, List.setIfInBounds_toArray, List.set_cons_zero, List.set_cons_succ]
        refine wpAnyH_take (i := 3) (v := ?v4) rfl kR kR kR (fun _ _ _ h => h) (Or.inl ⟨by rfl, ?y4⟩) (by assumption) ?_
        case y4 => (intro w hSw; (try dsimp only at hSw); go_simp; try (with_reducible rfl))
        try simp only [Act.put, List.setIfInBounds_toArray, List.set_cons_zero, List.set_cons_succ]
        refine wpAnyH_take (i := 4) (v := ?v5) rfl kR kR kR (fun _ _ _ h => h) (Or.inl ⟨by rfl, ?y5⟩) (by assumption) ?_
        case y5 => (intro w hSw; (try dsimp only at hSw); go_simp; try (with_reducible rfl))
        try simp only [Act.put, List.setIfInBounds_toArray, List.set_cons_zero, List.set_cons_succ]
        clear hHeld
        refine wpAnyH_ready (rs := [5, 11]) kR (by simp) ?_
        refine AllReadyH.cons rfl (fun K hK => ?_) (AllReadyH.cons rfl (fun K hK => ?_) AllReadyH.nil)
        · go_simp
          have hg := two_cells c (.slice a1 ts.length c1) (.slice a2 bs.length c2) 25
          have hbn := hF.trans ((below1 c (.cells #[.slice a1 ts.length c1, .slice a2 bs.length c2] 25)).mono hF.size)
          refine hK.out _ _ (cellsH_S (heap_later (hbn) (by omega) HH1.out)) (fun _ => ?_)
          clear hK K
          try simp only [Act.put, List.setIfInBounds_toArray, List.set_cons_zero, List.set_cons_succ]
          generalize hgg : c.heap.size = g at hg ⊢
          obtain ⟨cw2, hcw2⟩ : ∃ cw2, cw2 = c.alloc (.cells #[.slice a1 ts.length c1, .slice a2 bs.length c2] 25) := ⟨_, rfl⟩
          rw [← hcw2] at hg hbn ⊢
          have hF2 := And.intro hbn hg
          clear hcw2 hgg hF hbn hg
          obtain ⟨c, rfl⟩ : ∃ c, c = cw2 := ⟨_, rfl⟩
          have hF := hF2; clear hF2
          refine wpAnyH_ready (rs := [6, 11]) kR (by simp) ?_
          refine AllReadyH.cons rfl (fun K hK => ?_) (AllReadyH.cons rfl (fun K hK => ?_) AllReadyH.nil)
          · go_simp
            go_at_call 90
            (with_reducible refine (HCC.out g _ hF.2.1 hF.2.2 (HT.out.below (HB01.out.trans (hF.1.mono HB01.out.size))) (HV.out.below (HB01.out.trans (hF.1.mono HB01.out.size)))).mono ?_)
            rintro e cw2 ⟨v2, rfl, ho2, hb2⟩
            have hs2 : Bs cw2 v2 zs := Sl.of_own ho2
            have hbn := hF.1.trans (hb2.mono hF.1.size)
            refine hK.out _ _ (cellsH_S (heap_later (hbn) (by omega) HH1.out)) (fun _ => ?_)
            clear hK K
            try simp only [Act.put, List.setIfInBounds_toArray, List.set_cons_zero, List.set_cons_succ]
            have hF2 := And.intro hbn hs2
            clear hF ho2 hb2 hs2 hbn
            obtain ⟨c, rfl⟩ : ∃ c, c = cw2 := ⟨_, rfl⟩
            have hF := hF2; clear hF2
            refine wpAnyH_ready (rs := [7, 11]) kR (by simp) ?_
            refine AllReadyH.cons rfl (fun K hK => ?_) (AllReadyH.cons rfl (fun K hK => ?_) AllReadyH.nil)
            · go_simp
              go_at_call 89
              (with_reducible refine (HAB.out v2 _ hF.2 (HK.out.later (HB01.out.trans (hF.1.mono HB01.out.size)) (Nat.le_refl _))).mono ?_)
              rintro e cw2 ⟨v3, rfl, hs3, hb3⟩
              have hs3b := hs3.below hb3
              obtain ⟨a3, c3, rfl, _, _⟩ := Sl.shape hs3b
              have hbn := hF.1.trans (hb3.mono hF.1.size)
              refine hK.out _ _ (cellsH_S (heap_later (hbn) (by omega) HH1.out)) (fun _ => ?_)
              clear hK K
              try simp only [Act.put, List.setIfInBounds_toArray, List.set_cons_zero, List.set_cons_succ]
              have hF2 := And.intro hbn hs3b
              clear hF hb3 hs3 hs3b hbn
              unfold aggS
              obtain ⟨c, rfl⟩ : ∃ c, c = cw2 := ⟨_, rfl⟩
              have hF := hF2; clear hF2
              have hHeld := cellsH_S (heap_later hF.1 (by omega) HH1.out)
              refine wpAnyH_take (i := 8) (oi := ⟨some 23, _, _, _, _, _⟩) (v := ?v6) rfl kR kR kR (fun _ _ _ h => h) (Or.inl ⟨by rfl, ?y6⟩) (by assumption) ?_
              case y6 => (intro w hSw; (try dsimp only at hSw); go_simp; try (with_reducible rfl))
              try simp only [Act.put, List.setIfInBounds_toArray, List.set_cons_zero, List.set_cons_succ]
              refine wpAnyH_take (i := 9) (oi := ⟨some 32, _, _, _, _, _⟩) (v := ?v7) rfl kR kR kR (fun _ _ _ h => h) (Or.inl ⟨by rfl, ?y7⟩) (by assumption) ?_
              case y7 => (intro w hSw; (try dsimp only at hSw); go_simp; try (with_reducible rfl))
              try simp only [Act.put, List.setIfInBounds_toArray, List.set_cons_zero, List.set_cons_succ]
              refine wpAnyH_take (i := 10) (oi := ⟨some 33, _, _, _, _, _⟩) (v := ?v8) rfl kR kR kR (fun _ _ _ h => h) (Or.inl ⟨by rfl, ?y8⟩) (by assumption) ?_
              case y8 => (intro w hSw; (try dsimp only at hSw); go_simp; try (with_reducible rfl))
              try simp only [Act.put, List.setIfInBounds_toArray, List.set_cons_zero, List.set_cons_succ]
              clear hHeld
              refine wpAnyH_ready (rs := [11]) kR (by simp) ?_
              refine AllReadyH.cons rfl (fun K hK => ?_) AllReadyH.nil
              go_simp
              have hbz := below1 c (.cells (cellsS stZ) 135)
              have hF2 : Below w1.heap.size w1 (c.alloc (.cells (cellsS stZ) 135)) ∧ Bs (c.alloc (.cells (cellsS stZ) 135)) (.slice a3 _ c3) tl := ⟨(hF.1.trans (hbz.mono hF.1.size)), hF.2.below hbz⟩
              have hA := And.intro (heap_new c (cellsS stZ) 135) (hF.1.size)
              refine hK.out _ _ (cellsH_S (heap_later (hF2.1) (by omega) HH1.out)) (fun _ => ?_)
              clear hK K
              try simp only [Act.put, List.setIfInBounds_toArray, List.set_cons_zero, List.set_cons_succ]
              generalize c.heap.size = B7 at hA ⊢
              obtain ⟨cw2, hcw2⟩ : ∃ cw2, cw2 = c.alloc (.cells (cellsS stZ) 135) := ⟨_, rfl⟩
              change wpAnyH _ _ _ _ _ _ _ _ (c.alloc (.cells (cellsS stZ) 135))
              rw [← hcw2] at hF2 hA ⊢
              clear hcw2 hbz hF
              obtain ⟨c, rfl⟩ : ∃ c, c = cw2 := ⟨_, rfl⟩
              have hF := hF2; clear hF2
              refine wpAnyH_ready (rs := [12]) kR (by simp) ?_
              refine AllReadyH.cons (o := ⟨none, _, _, _, _, _⟩) rfl (fun K hK => ?_) AllReadyH.nil
              rw [if_pos (by rfl)]
              refine wp_store_row (P := Tryd.prog) 135 (.tmp 7) (.tmp 32) rfl B7 (cellsS r) rfl rfl 135 _ hA.1 kR rfl (by simp [cellsS, U32_one]) ?_
              have hbr := below_row (hF.1) hA.2 (cellsS r)
              refine hK.out _ _ (cellsH_S (heap_later hbr (by omega) HH1.out)) (fun hHeld => ?_)
              clear hK K
              try simp only [Act.put, List.setIfInBounds_toArray, List.set_cons_zero, List.set_cons_succ]
              refine wpAnyH_take (i := 13) (oi := ⟨some 8, _, _, _, _, _⟩) (v := ?v9) rfl kR kR kR (fun _ _ _ h => h) (Or.inl ⟨by rfl, ?y9⟩) (by assumption) ?_
              case y9 => (intro w hSw; (try dsimp only at hSw); go_simp; try (with_reducible rfl))
              try simp only [Act.put, List.setIfInBounds_toArray, List.set_cons_zero, List.set_cons_succ]
              refine wpAnyH_done kR ?_ _
              refine NoPanic.normal ?_
              refine h2 _ _ (Met.intro (h1 _ _ ?_))
              refine ⟨_, _, _, _, _, _, _, _, _, _, _, _, _, _, _, _, _, _, _, _, _, _, _, _, _, _, _, _, _, _, _, _, _, _, _, _, _, ⟨B7, _, _, rfl, rfl, ?_, setRow_heap _ _ _ _ _ _ hA.1, hbr, hA.2⟩, rfl⟩
              exact hF.2.other_row hA.1 _
            · go_simp
              have hbz := below1 c (.cells (cellsS stZ) 135)
              have hF2 : Below w1.heap.size w1 (c.alloc (.cells (cellsS stZ) 135)) ∧ Bs (c.alloc (.cells (cellsS stZ) 135)) v2 zs := ⟨(hF.1.trans (hbz.mono hF.1.size)), hF.2.below hbz⟩
              have hA := And.intro (heap_new c (cellsS stZ) 135) (hF.1.size)
              refine hK.out _ _ (cellsH_S (heap_later (hF2.1) (by omega) HH1.out)) (fun _ => ?_)
              clear hK K
              try simp only [Act.put, List.setIfInBounds_toArray, List.set_cons_zero, List.set_cons_succ]
              generalize c.heap.size = B7 at hA ⊢
              obtain ⟨cw2, hcw2⟩ : ∃ cw2, cw2 = c.alloc (.cells (cellsS stZ) 135) := ⟨_, rfl⟩
              change wpAnyH _ _ _ _ _ _ _ _ (c.alloc (.cells (cellsS stZ) 135))
              rw [← hcw2] at hF2 hA ⊢
              clear hcw2 hbz hF
              obtain ⟨c, rfl⟩ : ∃ c, c = cw2 := ⟨_, rfl⟩
              have hF := hF2; clear hF2
              refine wpAnyH_ready (rs := [7]) kR (by simp) ?_
              refine AllReadyH.cons rfl (fun K hK => ?_) AllReadyH.nil
              go_simp
              go_at_call 89
              (with_reducible refine (HAB.out v2 _ hF.2 (HK.out.later (HB01.out.trans (hF.1.mono HB01.out.size)) (Nat.le_refl _))).mono ?_)
              rintro e cw2 ⟨v3, rfl, hs3, hb3⟩
              have hs3b := hs3.below hb3
              obtain ⟨a3, c3, rfl, _, _⟩ := Sl.shape hs3b
              have hbn := hF.1.trans (hb3.mono hF.1.size)
              refine hK.out _ _ (cellsH_S (heap_later (hbn) (by omega) HH1.out)) (fun _ => ?_)
              clear hK K
              try simp only [Act.put, List.setIfInBounds_toArray, List.set_cons_zero, List.set_cons_succ]
              have hA2 := And.intro (heap_later hb3 (heap_lt hA.1) hA.1) hA.2
              have hF2 := And.intro hbn hs3b
              clear hF hb3 hs3 hs3b hbn hA
              unfold aggS
              obtain ⟨c, rfl⟩ : ∃ c, c = cw2 := ⟨_, rfl⟩
              have hF := hF2; clear hF2
              have hA := hA2; clear hA2
              have hHeld := cellsH_S (heap_later hF.1 (by omega) HH1.out)
              refine wpAnyH_take (i := 8) (oi := ⟨some 23, _, _, _, _, _⟩) (v := ?v10) rfl kR kR kR (fun _ _ _ h => h) (Or.inl ⟨by rfl, ?y10⟩) (by assumption) ?_
              case y10 => (intro w hSw; (try dsimp only at hSw); go_simp; try (with_reducible rfl))
              try simp only [Act.put, List.setIfInBounds_toArray, List.set_cons_zero, List.set_cons_succ]
              refine wpAnyH_take (i := 9) (oi := ⟨some 32, _, _, _, _, _⟩) (v := ?v11) rfl kR kR kR (fun _ _ _ h => h) (Or.inl ⟨by rfl, ?y11⟩) (by assumption) ?_
              case y11 => (intro w hSw; (try dsimp only at hSw); go_simp; try (with_reducible rfl))
              try simp only [Act.put, List.setIfInBounds_toArray, List.set_cons_zero, List.set_cons_succ]
              refine wpAnyH_take (i := 10) (oi := ⟨some 33, _, _, _, _, _⟩) (v := ?v12) rfl kR kR kR (fun _ _ _ h => h) (Or.inl ⟨by rfl, ?y12⟩) (by assumption) ?_
              case y12 => (intro w hSw; (try dsimp only at hSw); go_simp; try (with_reducible rfl))
              try simp only [Act.put, List.setIfInBounds_toArray, List.set_cons_zero, List.set_cons_succ]
              clear hHeld
              refine wpAnyH_ready (rs := [12]) kR (by simp) ?_
              refine AllReadyH.cons (o := ⟨none, _, _, _, _, _⟩) rfl (fun K hK => ?_) AllReadyH.nil
              rw [if_pos (by rfl)]
              refine wp_store_row (P := Tryd.prog) 135 (.tmp 7) (.tmp 32) rfl B7 (cellsS r) rfl rfl 135 _ hA.1 kR rfl (by simp [cellsS, U32_one]) ?_
              have hbr := below_row (hF.1) hA.2 (cellsS r)
              refine hK.out _ _ (cellsH_S (heap_later hbr (by omega) HH1.out)) (fun hHeld => ?_)
              clear hK K
              try simp only [Act.put, List.setIfInBounds_toArray, List.set_cons_zero, List.set_cons_succ]
              refine wpAnyH_take (i := 13) (oi := ⟨some 8, _, _, _, _, _⟩) (v := ?v13) rfl kR kR kR (fun _ _ _ h => h) (Or.inl ⟨by rfl, ?y13⟩) (by assumption) ?_
              case y13 => (intro w hSw; (try dsimp only at hSw); go_simp; try (with_reducible rfl))
              try simp only [Act.put, List.setIfInBounds_toArray, List.set_cons_zero, List.set_cons_succ]
              refine wpAnyH_done kR ?_ _
              refine NoPanic.normal ?_
              refine h2 _ _ (Met.intro (h1 _ _ ?_))
              refine ⟨_, _, _, _, _, _, _, _, _, _, _, _, _, _, _, _, _, _, _, _, _, _, _, _, _, _, _, _, _, _, _, _, _, _, _, _, _, ⟨B7, _, _, rfl, rfl, ?_, setRow_heap _ _ _ _ _ _ hA.1, hbr, hA.2⟩, rfl⟩
              exact hF.2.other_row hA.1 _
          · go_simp
            have hbz := below1 c (.cells (cellsS stZ) 135)
            have hF2 : Below w1.heap.size w1 (c.alloc (.cells (cellsS stZ) 135)) ∧ (c.alloc (.cells (cellsS stZ) 135)).cell? ⟨g, 0, none⟩ = some (.slice a1 ts.length c1) ∧ (c.alloc (.cells (cellsS stZ) 135)).cell? ⟨g, 1, none⟩ = some (.slice a2 bs.length c2) := ⟨(hF.1.trans (hbz.mono hF.1.size)), cell_later hbz hF.2.1, cell_later hbz hF.2.2⟩
            have hA := And.intro (heap_new c (cellsS stZ) 135) (hF.1.size)
            refine hK.out _ _ (cellsH_S (heap_later (hF2.1) (by omega) HH1.out)) (fun _ => ?_)
            clear hK K
            try simp only [Act.put, List.setIfInBounds_toArray, List.set_cons_zero, List.set_cons_succ]
            generalize c.heap.size = B7 at hA ⊢
            obtain ⟨cw2, hcw2⟩ : ∃ cw2, cw2 = c.alloc (.cells (cellsS stZ) 135) := ⟨_, rfl⟩
            change wpAnyH _ _ _ _ _ _ _ _ (c.alloc (.cells (cellsS stZ) 135))
            rw [← hcw2] at hF2 hA ⊢
            clear hcw2 hbz hF
            obtain ⟨c, rfl⟩ : ∃ c, c = cw2 := ⟨_, rfl⟩
            have hF := hF2; clear hF2
            refine wpAnyH_ready (rs := [6]) kR (by simp) ?_
            refine AllReadyH.cons rfl (fun K hK => ?_) AllReadyH.nil
            go_simp
            go_at_call 90
            (with_reducible refine (HCC.out g _ hF.2.1 hF.2.2 (HT.out.below (HB01.out.trans (hF.1.mono HB01.out.size))) (HV.out.below (HB01.out.trans (hF.1.mono HB01.out.size)))).mono ?_)
            rintro e cw2 ⟨v2, rfl, ho2, hb2⟩
            have hs2 : Bs cw2 v2 zs := Sl.of_own ho2
            have hbn := hF.1.trans (hb2.mono hF.1.size)
            refine hK.out _ _ (cellsH_S (heap_later (hbn) (by omega) HH1.out)) (fun _ => ?_)
            clear hK K
            try simp only [Act.put, List.setIfInBounds_toArray, List.set_cons_zero, List.set_cons_succ]
            have hA2 := And.intro (heap_later hb2 (heap_lt hA.1) hA.1) hA.2
            have hF2 := And.intro hbn hs2
            clear hF ho2 hb2 hs2 hbn hA
            obtain ⟨c, rfl⟩ : ∃ c, c = cw2 := ⟨_, rfl⟩
            have hF := hF2; clear hF2
            have hA := hA2; clear hA2
            refine wpAnyH_ready (rs := [7]) kR (by simp) ?_
            refine AllReadyH.cons rfl (fun K hK => ?_) AllReadyH.nil
            go_simp
            go_at_call 89
            (with_reducible refine (HAB.out v2 _ hF.2 (HK.out.later (HB01.out.trans (hF.1.mono HB01.out.size)) (Nat.le_refl _))).mono ?_)
            rintro e cw2 ⟨v3, rfl, hs3, hb3⟩
            have hs3b := hs3.below hb3
            obtain ⟨a3, c3, rfl, _, _⟩ := Sl.shape hs3b
            have hbn := hF.1.trans (hb3.mono hF.1.size)
            refine hK.out _ _ (cellsH_S (heap_later (hbn) (by omega) HH1.out)) (fun _ => ?_)
            clear hK K
            try simp only [Act.put, List.setIfInBounds_toArray, List.set_cons_zero, List.set_cons_succ]
            have hA2 := And.intro (heap_later hb3 (heap_lt hA.1) hA.1) hA.2
            have hF2 := And.intro hbn hs3b
            clear hF hb3 hs3 hs3b hbn hA
            unfold aggS
            obtain ⟨c, rfl⟩ : ∃ c, c = cw2 := ⟨_, rfl⟩
            have hF := hF2; clear hF2
            have hA := hA2; clear hA2
            have hHeld := cellsH_S (heap_later hF.1 (by omega) HH1.out)
            refine wpAnyH_take (i := 8) (oi := ⟨some 23, _, _, _, _, _⟩) (v := ?v14) rfl kR kR kR (fun _ _ _ h => h) (Or.inl ⟨by rfl, ?y14⟩) (by assumption) ?_
            case y14 => (intro w hSw; (try dsimp only at hSw); go_simp; try (with_reducible rfl))
            try simp only [Act.put, List.setIfInBounds_toArray, List.set_cons_zero, List.set_cons_succ]
            refine wpAnyH_take (i := 9) (oi := ⟨some 32, _, _, _, _, _⟩) (v := ?v15) rfl kR kR kR (fun _ _ _ h => h) (Or.inl ⟨by rfl, ?y15⟩) (by assumption) ?_
            case y15 => (intro w hSw; (try dsimp only at hSw); go_simp; try (with_reducible rfl))
            try simp only [Act.put, List.setIfInBounds_toArray, List.set_cons_zero, List.set_cons_succ]
            refine wpAnyH_take (i := 10) (oi := ⟨some 33, _, _, _, _, _⟩) (v := ?v16) rfl kR kR kR (fun _ _ _ h => h) (Or.inl ⟨by rfl, ?y16⟩) (by assumption) ?_
            case y16 => (intro w hSw; (try dsimp only at hSw); go_simp; try (with_reducible rfl))
            try simp only [Act.put, List.setIfInBounds_toArray, List.set_cons_zero, List.set_cons_succ]
            clear hHeld
            refine wpAnyH_ready (rs := [12]) kR (by simp) ?_
            refine AllReadyH.cons (o := ⟨none, _, _, _, _, _⟩) rfl (fun K hK => ?_) AllReadyH.nil
            rw [if_pos (by rfl)]
            refine wp_store_row (P := Tryd.prog) 135 (.tmp 7) (.tmp 32) rfl B7 (cellsS r) rfl rfl 135 _ hA.1 kR rfl (by simp [cellsS, U32_one]) ?_
            have hbr := below_row (hF.1) hA.2 (cellsS r)
            refine hK.out _ _ (cellsH_S (heap_later hbr (by omega) HH1.out)) (fun hHeld => ?_)
            clear hK K
            try simp only [Act.put, List.setIfInBounds_toArray, List.set_cons_zero, List.set_cons_succ]
            refine wpAnyH_take (i := 13) (oi := ⟨some 8, _, _, _, _, _⟩) (v := ?v17) rfl kR kR kR (fun _ _ _ h => h) (Or.inl ⟨by rfl, ?y17⟩) (by assumption) ?_
            case y17 => (intro w hSw; (try dsimp only at hSw); go_simp; try (with_reducible rfl))
            try simp only [Act.put, List.setIfInBounds_toArray, List.set_cons_zero, List.set_cons_succ]
            refine wpAnyH_done kR ?_ _
            refine NoPanic.normal ?_
            refine h2 _ _ (Met.intro (h1 _ _ ?_))
            refine ⟨_, _, _, _, _, _, _, _, _, _, _, _, _, _, _, _, _, _, _, _, _, _, _, _, _, _, _, _, _, _, _, _, _, _, _, _, _, ⟨B7, _, _, rfl, rfl, ?_, setRow_heap _ _ _ _ _ _ hA.1, hbr, hA.2⟩, rfl⟩
            exact hF.2.other_row hA.1 _
        · go_simp
          have hbz := below1 c (.cells (cellsS stZ) 135)
          have hF2 : Below w1.heap.size w1 (c.alloc (.cells (cellsS stZ) 135)) := (hF.trans (hbz.mono hF.size))
          have hA := And.intro (heap_new c (cellsS stZ) 135) (hF.size)
          refine hK.out _ _ (cellsH_S (heap_later (hF2) (by omega) HH1.out)) (fun _ => ?_)
          clear hK K
          try simp only [Act.put, List.setIfInBounds_toArray, List.set_cons_zero, List.set_cons_succ]
          generalize c.heap.size = B7 at hA ⊢
          obtain ⟨cw2, hcw2⟩ : ∃ cw2, cw2 = c.alloc (.cells (cellsS stZ) 135) := ⟨_, rfl⟩
          change wpAnyH _ _ _ _ _ _ _ _ (c.alloc (.cells (cellsS stZ) 135))
          rw [← hcw2] at hF2 hA ⊢
          clear hcw2 hbz hF
          obtain ⟨c, rfl⟩ : ∃ c, c = cw2 := ⟨_, rfl⟩
          have hF := hF2; clear hF2
          refine wpAnyH_ready (rs := [5]) kR (by simp) ?_
          refine AllReadyH.cons rfl (fun K hK => ?_) AllReadyH.nil
          go_simp
          have hg := two_cells c (.slice a1 ts.length c1) (.slice a2 bs.length c2) 25
          have hbn := hF.trans ((below1 c (.cells #[.slice a1 ts.length c1, .slice a2 bs.length c2] 25)).mono hF.size)
          refine hK.out _ _ (cellsH_S (heap_later (hbn) (by omega) HH1.out)) (fun _ => ?_)
          clear hK K
          try simp only [Act.put, List.setIfInBounds_toArray, List.set_cons_zero, List.set_cons_succ]
          have hA2 := And.intro (heap_later (below1 c (.cells #[.slice a1 ts.length c1, .slice a2 bs.length c2] 25)) (heap_lt hA.1) hA.1) hA.2
          generalize hgg : c.heap.size = g at hg ⊢
          obtain ⟨cw2, hcw2⟩ : ∃ cw2, cw2 = c.alloc (.cells #[.slice a1 ts.length c1, .slice a2 bs.length c2] 25) := ⟨_, rfl⟩
          rw [← hcw2] at hg hbn hA2 ⊢
          have hF2 := And.intro hbn hg
          clear hcw2 hgg hF hbn hg hA
          obtain ⟨c, rfl⟩ : ∃ c, c = cw2 := ⟨_, rfl⟩
          have hF := hF2; clear hF2
          have hA := hA2; clear hA2
          refine wpAnyH_ready (rs := [6]) kR (by simp) ?_
          refine AllReadyH.cons rfl (fun K hK => ?_) AllReadyH.nil
          go_simp
          go_at_call 90
          (with_reducible refine (HCC.out g _ hF.2.1 hF.2.2 (HT.out.below (HB01.out.trans (hF.1.mono HB01.out.size))) (HV.out.below (HB01.out.trans (hF.1.mono HB01.out.size)))).mono ?_)
          rintro e cw2 ⟨v2, rfl, ho2, hb2⟩
          have hs2 : Bs cw2 v2 zs := Sl.of_own ho2
          have hbn := hF.1.trans (hb2.mono hF.1.size)
          refine hK.out _ _ (cellsH_S (heap_later (hbn) (by omega) HH1.out)) (fun _ => ?_)
          clear hK K
          try simp only [Act.put, List.setIfInBounds_toArray, List.set_cons_zero, List.set_cons_succ]
          have hA2 := And.intro (heap_later hb2 (heap_lt hA.1) hA.1) hA.2
          have hF2 := And.intro hbn hs2
          clear hF ho2 hb2 hs2 hbn hA
          obtain ⟨c, rfl⟩ : ∃ c, c = cw2 := ⟨_, rfl⟩
          have hF := hF2; clear hF2
          have hA := hA2; clear hA2
          refine wpAnyH_ready (rs := [7]) kR (by simp) ?_
          refine AllReadyH.cons rfl (fun K hK => ?_) AllReadyH.nil
          go_simp
          go_at_call 89
          (with_reducible refine (HAB.out v2 _ hF.2 (HK.out.later (HB01.out.trans (hF.1.mono HB01.out.size)) (Nat.le_refl _))).mono ?_)
          rintro e cw2 ⟨v3, rfl, hs3, hb3⟩
          have hs3b := hs3.below hb3
          obtain ⟨a3, c3, rfl, _, _⟩ := Sl.shape hs3b
          have hbn := hF.1.trans (hb3.mono hF.1.size)
          refine hK.out _ _ (cellsH_S (heap_later (hbn) (by omega) HH1.out)) (fun _ => ?_)
          clear hK K
          try simp only [Act.put, List.setIfInBounds_toArray, List.set_cons_zero, List.set_cons_succ]
          have hA2 := And.intro (heap_later hb3 (heap_lt hA.1) hA.1) hA.2
          have hF2 := And.intro hbn hs3b
          clear hF hb3 hs3 hs3b hbn hA
          unfold aggS
          obtain ⟨c, rfl⟩ : ∃ c, c = cw2 := ⟨_, rfl⟩
          have hF := hF2; clear hF2
          have hA := hA2; clear hA2
          have hHeld := cellsH_S (heap_later hF.1 (by omega) HH1.out)
          refine wpAnyH_take (i := 8) (oi := ⟨some 23, _, _, _, _, _⟩) (v := ?v18) rfl kR kR kR (fun _ _ _ h => h) (Or.inl ⟨by rfl, ?y18⟩) (by assumption) ?_
          case y18 => (intro w hSw; (try dsimp only at hSw); go_simp; try (with_reducible rfl))
          try simp only [Act.put, List.setIfInBounds_toArray, List.set_cons_zero, List.set_cons_succ]
          refine wpAnyH_take (i := 9) (oi := ⟨some 32, _, _, _, _, _⟩) (v := ?v19) rfl kR kR kR (fun _ _ _ h => h) (Or.inl ⟨by rfl, ?y19⟩) (by assumption) ?_
          case y19 => (intro w hSw; (try dsimp only at hSw); go_simp; try (with_reducible rfl))
          try simp only [Act.put, List.setIfInBounds_toArray, List.set_cons_zero, List.set_cons_succ]
          refine wpAnyH_take (i := 10) (oi := ⟨some 33, _, _, _, _, _⟩) (v := ?v20) rfl kR kR kR (fun _ _ _ h => h) (Or.inl ⟨by rfl, ?y20⟩) (by assumption) ?_
          case y20 => (intro w hSw; (try dsimp only at hSw); go_simp; try (with_reducible rfl))
          try simp only [Act.put, List.setIfInBounds_toArray, List.set_cons_zero, List.set_cons_succ]
          clear hHeld
          refine wpAnyH_ready (rs := [12]) kR (by simp) ?_
          refine AllReadyH.cons (o := ⟨none, _, _, _, _, _⟩) rfl (fun K hK => ?_) AllReadyH.nil
          rw [if_pos (by rfl)]
          refine wp_store_row (P := Tryd.prog) 135 (.tmp 7) (.tmp 32) rfl B7 (cellsS r) rfl rfl 135 _ hA.1 kR rfl (by simp [cellsS, U32_one]) ?_
          have hbr := below_row (hF.1) hA.2 (cellsS r)
          refine hK.out _ _ (cellsH_S (heap_later hbr (by omega) HH1.out)) (fun hHeld => ?_)
          clear hK K
          try simp only [Act.put, List.setIfInBounds_toArray, List.set_cons_zero, List.set_cons_succ]
          refine wpAnyH_take (i := 13) (oi := ⟨some 8, _, _, _, _, _⟩) (v := ?v21) rfl kR kR kR (fun _ _ _ h => h) (Or.inl ⟨by rfl, ?y21⟩) (by assumption) ?_
          case y21 => (intro w hSw; (try dsimp only at hSw); go_simp; try (with_reducible rfl))
          try simp only [Act.put, List.setIfInBounds_toArray, List.set_cons_zero, List.set_cons_succ]
          refine wpAnyH_done kR ?_ _
          refine NoPanic.normal ?_
          refine h2 _ _ (Met.intro (h1 _ _ ?_))
          refine ⟨_, _, _, _, _, _, _, _, _, _, _, _, _, _, _, _, _, _, _, _, _, _, _, _, _, _, _, _, _, _, _, _, _, _, _, _, _, ⟨B7, _, _, rfl, rfl, ?_, setRow_heap _ _ _ _ _ _ hA.1, hbr, hA.2⟩, rfl⟩
          exact hF.2.other_row hA.1 _
      · obtain ⟨B7, a, c, rfl, rfl, ht, hB7, hbc, hB7s⟩ := hcut
        have hsc := hbc.size
        have hS0 : (wc.drew.cell? ⟨B7, 0, none⟩ = some (U32 r.a) ∧ wc.drew.cell? ⟨B7, 1, none⟩ = some (U32 r.b) ∧ wc.drew.cell? ⟨B7, 2, none⟩ = some (U32 r.c) ∧ wc.drew.cell? ⟨B7, 3, none⟩ = some (U32 r.d) ∧ wc.drew.cell? ⟨B7, 4, none⟩ = some (U32 r.e) ∧ wc.drew.cell? ⟨B7, 5, none⟩ = some (U32 r.f) ∧ wc.drew.cell? ⟨B7, 6, none⟩ = some (U32 r.g) ∧ wc.drew.cell? ⟨B7, 7, none⟩ = some (U32 r.h)) ∧ wc.drew.cell? ⟨w.heap.size, 9, none⟩ = some (.int .u64 (n : Int)) := ⟨cells_of (w := wc.drew) hB7, cell_row (heap_later (W := w1) (w1 := wc.drew) hbc.drew (by omega) HH1.out) 9⟩
        have hwrap : IntKind.u64.wrap ((n : Int) + (bs.length : Int)) = (n : Int) + (bs.length : Int) := by rw [IntKind.wrap_u64]; omega
        have hwk : IntKind.u64.wrap (bs.length : Int) = (bs.length : Int) := by rw [IntKind.wrap_u64]; omega
        have hn0 : 0 ≤ 8192 - (n : Int) := by omega
        have ht2 : Bs wc.drew (.slice a tl.length c) tl := ht
        have HT2 := Lib.hid ht2; have HB7 := Lib.hid hB7; have HBC := Lib.hid hbc; clear ht2 hB7 hbc
        clear ht
        go_wp2_with fail
        refine wp_region_noPanic ?_
        refine wp_region_held_drew (S := fun w' => (w'.cell? ⟨B7, 0, none⟩ = some (U32 r.a) ∧ w'.cell? ⟨B7, 1, none⟩ = some (U32 r.b) ∧ w'.cell? ⟨B7, 2, none⟩ = some (U32 r.c) ∧ w'.cell? ⟨B7, 3, none⟩ = some (U32 r.d) ∧ w'.cell? ⟨B7, 4, none⟩ = some (U32 r.e) ∧ w'.cell? ⟨B7, 5, none⟩ = some (U32 r.f) ∧ w'.cell? ⟨B7, 6, none⟩ = some (U32 r.g) ∧ w'.cell? ⟨B7, 7, none⟩ = some (U32 r.h)) ∧ w'.cell? ⟨w.heap.size, 9, none⟩ = some (.int .u64 (n : Int))) kR (hS0) (fun hHeld => ?_)
        clear hS0
        refine wpAnyH_take (i := 0) (v := ?v22) rfl kR kR kR (fun _ _ _ h => h) (Or.inl ⟨by rfl, ?y22⟩) (by assumption) ?_
        case y22 => (intro w hSw; (try dsimp only at hSw); go_simp; try (with_reducible rfl))
        try simp only [Act.put, List.setIfInBounds_toArray, List.set_cons_zero, List.set_cons_succ]
        refine wpAnyH_take (i := 1) (v := ?v23) rfl kR kR kR (fun _ _ _ h => h) (Or.inl ⟨by rfl, ?y23⟩) (by assumption) ?_
        case y23 => (intro w hSw; (try dsimp only at hSw); go_simp; try (with_reducible rfl))
        try simp only [Act.put, List.setIfInBounds_toArray, List.set_cons_zero, List.set_cons_succ]
        refine wpAnyH_take (i := 3) (v := ?v24) rfl kR kR kR (fun _ _ _ h => h) (Or.inl ⟨by rfl, ?y24⟩) (by assumption) ?_
        case y24 => (intro w hSw; (try dsimp only at hSw); go_simp; try (with_reducible rfl))
        try simp only [Act.put, List.setIfInBounds_toArray, List.set_cons_zero, List.set_cons_succ]
        refine wpAnyH_take (i := 4) (v := ?v25) rfl kR kR kR (fun _ _ _ h => h) (Or.inl ⟨by rfl, ?y25⟩) (by assumption) ?_
        case y25 => (intro w hSw; (try dsimp only at hSw); go_simp; try (with_reducible rfl))
        try simp only [Act.put, List.setIfInBounds_toArray, List.set_cons_zero, List.set_cons_succ]
        refine wpAnyH_take (i := 5) (v := ?v26) rfl kR kR kR (fun _ _ _ h => h) (Or.inl ⟨by rfl, ?y26⟩) (by assumption) ?_
        case y26 => (intro w hSw; (try dsimp only at hSw); go_simp; try (with_reducible rfl))
        try simp only [Act.put, List.setIfInBounds_toArray, List.set_cons_zero, List.set_cons_succ]
        refine wpAnyH_take (i := 6) (v := ?v27) rfl kR kR kR (fun _ _ _ h => h) (Or.inl ⟨by rfl, ?y27⟩) (by assumption) ?_
        case y27 => (intro w hSw; (try dsimp only at hSw); go_simp; try (with_reducible rfl))
        try simp only [Act.put, List.setIfInBounds_toArray, List.set_cons_zero, List.set_cons_succ]
        refine wpAnyH_take (i := 7) (v := ?v28) rfl kR kR kR (fun _ _ _ h => h) (Or.inl ⟨by rfl, ?y28⟩) (by assumption) ?_
        case y28 => (intro w hSw; (try dsimp only at hSw); go_simp; try (with_reducible rfl))
        try simp only [Act.put, List.setIfInBounds_toArray, List.set_cons_zero, List.set_cons_succ]
        refine wpAnyH_take (i := 8) (v := ?v29) rfl kR kR kR (fun _ _ _ h => h) (Or.inl ⟨by rfl, ?y29⟩) (by assumption) ?_
        case y29 => (intro w hSw; (try dsimp only at hSw); go_simp; try (with_reducible rfl))
        try simp only [Act.put, List.setIfInBounds_toArray, List.set_cons_zero, List.set_cons_succ]
        refine wpAnyH_ready (rs := [2]) kR (by simp) ?_
        refine AllReadyH.cons rfl (fun K hK => ?_) AllReadyH.nil
        go_simp
        go_at_call 47
        (with_reducible refine (clone_any _ tl _ HT2.out (by omega)).mono ?_)
        rintro e w5 ⟨v5, rfl, ho5, hb5⟩
        have HO5 := Lib.hid ho5; have HB5 := Lib.hid hb5; clear ho5 hb5
        refine hK.out _ _ (⟨cells_of (heap_later HB5.out (heap_lt HB7.out) HB7.out), cell_row (heap_later (HBC.out.drew.trans (HB5.out.mono HBC.out.size)) (by omega) HH1.out) 9⟩) (fun hHeld => ?_)
        clear hK K
        try simp only [Act.put, List.setIfInBounds_toArray, List.set_cons_zero, List.set_cons_succ]
        obtain ⟨a5, c5, rfl, _, _⟩ := Sl.shape (Sl.of_own HO5.out)
        have hR5 : w5.heap[w.heap.size + 1]? = some (.cells (cellsH stZ (.slice none 0 0) 0) 137 (0, 0)) := heap_later (HBC.out.drew.trans (HB5.out.mono HBC.out.size)) (by omega) HH2.out
        refine wpAnyH_take (i := 9) (oi := ⟨some 43, _, _, _, _, _⟩) (v := ?v30) rfl kR kR kR (fun _ _ _ h => h) (Or.inl ⟨by rfl, ?y30⟩) (by assumption) ?_
        case y30 => (intro w hSw; (try dsimp only at hSw); go_simp; try (with_reducible rfl))
        try simp only [Act.put, List.setIfInBounds_toArray, List.set_cons_zero, List.set_cons_succ]
        refine wpAnyH_ready (rs := [10]) kR (by simp) ?_
        refine AllReadyH.cons (o := ⟨none, _, _, _, _, _⟩) rfl (fun K hK => ?_) AllReadyH.nil
        rw [if_pos (by rfl)]
        refine wp_store_row (P := Tryd.prog) 137 (.tmp 4) (.tmp 43) rfl (w.heap.size + 1) #[U32 r.a, U32 r.b, U32 r.c, U32 r.d, U32 r.e, U32 r.f, U32 r.g, U32 r.h, .slice a5 tl.length c5, .int .u64 ((n : Int) + (bs.length : Int))] rfl rfl 137 _ hR5 kR rfl (by simp [U32_one, one_slice, one_int]) ?_
        refine hK.out _ _ ⟨cells_of ((setRow_other w5 (w.heap.size + 1) B7 _ (by omega)).trans (heap_later HB5.out (heap_lt HB7.out) HB7.out)), cell_row ((setRow_other w5 (w.heap.size + 1) w.heap.size _ (by omega)).trans (heap_later (HBC.out.drew.trans (HB5.out.mono HBC.out.size)) (by omega) HH1.out)) 9⟩ (fun hHeld => ?_)
        clear hK K
        try simp only [Act.put, List.setIfInBounds_toArray, List.set_cons_zero, List.set_cons_succ]
        refine wpAnyH_take (i := 11) (oi := ⟨some 5, _, _, _, _, _⟩) (v := ?v31) rfl kR kR kR (fun _ _ _ h => h) (Or.inl ⟨by rfl, ?y31⟩) (by assumption) ?_
        case y31 => (intro w hSw; (try dsimp only at hSw); go_simp; try (with_reducible rfl))
        try simp only [Act.put, List.setIfInBounds_toArray, List.set_cons_zero, List.set_cons_succ]
        refine wpAnyH_done kR ?_ _
        refine NoPanic.normal ?_
        have hbf : Below w.heap.size w w5 := HB01.out.trans ((HBC.out.drew.trans (HB5.out.mono HBC.out.size)).mono (by omega))
        have HR5 := Lib.hid hR5; have HBF := Lib.hid hbf; clear hR5 hbf
        go_wp2_with fail
        refine ret_row_tmp rfl (w.heap.size + 1) 137 _ (setRow_heap _ _ _ _ _ _ HR5.out) _ Tryd.underlying137 10 kR rfl rfl rfl rfl ?_
        exact ⟨a5, c5, rfl, own_base (own_row HO5.out (show w.heap.size + 1 < wc.heap.size by omega) _) (show w.heap.size ≤ wc.heap.size by omega), below_row HBF.out (by omega) _⟩
end Go.Proofs.YtfhkmmagpnojmaaDoor

/- The digest of a hash: what digest.Finish returns; new memory alone. No condition but the table of constants. -/
namespace Go.Proofs.YtfhkmmagpnojmaaDoor
open Go.RowKit

/-- The bytes that are compressed last. -/
def lastB (ts : List UInt8) (n : Nat) : List UInt8 := ts ++ padB n
/-- The digest of a hash. -/
def finD (s : St) (ts : List UInt8) (n : Nat) : List UInt8 := outS (absS s (lastB ts n) ((lastB ts n).length / 64))
def fD (s : St) (ts : List UInt8) (n : Nat) : List UInt8 := if chkB ts.length n then finD s ts n else List.replicate 32 0
theorem outW_numB (x : UInt32) : numB x.toNat 4 = outW x := by simp [numB, outW]
theorem outS_length (s : St) : (outS s).length = 32 := by simp [outS, St.list, outW]
theorem cellsH_S9 {w : World} {g : Nat} {s : St} {t : Value} {n : Nat} (h : w.heap[g]? = some (.cells (cellsH s t n) 137 (0, 0))) :
    (w.cell? ⟨g, 0, none⟩ = some (U32 s.a) ∧ w.cell? ⟨g, 1, none⟩ = some (U32 s.b) ∧ w.cell? ⟨g, 2, none⟩ = some (U32 s.c) ∧ w.cell? ⟨g, 3, none⟩ = some (U32 s.d) ∧ w.cell? ⟨g, 4, none⟩ = some (U32 s.e) ∧ w.cell? ⟨g, 5, none⟩ = some (U32 s.f) ∧ w.cell? ⟨g, 6, none⟩ = some (U32 s.g) ∧ w.cell? ⟨g, 7, none⟩ = some (U32 s.h)) ∧ w.cell? ⟨g, 9, none⟩ = some (.int .u64 (n : Int)) :=
  ⟨⟨cell_row h 0, cell_row h 1, cell_row h 2, cell_row h 3, cell_row h 4, cell_row h 5, cell_row h 6, cell_row h 7⟩, cell_row h 9⟩
/-- The first k words of a state as bytes. -/
def outP (r : St) (k : Nat) : List UInt8 := (r.list.take k).flatMap outW
theorem outP_succ (r : St) (k : Nat) (hk : k < 8) : outP r (k + 1) = outP r k ++ numB (r.list.getD k 0).toNat 4 := by
  have hl : k < r.list.length := by simp [St.list]; exact hk
  unfold outP
  rw [List.take_succ_eq_append_getElem hl, List.flatMap_append, outW_numB]
  simp [List.getD, hl]
theorem outP_eight (r : St) : outP r 8 = outS r := by unfold outP outS; rw [List.take_of_length_le (by simp [St.list])]
theorem outP_length (r : St) (k : Nat) (hk : k ≤ 8) : (outP r k).length = 4 * k := by
  induction k with
  | zero => rfl
  | succ k ih => rw [outP_succ r k (by omega), List.length_append, ih (by omega), numB_length]; omega
theorem idx_state (r : St) (i : Nat) (hi : i < 8) (w : World) :
    (Instr.index 135 (.agg #[U32 r.a, U32 r.b, U32 r.c, U32 r.d, U32 r.e, U32 r.f, U32 r.g, U32 r.h]) (.int .i64 (i : Int))).run Tryd.prog w = .ok (U32 (r.list.getD i 0)) w := by
  have hu := run_underlying (P := Tryd.prog) (t := 135) Tryd.underlying135
  have hs : (sizeOf 38).run Tryd.prog w = .ok 1 w := by kernel_rfl
  have ha : (isAgg 38).run Tryd.prog w = .ok false w := by kernel_rfl
  have hc : (#[U32 r.a, U32 r.b, U32 r.c, U32 r.d, U32 r.e, U32 r.f, U32 r.g, U32 r.h] : Array Value)[i]? = some (U32 (r.list.getD i 0)) := cellsS_get r i hi
  obtain ⟨KC, hKC⟩ : ∃ KC : Array Value, KC = #[U32 r.a, U32 r.b, U32 r.c, U32 r.d, U32 r.e, U32 r.f, U32 r.g, U32 r.h] := ⟨_, rfl⟩
  rw [← hKC] at hc ⊢
  simp [Instr.index, hu, asIntOf, hi, hs, part, ha, hc]
set_option maxRecDepth 20000 in
set_option maxHeartbeats 2000000 in
theorem finish_any (s : St) (t : Value) (ts : List UInt8) (n : Nat) (w : World) (ht : Bs w t ts) (hK : KT w) :
    Calls Tryd.prog 76 #[.agg #[U32 s.a, U32 s.b, U32 s.c, U32 s.d, U32 s.e, U32 s.f, U32 s.g, U32 s.h, t, .int .u64 (n : Int)]] w fun e w' =>
      e = .returned (.tuple #[.agg ((fD s ts n).map by8).toArray, .int .i64 (chkE ts.length n)]) ∧ Below w.heap.size w w' := by
  obtain ⟨a1, c1, rfl, k1, k2⟩ := Sl.shape ht
  unfold maxLen at k2
  have HT := Lib.hid ht; have HK := Lib.hid hK; clear ht hK
  cases hB : chkB ts.length n
  · have hC : chkE ts.length n = 8 := by simp [chkE, hB]
    have hD : fD s ts n = List.replicate 32 0 := by simp [fD, hB]
    rw [hC, hD]
    have HC := Lib.hid hC; clear hC
    clear hB hD
    go_enter Tryd.func76, Tryd.ntmps76
    go_wp2_with (first | (go_at_call 88; (with_reducible refine (check_any s a1 ts.length c1 n _ (by omega)).mono ?_); rintro e w1 ⟨rfl, hb1⟩; have HB1 := Lib.hid hb1; clear hb1; rw [HC.out]) | ((with_reducible refine iO none (.store 22 (.tmp 2) (.tmp 15)) ?_); refine wpList_store_rowN rfl 22 (.tmp 2) (.tmp 15) rfl (w.heap.size + 1) _ rfl rfl 22 _ (heap_later HB1.out (by rw [size_two]; omega) (heap_two1 _ _ _)) 32 kR rfl rfl (by simp [one_int]) ?_) | fail)
    refine ret_row_tmp rfl (w.heap.size + 1) 22 _ (setRow_heap _ _ _ _ _ _ (heap_later HB1.out (by rw [size_two]; omega) (heap_two1 _ _ _))) _ Tryd.underlying22 32 kR rfl rfl rfl rfl ?_
    exact ⟨rfl, below_row ((below2 _ _ _).trans (HB1.out.mono (by simp; omega))) (by omega) _⟩
  · have hnm : n ≤ 8192 ∧ ts.length = n % 64 := by
      unfold chkB at hB
      simpa only [Bool.and_eq_true, decide_eq_true_eq] using hB
    have hC : chkE ts.length n = 0 := by simp [chkE, hB]
    have hD : fD s ts n = outS (absS s (lastB ts n) ((lastB ts n).length / 64)) := by simp [fD, hB, finD]
    obtain ⟨z, hz⟩ : ∃ z, z = (119 - n % 64) % 64 := ⟨_, rfl⟩
    obtain ⟨zs, hzs⟩ : ∃ zs, zs = lastB ts n := ⟨_, rfl⟩
    obtain ⟨r, hr⟩ : ∃ r, r = absS s zs (zs.length / 64) := ⟨_, rfl⟩
    have hpre : (ts ++ 128 :: List.replicate z 0) ++ numB (8 * n) 8 = zs := by rw [hzs, lastB, padB_eq, ← hz]; simp
    have hab := fun v2 w1 h1 h2 => absorb_any s v2 zs w1 h1 h2
    have hput : ∀ (v : Value) (base : Nat) (w1 : World), w1.ownsRow base 5 1 v (ts ++ 128 :: List.replicate z 0).length ((ts ++ 128 :: List.replicate z 0).map by8) → base ≤ w1.heap.size → Calls Tryd.prog 77 #[v, .int .u64 (8 * (n : Int)), .int .i64 8] w1 (Grows base w1 v zs) := fun v base w1 ho hb => by
      have h := put_any base v (ts ++ 128 :: List.replicate z 0) (8 * n) 8 w1 ho hb (by simp; omega) (by omega)
      rw [hpre, show ((8 * n : Nat) : Int) = 8 * (n : Int) by omega] at h
      exact h
    have hz56 : (ts.length + 1 + z) % 64 = 56 := by omega
    have hzlt : ∀ k, k < z → (ts.length + 1 + k) % 64 ≠ 56 := by intro k hk; omega
    have hts : ts.length ≤ 63 := by omega
    have hz63 : z ≤ 63 := by omega
    have hn8 : n ≤ 8192 := hnm.1
    have hprel : (ts ++ 128 :: List.replicate z 0).length = ts.length + 1 + z := by simp; omega
    rw [hC, hD, ← hzs, ← hr]
    rw [← hr] at hab
    have HC := Lib.hid hC; have HAB := Lib.hid hab; have HPUT := Lib.hid hput; have HZ56 := Lib.hid hz56; have HZLT := Lib.hid hzlt; have HPREL := Lib.hid hprel; clear hC hab hput hz56 hzlt hprel
    clear hB hD hz hzs hr hpre hnm
    go_enter Tryd.func76, Tryd.ntmps76
    go_wp2_with (first | (go_at_call 88; (with_reducible refine (check_any s a1 ts.length c1 n _ (by omega)).mono ?_); rintro e w1 ⟨rfl, hb1⟩; have HB1 := Lib.hid hb1; clear hb1; rw [HC.out]; obtain ⟨hc, hf⟩ := bcell HB1.out) | (go_at_call 47; (with_reducible refine (clone_any _ ts _ (HT.out.below ((below2 _ _ _).trans (HB1.out.mono (by simp; omega)))) (by omega)).mono ?_); rintro e w2 ⟨v2, rfl, ho2, hb2⟩; have HO2 := Lib.hid ho2; have HB2 := Lib.hid hb2; clear ho2 hb2) | (at_builtin; refine wpList_append_grew _ rfl (.tmp 19) (.tmp 20) 25 rfl w1.heap.size 5 (.int .u8 0) 1 1 Tryd.underlying25 Tryd.infoB rfl (by decide) _ _ _ rfl (HO2.out.alloc _) _ 1 [.int .u8 128] rfl (Sl.one _ _ _) ?c1 ?c2 ?c3 ?c4 ?_) | fail)
    case c1 => intro u hu; simp at hu; subst hu; rfl
    case c2 => unfold maxLen; omega
    case c3 => omega
    case c4 => have := HB2.out.size; simp; omega
    intro v3 w3 hown3 hgrow3
    have hH1 : w1.heap[w.heap.size]? = some (.cells (cellsH s (.slice a1 ts.length c1) n) 137 (0, 0)) := heap_later HB1.out (by rw [size_two]; omega) (heap_two0 _ _ _)
    have hH2 : w1.heap[w.heap.size + 1]? = some (.cells (((List.replicate 32 (0 : UInt8)).map by8).toArray) 22 (0, 0)) := heap_later HB1.out (by rw [size_two]; omega) (heap_two1 _ _ _)
    have hb01 : Below w.heap.size w w1 := (below2 _ _ _).trans (HB1.out.mono (by simp; omega))
    have hs1 : w.heap.size + 2 ≤ w1.heap.size := by have := HB1.out.size; simp at this; omega
    have hb13 : Below w1.heap.size w1 w3 := (HB2.out.alloc HB2.out.size _).trans (hgrow3.belowOwn (HO2.out.alloc _) (Nat.le_refl _) (by have := HB2.out.size; simp; omega))
    have ho3 := own_eq (n' := ts.length + 1) (xs' := (ts ++ 128 :: List.replicate 0 0).map by8) hown3 rfl (by simp)
    obtain ⟨g3, cp3, rfl, _⟩ := some_slice ho3 (by omega)
    have HH1 := Lib.hid hH1; have HH2 := Lib.hid hH2; have HB01 := Lib.hid hb01; have HB13 := Lib.hid hb13; have HO3 := Lib.hid ho3; clear hH1 hH2 hb01 hb13 ho3
    clear hc hf HB1 HB2 HO2 hown3 hgrow3
    go_wp2_with fail
    go_loopw [5] (fun t wr => ∃ (k j : Nat) (a : Option Addr) (c : Nat), k ≤ z ∧ j = ts.length + 1 + k ∧ t = .slice a j c ∧ wr.ownsRow w1.heap.size 5 1 (.slice a j c) j ((ts ++ 128 :: List.replicate k 0).map by8) ∧ Below w1.heap.size w1 wr) (fun t _ => match t with | .slice _ m _ => 200 - m | _ => 0)
    case atStart => exact ⟨0, ts.length + 1, _, _, by omega, rfl, rfl, HO3.out, HB13.out⟩
    case round =>
      obtain ⟨k, j, a, cp, hk, hj, rfl, hown, hb⟩ := hrel
      clear HO3 HB13
      have hsz := hb.size
      have hj1 : j ≤ 128 := by omega
      have HJ := Lib.hid hj; clear hj
      by_cases hlt : k < z
      · have ht : ((j : Int) % 64 != 56) = true := by rw [bne_iff_ne]; have := HZLT.out k hlt; have := HJ.out; omega
        have HO := Lib.hid hown; have HB := Lib.hid hb; clear hown hb
        go_wp2_with (at_builtin; refine wpList_append_grew _ rfl (.tmp 26) (.tmp 27) 25 rfl w1.heap.size 5 (.int .u8 0) 1 1 Tryd.underlying25 Tryd.infoB rfl (by decide) _ _ _ rfl (HO.out.alloc _) _ 1 [.int .u8 0] rfl (Sl.one _ _ _) ?d1 ?d2 ?d3 ?d4 ?_)
        case d1 => intro u hu; simp at hu; subst hu; rfl
        case d2 => unfold maxLen; omega
        case d3 => omega
        case d4 => simp; omega
        intro v' w4 hown4 hgrow4
        have hb4 := (HB.out.alloc hsz _).trans (hgrow4.belowOwn (HO.out.alloc _) (Nat.le_refl _) (by simp; omega))
        have ho4 := own_eq (n' := j + 1) (xs' := (ts ++ 128 :: List.replicate (k + 1) 0).map by8) hown4 rfl (by simp [List.replicate_succ'])
        obtain ⟨g4, cp4, rfl, _⟩ := some_slice ho4 (by omega)
        have HO4 := Lib.hid ho4; have HB4 := Lib.hid hb4; clear ho4 hb4
        clear hown4 hgrow4
        go_wp2
        go_roundw
        case rel => exact ⟨k + 1, j + 1, _, _, by omega, by have := HJ.out; omega, rfl, HO4.out, HB4.out⟩
        case measure => simp; omega
      · obtain rfl : k = z := by omega
        have ht : ((j : Int) % 64 != 56) = false := by rw [bne_eq_false_iff_eq]; have := HZ56.out; have := HJ.out; omega
        have hwr : IntKind.u64.wrap (8 * (n : Int)) = 8 * (n : Int) := by rw [IntKind.wrap_u64]; omega
        have ho := own_eq (n' := (ts ++ 128 :: List.replicate k 0).length) (xs' := (ts ++ 128 :: List.replicate k 0).map by8) hown (by rw [HPREL.out]; exact HJ.out.symm) rfl
        have HO := Lib.hid ho; have HB := Lib.hid hb; clear ho hb
        clear hown
        go_wp2_with fail
        go_cut [6, 7] (fun p t w' => ∃ B6, p = .pointer (some ⟨B6, 0, none⟩) ∧ w'.heap[B6]? = some (.cells (cellsS r) 135 (0, 0)) ∧ Below w1.heap.size w1 w' ∧ w1.heap.size ≤ B6)
        · rename_i h1 h2
          have hF : Below w1.heap.size w1 wr.drew ∧ wr.drew.ownsRow w1.heap.size 5 1 (.slice a j cp) (ts ++ 128 :: List.replicate k 0).length ((ts ++ 128 :: List.replicate k 0).map by8) := ⟨HB.out.drew, HO.out⟩
          refine wp_region_noPanic ?_
          refine wp_region_held_drew (S := fun w' => (w'.cell? ⟨w.heap.size, 0, none⟩ = some (U32 s.a) ∧ w'.cell? ⟨w.heap.size, 1, none⟩ = some (U32 s.b) ∧ w'.cell? ⟨w.heap.size, 2, none⟩ = some (U32 s.c) ∧ w'.cell? ⟨w.heap.size, 3, none⟩ = some (U32 s.d) ∧ w'.cell? ⟨w.heap.size, 4, none⟩ = some (U32 s.e) ∧ w'.cell? ⟨w.heap.size, 5, none⟩ = some (U32 s.f) ∧ w'.cell? ⟨w.heap.size, 6, none⟩ = some (U32 s.g) ∧ w'.cell? ⟨w.heap.size, 7, none⟩ = some (U32 s.h)) ∧ w'.cell? ⟨w.heap.size, 9, none⟩ = some (.int .u64 (n : Int))) kR (cellsH_S9 (heap_later hF.1 (by omega) HH1.out)) (fun hHeld => ?_)
          obtain ⟨c0, hc0⟩ : ∃ c0, c0 = wr.drew := ⟨_, rfl⟩
          rw [← hc0] at hF hHeld ⊢
          clear hc0
          refine wpAnyH_take (i := 0) (v := ?v1) rfl kR kR kR (fun _ _ _ h => h) (Or.inl ⟨by rfl, ?y1⟩) (by assumption) ?_
          case y1 => (intro w hSw; (try dsimp only at hSw); go_simp; try (with_reducible rfl))
          try simp only [Act.put, List.setIfInBounds_toArray, List.set_cons_zero, List.set_cons_succ]
          refine wpAnyH_take (i := 1) (v := ?v2) rfl kR kR kR (fun _ _ _ h => h) (Or.inl ⟨by rfl, ?y2⟩) (by assumption) ?_
          case y2 => (intro w hSw; (try dsimp only at hSw); go_simp; try (with_reducible rfl))
          try simp only [Act.put, List.setIfInBounds_toArray, List.set_cons_zero, List.set_cons_succ]
          refine wpAnyH_take (i := 2) (v := ?v3) rfl kR kR kR (fun _ _ _ h => h) (Or.inl ⟨by rfl, ?y3⟩) (by assumption) ?_
          case y3 => (intro w hSw; (try dsimp only at hSw); go_simp; try (with_reducible rfl))
          try simp only [Act.put, List.setIfInBounds_toArray, List.set_cons_zero, List.set_cons_succ]
          refine wpAnyH_take (i := 3) (v := ?v4) rfl kR kR kR (fun _ _ _ h => h) (Or.inl ⟨by rfl, ?y4⟩) (by assumption) ?_
          case y4 => (intro w hSw; (try dsimp only at hSw); go_simp; try (with_reducible rfl))
          try simp only [Act.put, List.setIfInBounds_toArray, List.set_cons_zero, List.set_cons_succ]
          refine wpAnyH_take (i := 4) (v := ?v5) rfl kR kR kR (fun _ _ _ h => h) (Or.inl ⟨by rfl, ?y5⟩) (by assumption) ?_
          case y5 => (intro w hSw; (try dsimp only at hSw); go_simp; try (with_reducible rfl))
          try simp only [Act.put, List.setIfInBounds_toArray, List.set_cons_zero, List.set_cons_succ]
          refine wpAnyH_take (i := 5) (v := ?v6) rfl kR kR kR (fun _ _ _ h => h) (Or.inl ⟨by rfl, ?y6⟩) (by assumption) ?_
          case y6 => (intro w hSw; (try dsimp only at hSw); go_simp; try (with_reducible rfl))
          try simp only [Act.put, List.setIfInBounds_toArray, List.set_cons_zero, List.set_cons_succ]
          clear hHeld
          clear HO
          obtain ⟨c, rfl⟩ : ∃ c, c = c0 := ⟨_, rfl⟩
          refine wpAnyH_ready (rs := [6, 11]) kR (by simp) ?_
          refine AllReadyH.cons rfl (fun K hK => ?_) (AllReadyH.cons rfl (fun K hK => ?_) AllReadyH.nil)
          · go_simp
            go_at_call 77
            (with_reducible refine (HPUT.out _ _ _ hF.2 (Nat.le_trans (Nat.le_refl _) hF.1.size)).mono ?_)
            rintro e cw ⟨v1, rfl, ho1, hg1⟩
            have hbn := hF.1.trans (hg1.belowOwn hF.2 (Nat.le_refl _) hF.1.size)
            refine hK.out _ _ (cellsH_S9 (heap_later hbn (by omega) HH1.out)) (fun _ => ?_)
            clear hK K
            try simp only [Act.put, List.setIfInBounds_toArray, List.set_cons_zero, List.set_cons_succ]
            have hF2 := And.intro hbn ho1
            clear hF hbn ho1 hg1
            obtain ⟨c, rfl⟩ : ∃ c, c = cw := ⟨_, rfl⟩
            have hF := hF2; clear hF2
            refine wpAnyH_ready (rs := [7, 11]) kR (by simp) ?_
            refine AllReadyH.cons rfl (fun K hK => ?_) (AllReadyH.cons rfl (fun K hK => ?_) AllReadyH.nil)
            · go_simp
              go_at_call 89
              (with_reducible refine (HAB.out v1 _ (Bs.of_own hF.2 rfl) (HK.out.later (HB01.out.trans (hF.1.mono HB01.out.size)) (Nat.le_refl _))).mono ?_)
              rintro e cw ⟨v3, rfl, hs3, hb3⟩
              have hbn := hF.1.trans (hb3.mono hF.1.size)
              refine hK.out _ _ (cellsH_S9 (heap_later hbn (by omega) HH1.out)) (fun _ => ?_)
              clear hK K
              try simp only [Act.put, List.setIfInBounds_toArray, List.set_cons_zero, List.set_cons_succ]
              have hF2 := And.intro hbn True.intro
              clear hF hbn hs3 hb3
              unfold aggS
              obtain ⟨c, rfl⟩ : ∃ c, c = cw := ⟨_, rfl⟩
              have hF := hF2; clear hF2
              have hHeld := cellsH_S9 (heap_later hF.1 (by omega) HH1.out)
              refine wpAnyH_take (i := 8) (oi := ⟨some 29, _, _, _, _, _⟩) (v := ?v7) rfl kR kR kR (fun _ _ _ h => h) (Or.inl ⟨by rfl, ?y7⟩) (by assumption) ?_
              case y7 => (intro w hSw; (try dsimp only at hSw); go_simp; try (with_reducible rfl))
              try simp only [Act.put, List.setIfInBounds_toArray, List.set_cons_zero, List.set_cons_succ]
              refine wpAnyH_take (i := 9) (oi := ⟨some 38, _, _, _, _, _⟩) (v := ?v8) rfl kR kR kR (fun _ _ _ h => h) (Or.inl ⟨by rfl, ?y8⟩) (by assumption) ?_
              case y8 => (intro w hSw; (try dsimp only at hSw); go_simp; try (with_reducible rfl))
              try simp only [Act.put, List.setIfInBounds_toArray, List.set_cons_zero, List.set_cons_succ]
              refine wpAnyH_take (i := 10) (oi := ⟨some 39, _, _, _, _, _⟩) (v := ?v9) rfl kR kR kR (fun _ _ _ h => h) (Or.inl ⟨by rfl, ?y9⟩) (by assumption) ?_
              case y9 => (intro w hSw; (try dsimp only at hSw); go_simp; try (with_reducible rfl))
              try simp only [Act.put, List.setIfInBounds_toArray, List.set_cons_zero, List.set_cons_succ]
              clear hHeld
              refine wpAnyH_ready (rs := [11]) kR (by simp) ?_
              refine AllReadyH.cons rfl (fun K hK => ?_) AllReadyH.nil
              go_simp
              have hbz := below1 c (.cells (cellsS stZ) 135)
              have hF2 := And.intro (hF.1.trans (hbz.mono hF.1.size)) (True.intro)
              have hA := And.intro (heap_new c (cellsS stZ) 135) hF.1.size
              refine hK.out _ _ (cellsH_S9 (heap_later hF2.1 (by omega) HH1.out)) (fun _ => ?_)
              clear hK K
              try simp only [Act.put, List.setIfInBounds_toArray, List.set_cons_zero, List.set_cons_succ]
              generalize c.heap.size = B6 at hA ⊢
              obtain ⟨cw, hcw⟩ : ∃ cw, cw = c.alloc (.cells (cellsS stZ) 135) := ⟨_, rfl⟩
              change wpAnyH _ _ _ _ _ _ _ _ (c.alloc (.cells (cellsS stZ) 135))
              rw [← hcw] at hF2 hA ⊢
              clear hcw hbz hF
              obtain ⟨c, rfl⟩ : ∃ c, c = cw := ⟨_, rfl⟩
              have hF := hF2; clear hF2
              refine wpAnyH_ready (rs := [12]) kR (by simp) ?_
              refine AllReadyH.cons (o := ⟨none, _, _, _, _, _⟩) rfl (fun K hK => ?_) AllReadyH.nil
              rw [if_pos (by rfl)]
              refine wp_store_row (P := Tryd.prog) 135 (.tmp 6) (.tmp 38) rfl B6 (cellsS r) rfl rfl 135 _ hA.1 kR rfl (by simp [cellsS, U32_one]) ?_
              have hbr := below_row hF.1 hA.2 (cellsS r)
              refine hK.out _ _ (cellsH_S9 (heap_later hbr (by omega) HH1.out)) (fun hHeld => ?_)
              clear hK K
              try simp only [Act.put, List.setIfInBounds_toArray, List.set_cons_zero, List.set_cons_succ]
              refine wpAnyH_take (i := 13) (oi := ⟨some 7, _, _, _, _, _⟩) (v := ?v10) rfl kR kR kR (fun _ _ _ h => h) (Or.inl ⟨by rfl, ?y10⟩) (by assumption) ?_
              case y10 => (intro w hSw; (try dsimp only at hSw); go_simp; try (with_reducible rfl))
              try simp only [Act.put, List.setIfInBounds_toArray, List.set_cons_zero, List.set_cons_succ]
              refine wpAnyH_done kR ?_ _
              refine NoPanic.normal ?_
              refine h2 _ _ (Met.intro (h1 _ _ ?_))
              (repeat apply Exists.intro)
              exact ⟨⟨B6, rfl, setRow_heap _ _ _ _ _ _ hA.1, hbr, hA.2⟩, rfl⟩
            · go_simp
              have hbz := below1 c (.cells (cellsS stZ) 135)
              have hF2 := And.intro (hF.1.trans (hbz.mono hF.1.size)) (own_later hF.2 hbz)
              have hA := And.intro (heap_new c (cellsS stZ) 135) hF.1.size
              refine hK.out _ _ (cellsH_S9 (heap_later hF2.1 (by omega) HH1.out)) (fun _ => ?_)
              clear hK K
              try simp only [Act.put, List.setIfInBounds_toArray, List.set_cons_zero, List.set_cons_succ]
              generalize c.heap.size = B6 at hA ⊢
              obtain ⟨cw, hcw⟩ : ∃ cw, cw = c.alloc (.cells (cellsS stZ) 135) := ⟨_, rfl⟩
              change wpAnyH _ _ _ _ _ _ _ _ (c.alloc (.cells (cellsS stZ) 135))
              rw [← hcw] at hF2 hA ⊢
              clear hcw hbz hF
              obtain ⟨c, rfl⟩ : ∃ c, c = cw := ⟨_, rfl⟩
              have hF := hF2; clear hF2
              refine wpAnyH_ready (rs := [7]) kR (by simp) ?_
              refine AllReadyH.cons rfl (fun K hK => ?_) AllReadyH.nil
              go_simp
              go_at_call 89
              (with_reducible refine (HAB.out v1 _ (Bs.of_own hF.2 rfl) (HK.out.later (HB01.out.trans (hF.1.mono HB01.out.size)) (Nat.le_refl _))).mono ?_)
              rintro e cw ⟨v3, rfl, hs3, hb3⟩
              have hbn := hF.1.trans (hb3.mono hF.1.size)
              refine hK.out _ _ (cellsH_S9 (heap_later hbn (by omega) HH1.out)) (fun _ => ?_)
              clear hK K
              try simp only [Act.put, List.setIfInBounds_toArray, List.set_cons_zero, List.set_cons_succ]
              have hA2 := And.intro (heap_later hb3 (heap_lt hA.1) hA.1) hA.2
              have hF2 := And.intro hbn True.intro
              clear hF hbn hs3 hb3 hA
              unfold aggS
              obtain ⟨c, rfl⟩ : ∃ c, c = cw := ⟨_, rfl⟩
              have hF := hF2; clear hF2
              have hA := hA2; clear hA2
              have hHeld := cellsH_S9 (heap_later hF.1 (by omega) HH1.out)
              refine wpAnyH_take (i := 8) (oi := ⟨some 29, _, _, _, _, _⟩) (v := ?v11) rfl kR kR kR (fun _ _ _ h => h) (Or.inl ⟨by rfl, ?y11⟩) (by assumption) ?_
              case y11 => (intro w hSw; (try dsimp only at hSw); go_simp; try (with_reducible rfl))
              try simp only [Act.put, List.setIfInBounds_toArray, List.set_cons_zero, List.set_cons_succ]
              refine wpAnyH_take (i := 9) (oi := ⟨some 38, _, _, _, _, _⟩) (v := ?v12) rfl kR kR kR (fun _ _ _ h => h) (Or.inl ⟨by rfl, ?y12⟩) (by assumption) ?_
              case y12 => (intro w hSw; (try dsimp only at hSw); go_simp; try (with_reducible rfl))
              try simp only [Act.put, List.setIfInBounds_toArray, List.set_cons_zero, List.set_cons_succ]
              refine wpAnyH_take (i := 10) (oi := ⟨some 39, _, _, _, _, _⟩) (v := ?v13) rfl kR kR kR (fun _ _ _ h => h) (Or.inl ⟨by rfl, ?y13⟩) (by assumption) ?_
              case y13 => (intro w hSw; (try dsimp only at hSw); go_simp; try (with_reducible rfl))
              try simp only [Act.put, List.setIfInBounds_toArray, List.set_cons_zero, List.set_cons_succ]
              clear hHeld
              refine wpAnyH_ready (rs := [12]) kR (by simp) ?_
              refine AllReadyH.cons (o := ⟨none, _, _, _, _, _⟩) rfl (fun K hK => ?_) AllReadyH.nil
              rw [if_pos (by rfl)]
              refine wp_store_row (P := Tryd.prog) 135 (.tmp 6) (.tmp 38) rfl B6 (cellsS r) rfl rfl 135 _ hA.1 kR rfl (by simp [cellsS, U32_one]) ?_
              have hbr := below_row hF.1 hA.2 (cellsS r)
              refine hK.out _ _ (cellsH_S9 (heap_later hbr (by omega) HH1.out)) (fun hHeld => ?_)
              clear hK K
              try simp only [Act.put, List.setIfInBounds_toArray, List.set_cons_zero, List.set_cons_succ]
              refine wpAnyH_take (i := 13) (oi := ⟨some 7, _, _, _, _, _⟩) (v := ?v14) rfl kR kR kR (fun _ _ _ h => h) (Or.inl ⟨by rfl, ?y14⟩) (by assumption) ?_
              case y14 => (intro w hSw; (try dsimp only at hSw); go_simp; try (with_reducible rfl))
              try simp only [Act.put, List.setIfInBounds_toArray, List.set_cons_zero, List.set_cons_succ]
              refine wpAnyH_done kR ?_ _
              refine NoPanic.normal ?_
              refine h2 _ _ (Met.intro (h1 _ _ ?_))
              (repeat apply Exists.intro)
              exact ⟨⟨B6, rfl, setRow_heap _ _ _ _ _ _ hA.1, hbr, hA.2⟩, rfl⟩
          · go_simp
            have hbz := below1 c (.cells (cellsS stZ) 135)
            have hF2 := And.intro (hF.1.trans (hbz.mono hF.1.size)) (own_later hF.2 hbz)
            have hA := And.intro (heap_new c (cellsS stZ) 135) hF.1.size
            refine hK.out _ _ (cellsH_S9 (heap_later hF2.1 (by omega) HH1.out)) (fun _ => ?_)
            clear hK K
            try simp only [Act.put, List.setIfInBounds_toArray, List.set_cons_zero, List.set_cons_succ]
            generalize c.heap.size = B6 at hA ⊢
            obtain ⟨cw, hcw⟩ : ∃ cw, cw = c.alloc (.cells (cellsS stZ) 135) := ⟨_, rfl⟩
            change wpAnyH _ _ _ _ _ _ _ _ (c.alloc (.cells (cellsS stZ) 135))
            rw [← hcw] at hF2 hA ⊢
            clear hcw hbz hF
            obtain ⟨c, rfl⟩ : ∃ c, c = cw := ⟨_, rfl⟩
            have hF := hF2; clear hF2
            refine wpAnyH_ready (rs := [6]) kR (by simp) ?_
            refine AllReadyH.cons rfl (fun K hK => ?_) AllReadyH.nil
            go_simp
            go_at_call 77
            (with_reducible refine (HPUT.out _ _ _ hF.2 (Nat.le_trans (Nat.le_refl _) hF.1.size)).mono ?_)
            rintro e cw ⟨v1, rfl, ho1, hg1⟩
            have hbn := hF.1.trans (hg1.belowOwn hF.2 (Nat.le_refl _) hF.1.size)
            refine hK.out _ _ (cellsH_S9 (heap_later hbn (by omega) HH1.out)) (fun _ => ?_)
            clear hK K
            try simp only [Act.put, List.setIfInBounds_toArray, List.set_cons_zero, List.set_cons_succ]
            have hA2 := And.intro ((hg1.g.block _ (heap_lt hA.1) (own_other hF.2 hA.1 (by decide))).trans hA.1) hA.2
            have hF2 := And.intro hbn ho1
            clear hF hbn ho1 hg1 hA
            obtain ⟨c, rfl⟩ : ∃ c, c = cw := ⟨_, rfl⟩
            have hF := hF2; clear hF2
            have hA := hA2; clear hA2
            refine wpAnyH_ready (rs := [7]) kR (by simp) ?_
            refine AllReadyH.cons rfl (fun K hK => ?_) AllReadyH.nil
            go_simp
            go_at_call 89
            (with_reducible refine (HAB.out v1 _ (Bs.of_own hF.2 rfl) (HK.out.later (HB01.out.trans (hF.1.mono HB01.out.size)) (Nat.le_refl _))).mono ?_)
            rintro e cw ⟨v3, rfl, hs3, hb3⟩
            have hbn := hF.1.trans (hb3.mono hF.1.size)
            refine hK.out _ _ (cellsH_S9 (heap_later hbn (by omega) HH1.out)) (fun _ => ?_)
            clear hK K
            try simp only [Act.put, List.setIfInBounds_toArray, List.set_cons_zero, List.set_cons_succ]
            have hA2 := And.intro (heap_later hb3 (heap_lt hA.1) hA.1) hA.2
            have hF2 := And.intro hbn True.intro
            clear hF hbn hs3 hb3 hA
            unfold aggS
            obtain ⟨c, rfl⟩ : ∃ c, c = cw := ⟨_, rfl⟩
            have hF := hF2; clear hF2
            have hA := hA2; clear hA2
            have hHeld := cellsH_S9 (heap_later hF.1 (by omega) HH1.out)
            refine wpAnyH_take (i := 8) (oi := ⟨some 29, _, _, _, _, _⟩) (v := ?v15) rfl kR kR kR (fun _ _ _ h => h) (Or.inl ⟨by rfl, ?y15⟩) (by assumption) ?_
            case y15 => (intro w hSw; (try dsimp only at hSw); go_simp; try (with_reducible rfl))
            try simp only [Act.put, List.setIfInBounds_toArray, List.set_cons_zero, List.set_cons_succ]
            refine wpAnyH_take (i := 9) (oi := ⟨some 38, _, _, _, _, _⟩) (v := ?v16) rfl kR kR kR (fun _ _ _ h => h) (Or.inl ⟨by rfl, ?y16⟩) (by assumption) ?_
            case y16 => (intro w hSw; (try dsimp only at hSw); go_simp; try (with_reducible rfl))
            try simp only [Act.put, List.setIfInBounds_toArray, List.set_cons_zero, List.set_cons_succ]
            refine wpAnyH_take (i := 10) (oi := ⟨some 39, _, _, _, _, _⟩) (v := ?v17) rfl kR kR kR (fun _ _ _ h => h) (Or.inl ⟨by rfl, ?y17⟩) (by assumption) ?_
            case y17 => (intro w hSw; (try dsimp only at hSw); go_simp; try (with_reducible rfl))
            try simp only [Act.put, List.setIfInBounds_toArray, List.set_cons_zero, List.set_cons_succ]
            clear hHeld
            refine wpAnyH_ready (rs := [12]) kR (by simp) ?_
            refine AllReadyH.cons (o := ⟨none, _, _, _, _, _⟩) rfl (fun K hK => ?_) AllReadyH.nil
            rw [if_pos (by rfl)]
            refine wp_store_row (P := Tryd.prog) 135 (.tmp 6) (.tmp 38) rfl B6 (cellsS r) rfl rfl 135 _ hA.1 kR rfl (by simp [cellsS, U32_one]) ?_
            have hbr := below_row hF.1 hA.2 (cellsS r)
            refine hK.out _ _ (cellsH_S9 (heap_later hbr (by omega) HH1.out)) (fun hHeld => ?_)
            clear hK K
            try simp only [Act.put, List.setIfInBounds_toArray, List.set_cons_zero, List.set_cons_succ]
            refine wpAnyH_take (i := 13) (oi := ⟨some 7, _, _, _, _, _⟩) (v := ?v18) rfl kR kR kR (fun _ _ _ h => h) (Or.inl ⟨by rfl, ?y18⟩) (by assumption) ?_
            case y18 => (intro w hSw; (try dsimp only at hSw); go_simp; try (with_reducible rfl))
            try simp only [Act.put, List.setIfInBounds_toArray, List.set_cons_zero, List.set_cons_succ]
            refine wpAnyH_done kR ?_ _
            refine NoPanic.normal ?_
            refine h2 _ _ (Met.intro (h1 _ _ ?_))
            (repeat apply Exists.intro)
            exact ⟨⟨B6, rfl, setRow_heap _ _ _ _ _ _ hA.1, hbr, hA.2⟩, rfl⟩
        · obtain ⟨B6, rfl, hB6, hbc, hB6s⟩ := hcut
          have hsc := hbc.size
          obtain ⟨q0, q1, q2, q3, q4, q5, q6, q7⟩ := cells_of hB6
          have hput4 : ∀ (k : Nat) (v : Value) (w5 : World), k < 8 → w5.ownsRow wc.heap.size 5 1 v (4 * k) ((outP r k).map by8) → wc.heap.size ≤ w5.heap.size → Calls Tryd.prog 77 #[v, .int .u64 ((r.list.getD k 0).toNat : Int), .int .i64 4] w5 (Grows wc.heap.size w5 v (outP r (k + 1))) := fun k v w5 hk ho hb => by
            rw [← outP_length r k (by omega)] at ho
            have h := put_any wc.heap.size v (outP r k) (r.list.getD k 0).toNat 4 w5 ho hb (by rw [outP_length r k (by omega)]; omega) (by omega)
            rw [← outP_succ r k hk] at h
            exact h
          have hidx := fun (i : Nat) (hi : i < 8) w' => idx_state r i hi w'
          have hcv : ∀ (x : UInt32) (w' : World), (convert 38 23 (U32 x)).run Tryd.prog w' = .ok (.int .u64 (x.toNat : Int)) w' := fun x w' => by
            have hx := u32_lt x
            unfold U32
            have h := run_convert_int (P := Tryd.prog) w' 38 23 .u32 (x.toNat : Int) kR kR
            rw [show Tryd.prog.intKind 23 = .u64 by kernel_rfl, IntKind.wrap_u64] at h
            rw [h]
            congr 2
            omega
          have hbwc : Below w.heap.size w wc := HB01.out.trans (hbc.mono (by omega))
          have hRes : wc.heap[w.heap.size + 1]? = some (.cells (((List.replicate 32 (0 : UInt8)).map by8).toArray) 22 (0, 0)) := heap_later hbc (by omega) HH2.out
          obtain ⟨rl, hrl⟩ : ∃ rl : Nat → UInt32, rl = fun i => r.list.getD i 0 := ⟨_, rfl⟩
          have hrl2 : ∀ i, r.list.getD i 0 = rl i := fun i => by rw [hrl]
          simp only [hrl2] at hidx hput4
          have HPUT4 := Lib.hid hput4; have HIDX := Lib.hid hidx; have HBWC := Lib.hid hbwc; have HRES := Lib.hid hRes; clear hput4 hidx hbwc hRes
          clear hrl hrl2 hbc hB6
          have hU : ∀ x : UInt32, (x.toNat : Int) < 4294967296 := fun x => by have := u32_lt x; omega
          have HU := Lib.hid hU; clear hU
          go_wp2
          go_loopw [8, 41] (fun v i wr => ∃ k : Nat, k ≤ 8 ∧ i = .int .i64 (k : Int) ∧ wr.ownsRow wc.heap.size 5 1 v (4 * k) ((outP r k).map by8) ∧ Below wc.heap.size wc wr) (fun _ i _ => 8 - (intOf i).toNat)
          case atStart => exact ⟨0, by omega, rfl, World.ownsRow_nil _ _ _ _, Below.refl _ _⟩
          case round =>
            obtain ⟨k, hk, rfl, ho, hb⟩ := hrel
            by_cases hlt : k < 8
            · have hix := HIDX.out k hlt
              have hcx := hcv (rl k)
              have hpk := HPUT4.out k
              have l0 : (k : Int) < 8 := by omega
              have HO := Lib.hid ho; have HB := Lib.hid hb; have HPK := Lib.hid hpk; clear ho hb hpk
              clear hcv
              go_wp2_with (go_at_call 77; (with_reducible refine (HPK.out _ _ hlt HO.out HB.out.size).mono ?_); rintro e w6 ⟨v6, rfl, ho6, hg6⟩; have HO6 := Lib.hid ho6; have HG6 := Lib.hid hg6; clear ho6 hg6)
              go_roundw
              case rel => exact ⟨k + 1, by omega, by go_num, own_eq HO6.out (by rw [outP_length r (k + 1) (by omega)]) rfl, HB.out.trans (HG6.out.belowOwn HO.out (Nat.le_refl _) HB.out.size)⟩
              case measure => simp [intOf]; omega
            · obtain rfl : k = 8 := by omega
              obtain ⟨g8, c8, rfl, hc8⟩ := some_slice ho (by omega)
              have hbs : Bs wr (.slice (some ⟨g8, 0, none⟩) 32 c8) (outS r) := Bs.of_own (by rw [outP_eight] at ho; exact ho) (outS_length r)
              have hrg := hbs.range
              have har := fun w' => run_arrayAt (P := Tryd.prog) w' 22 5 32 (some ⟨g8, 0, none⟩) 32 c8 Tryd.underlying22 (Nat.le_refl _)
              have hi32 : (Tryd.prog.info? 22).map (·.size) = some ((outS r).map by8).length := by
                have h : (Tryd.prog.info? 22).map (·.size) = some 32 := by kernel_rfl
                rw [h, List.length_map, outS_length]
              have hrw := heap_later hb (heap_lt HRES.out) HRES.out
              obtain ⟨D, hDD⟩ : ∃ D, D = (outS r).map by8 := ⟨_, rfl⟩
              have hDl : D.length = 32 := by rw [hDD, List.length_map, outS_length]
              have hD1 : D.toArray.all (·.oneCell') = true := by rw [hDD]; exact all_by8 _
              rw [← hDD] at hrg hi32
              have HRG := Lib.hid hrg; have HI32 := Lib.hid hi32; have HRW := Lib.hid hrw; have HDL := Lib.hid hDl; have HD1 := Lib.hid hD1; have HB := Lib.hid hb; have HDD := Lib.hid hDD; clear hrg hi32 hrw hDl hD1 hb hDD
              clear hcv ho hbs
              go_wp2_with (first | ((with_reducible refine iD 51 (_) ?_); refine wpList_load_mid rfl 22 (.tmp 50) rfl g8 0 rfl D _ HRG.out Tryd.underlying22 rfl HI32.out ?_) | ((with_reducible refine iO none (.store 22 (.tmp 2) (.tmp 51)) ?_); refine wpList_store_rowN rfl 22 (.tmp 2) (.tmp 51) rfl (w.heap.size + 1) D.toArray rfl rfl 22 _ HRW.out 32 kR (by simp [HDL.out]) (by simp) HD1.out ?_) | fail)
              refine ret_row_tmp rfl (w.heap.size + 1) 22 _ (setRow_heap _ _ _ _ _ _ HRW.out) _ Tryd.underlying22 32 kR (by simp [HDL.out]) rfl rfl rfl ?_
              exact ⟨by rw [HDD.out]; rfl, below_row (HBWC.out.trans (HB.out.mono (by omega))) (by omega) _⟩
end Go.Proofs.YtfhkmmagpnojmaaDoor

/- The hash after some more bytes: what dunnageref01.Write returns; new memory alone. No condition. -/
namespace Go.Proofs.YtfhkmmagpnojmaaDoor
open Go.RowKit

end Go.Proofs.YtfhkmmagpnojmaaDoor

/- The digest of a state, of bytes that are not yet compressed, and of the number of all bytes: what dunnageref01.finish returns, and dunnageref01.Finish of a hash; new memory alone. -/
namespace Go.Proofs.YtfhkmmagpnojmaaDoor
open Go.RowKit

end Go.Proofs.YtfhkmmagpnojmaaDoor

/- The digest of a hash, by the specification; the digest of some bytes, by the program and by the specification; new memory alone. No condition but the table of constants. -/
namespace Go.Proofs.YtfhkmmagpnojmaaDoor
open Go.RowKit

/-- The digest of some bytes. -/
def sumD (xs : List UInt8) : List UInt8 := finD startS xs xs.length
/-- The digest of some bytes, or zeros; the error. -/
def smD (xs : List UInt8) : List UInt8 := if xs.length ≤ 8192 then sumD xs else List.replicate 32 0
def smE (k : Nat) : Int := if k ≤ 8192 then 0 else 4
theorem smD_length (xs : List UInt8) : (smD xs).length = 32 := by unfold smD; split <;> simp [sumD, finD, outS_length]
end Go.Proofs.YtfhkmmagpnojmaaDoor

/- Plain laws of the digest: blocks that are compressed in portions; the digest of a hash that was written in portions. No condition. -/
namespace Go.Proofs.YtfhkmmagpnojmaaDoor

theorem absS_add (s : St) (xs : List UInt8) (k m : Nat) : absS (absS s xs k) (xs.drop (64 * k)) m = absS s xs (k + m) := by
  induction m with
  | zero => rfl
  | succ m ih =>
    show compS (absS (absS s xs k) (xs.drop (64 * k)) m) (((xs.drop (64 * k)).drop (64 * m)).take 64) = compS (absS s xs (k + m)) ((xs.drop (64 * (k + m))).take 64)
    rw [ih, List.drop_drop]
    congr 3
    omega
theorem absS_append (s : St) (xs ys : List UInt8) (k : Nat) (h : 64 * k ≤ xs.length) : absS s (xs ++ ys) k = absS s xs k := by
  induction k with
  | zero => rfl
  | succ k ih =>
    show compS (absS s (xs ++ ys) k) (((xs ++ ys).drop (64 * k)).take 64) = compS (absS s xs k) ((xs.drop (64 * k)).take 64)
    rw [ih (by omega), List.drop_append_of_le_length (by omega), List.take_append_of_le_length (by simp; omega)]
/-- Some bytes, and some more, in blocks. -/
theorem absS_both (s : St) (xs ys : List UInt8) (k : Nat) (h : 64 * k ≤ xs.length) :
    absS (absS s xs k) (xs.drop (64 * k) ++ ys) ((xs.drop (64 * k) ++ ys).length / 64) = absS s (xs ++ ys) ((xs ++ ys).length / 64) := by
  have e1 : xs.drop (64 * k) ++ ys = (xs ++ ys).drop (64 * k) := by rw [List.drop_append_of_le_length h]
  rw [← absS_append s xs ys k h, e1, absS_add]
  congr 1
  simp
  omega
/-- A hash of the bytes xs. -/
def hS (xs : List UInt8) : St := absS startS xs (xs.length / 64)
def hT (xs : List UInt8) : List UInt8 := xs.drop (64 * (xs.length / 64))
theorem hT_length (xs : List UInt8) : (hT xs).length = xs.length % 64 := by unfold hT; simp; omega
theorem chk_hT (xs : List UInt8) (h : xs.length ≤ 8192) : chkB (hT xs).length xs.length = true := by
  unfold chkB
  rw [hT_length, decide_eq_true h, decide_eq_true rfl]
  rfl
/-- The digest of such a hash is the bytes' own. -/
theorem fD_hash (xs : List UInt8) (h : xs.length ≤ 8192) : fD (hS xs) (hT xs) xs.length = sumD xs := by
  unfold fD
  rw [if_pos (chk_hT xs h)]
  unfold finD sumD finD lastB hS hT
  rw [absS_both startS xs (padB xs.length) _ (by omega)]
/-- A hash behind more bytes. -/
theorem write_hash (xs bs : List UInt8) (h : xs.length + bs.length ≤ 8192) :
    wE (hT xs).length xs.length bs.length = 0 ∧ wS (hS xs) (hT xs) xs.length bs = hS (xs ++ bs) ∧ wT (hT xs) xs.length bs = hT (xs ++ bs) ∧ wN (hT xs).length xs.length bs.length = (xs ++ bs).length := by
  have hE : wE (hT xs).length xs.length bs.length = 0 := by
    unfold wE
    rw [if_pos (chk_hT xs (by omega)), if_neg (by omega)]
  refine ⟨hE, ?_, ?_, ?_⟩
  · unfold wS
    rw [if_pos hE]
    unfold hS hT
    rw [absS_both startS xs bs _ (by omega)]
  · unfold wT
    rw [if_pos hE]
    unfold hT
    have e1 : xs.drop (64 * (xs.length / 64)) ++ bs = (xs ++ bs).drop (64 * (xs.length / 64)) := by rw [List.drop_append_of_le_length (by omega)]
    rw [e1, List.drop_drop]
    congr 1
    simp
    omega
  · unfold wN
    rw [if_pos hE]
    simp
theorem write_many (xs bs : List UInt8) (h1 : xs.length ≤ 8192) (h : 8192 < xs.length + bs.length) : wE (hT xs).length xs.length bs.length = 4 := by
  unfold wE
  rw [if_pos (chk_hT xs h1), if_pos (by omega)]
end Go.Proofs.YtfhkmmagpnojmaaDoor

/- The digest of some bytes: what digest.Sum returns; new memory alone. No condition but the table of constants. -/
namespace Go.Proofs.YtfhkmmagpnojmaaDoor
open Go.RowKit

set_option maxRecDepth 20000 in
set_option maxHeartbeats 1000000 in
theorem sum_any (v : Value) (xs : List UInt8) (w : World) (hv : Bs w v xs) (hK : KT w) :
    Calls Tryd.prog 42 #[v] w fun e w' => e = .returned (.tuple #[.agg ((smD xs).map by8).toArray, .int .i64 (smE xs.length)]) ∧ Below w.heap.size w w' := by
  obtain ⟨a1, c1, rfl, k1, k2⟩ := Sl.shape hv
  unfold maxLen at k2
  have hw : ∀ (w1 : World), Bs w1 (.slice a1 xs.length c1) xs → KT w1 → Calls Tryd.prog 74 #[.agg #[U32 startS.a, U32 startS.b, U32 startS.c, U32 startS.d, U32 startS.e, U32 startS.f, U32 startS.g, U32 startS.h, .slice none 0 0, .int .u64 0], .slice a1 xs.length c1] w1 (FreshHE w1 (wS startS [] 0 xs) (wT [] 0 xs) (wN 0 0 xs.length) (wE 0 0 xs.length)) := fun w1 h1 h2 =>
    write_any startS (.slice none 0 0) (.slice a1 xs.length c1) [] xs 0 w1 (Bs.mk0 _ _) h1 h2
  have HV := Lib.hid hv; have HK := Lib.hid hK; clear hv hK
  have hD1 : ((smD xs).map by8).toArray.all (·.oneCell') = true := all_by8 _
  have hDs : ((smD xs).map by8).toArray.size = 32 := by simp [smD_length]
  obtain ⟨S, hS1⟩ : ∃ S, S = startS := ⟨_, rfl⟩
  by_cases hl : xs.length ≤ 8192
  · obtain ⟨e1, e2, e3, e4⟩ := write_hash [] xs (by simpa using hl)
    have hE : smE xs.length = 0 := if_pos hl
    have hfin := fun (t : Value) (w1 : World) h1 h2 => finish_any (hS xs) t (hT xs) xs.length w1 h1 h2
    rw [fD_hash xs hl, show chkE (hT xs).length xs.length = 0 by unfold chkE; rw [if_pos (chk_hT xs hl)]] at hfin
    have hDe : smD xs = sumD xs := if_pos hl
    rw [← hDe] at hfin
    simp only [hT, hS, List.length_nil, List.nil_append, List.drop_nil, Nat.zero_div, absS] at e1 e2 e3 e4
    rw [e1, e2, e3, e4] at hw
    rw [hE]
    obtain ⟨D, hDD⟩ : ∃ D, D = ((smD xs).map by8).toArray := ⟨_, rfl⟩
    rw [← hDD] at hfin hD1 hDs ⊢
    have hw2 : ∀ (w1 : World), Bs w1 (.slice a1 xs.length c1) xs → KT w1 → Calls Tryd.prog 74 #[.agg #[U32 startS.a, U32 startS.b, U32 startS.c, U32 startS.d, U32 startS.e, U32 startS.f, U32 startS.g, U32 startS.h, .slice none 0 0, .int .u64 0], .slice a1 xs.length c1] w1 (FreshHE w1 (hS xs) (hT xs) xs.length 0) := hw
    obtain ⟨r, hr⟩ : ∃ r, r = hS xs := ⟨_, rfl⟩
    obtain ⟨tl, htl⟩ : ∃ tl, tl = hT xs := ⟨_, rfl⟩
    rw [← hr, ← htl] at hfin hw2
    have HFIN := Lib.hid hfin; have HW2 := Lib.hid hw2; have HD1 := Lib.hid hD1; have HDS := Lib.hid hDs; clear hfin hw2 hD1 hDs
    clear hw e1 e2 e3 e4 hE hDe hDD hr htl hS1
    go_enter Tryd.func42, Tryd.ntmps42
    go_wp2_with (first | (go_at_call 75; (with_reducible refine (start_any _).mono ?_); rintro e w1 ⟨rfl, hb1⟩; have HB1 := Lib.hid hb1; clear hb1; unfold hashV cellsH) | (go_at_call 74; (with_reducible refine (HW2.out _ (HV.out.below ((below1 _ _).trans (HB1.out.mono (by simp)))) (HK.out.later ((below1 _ _).trans (HB1.out.mono (by simp))) (Nat.le_refl _))).mono ?_); rintro e w2 ⟨a3, c3, rfl, ho2, hb2⟩; have HO2 := Lib.hid ho2; have HB2 := Lib.hid hb2; clear ho2 hb2; unfold hashV cellsH) | ((with_reducible refine iO none (.store 137 (.tmp 4) (.tmp 10)) ?_); refine wpList_store_rowN rfl 137 (.tmp 4) (.tmp 10) rfl (w2.heap.size) _ rfl rfl 137 _ (heap_new _ _ _) 10 kR rfl rfl (by simp [U32_one, one_slice, one_int, one_bool]) ?_) | ((with_reducible refine iD 16 (_) ?_); refine wpList_load_rowN rfl 137 (.tmp 4) rfl (w2.heap.size) rfl 137 (#[U32 r.a, U32 r.b, U32 r.c, U32 r.d, U32 r.e, U32 r.f, U32 r.g, U32 r.h, .slice a3 tl.length c3, .int .u64 (xs.length : Int)]) (0, 0) _ (setRow_heap _ _ _ _ _ _ (heap_new _ _ _)) Tryd.underlying137 rfl 10 kR (by rfl) ?_) | (go_at_call 76; (with_reducible refine (HFIN.out _ _ ((Bs.of_own HO2.out rfl).below (below_past (Below.refl _ _) (Nat.le_refl _) _ _)) (HK.out.later (((below1 _ _).trans (HB1.out.mono (by simp))).trans ((HB2.out.trans (below_past (Below.refl _ _) (Nat.le_refl _) _ _|>.mono HB2.out.size)).mono (by have := HB1.out.size; simp at this; omega))) (Nat.le_refl _))).mono ?_); rintro e w3 ⟨rfl, hb3⟩; have HB3 := Lib.hid hb3; clear hb3) | ((with_reducible refine iO none (.store 22 (.tmp 2) (.tmp 18)) ?_); refine wpList_store_rowN rfl 22 (.tmp 2) (.tmp 18) rfl (w.heap.size) _ rfl rfl 22 _ (heap_later HB3.out (by have := HB1.out.size; have := HB2.out.size; simp at *; omega) (heap_past (heap_later HB2.out (by have := HB1.out.size; simp at this; omega) (heap_later HB1.out (by simp) (heap_new _ _ _))) (by have := HB1.out.size; have := HB2.out.size; simp at *; omega) _ _)) 32 kR HDS.out rfl HD1.out ?_) | fail)
    have hz1 := HB1.out.size
    have hz2 := HB2.out.size
    have hz3 := HB3.out.size
    simp at hz1 hz3
    refine ret_row_tmp rfl w.heap.size 22 _ (setRow_heap _ _ _ _ _ _ (heap_later HB3.out (by simp; omega) (heap_past (heap_later HB2.out (by omega) (heap_later HB1.out (by simp) (heap_new _ _ _))) (by omega) _ _))) _ Tryd.underlying22 32 kR HDS.out rfl rfl rfl ?_
    exact ⟨rfl, below_row (((below1 _ _).trans (HB1.out.mono (by simp))).trans ((HB2.out.trans ((below_past (Below.refl _ _) (Nat.le_refl _) _ _).mono hz2 |>.trans (HB3.out.mono (by simp; omega)))).mono (by omega))) (Nat.le_refl _) _⟩
  · have hE : smE xs.length = 4 := if_neg hl
    have hDe : smD xs = List.replicate 32 0 := if_neg hl
    have e1 := write_many [] xs (by simp) (by simp; omega)
    simp only [hT, List.length_nil, List.drop_nil] at e1
    have hw2 : ∀ (w1 : World), Bs w1 (.slice a1 xs.length c1) xs → KT w1 → Calls Tryd.prog 74 #[.agg #[U32 startS.a, U32 startS.b, U32 startS.c, U32 startS.d, U32 startS.e, U32 startS.f, U32 startS.g, U32 startS.h, .slice none 0 0, .int .u64 0], .slice a1 xs.length c1] w1 (FreshHE w1 stZ [] 0 4) := fun w1 h1 h2 => by
      have h := hw w1 h1 h2
      unfold wS wT wN at h
      simp only [List.length_nil, e1] at h
      rw [if_neg (by decide), if_neg (by decide), if_neg (by decide)] at h
      exact h
    rw [hE, hDe]
    have HW2 := Lib.hid hw2; clear hw2
    clear hw e1 hE hDe hS1 hD1 hDs
    go_enter Tryd.func42, Tryd.ntmps42
    go_wp2_with (first | (go_at_call 75; (with_reducible refine (start_any _).mono ?_); rintro e w1 ⟨rfl, hb1⟩; have HB1 := Lib.hid hb1; clear hb1; unfold hashV cellsH) | (go_at_call 74; (with_reducible refine (HW2.out _ (HV.out.below ((below1 _ _).trans (HB1.out.mono (by simp)))) (HK.out.later ((below1 _ _).trans (HB1.out.mono (by simp))) (Nat.le_refl _))).mono ?_); rintro e w2 ⟨a3, c3, rfl, ho2, hb2⟩; have HO2 := Lib.hid ho2; have HB2 := Lib.hid hb2; clear ho2 hb2; unfold hashV cellsH) | ((with_reducible refine iO none (.store 137 (.tmp 4) (.tmp 10)) ?_); refine wpList_store_rowN rfl 137 (.tmp 4) (.tmp 10) rfl (w2.heap.size) _ rfl rfl 137 _ (heap_new _ _ _) 10 kR rfl rfl (by simp [U32_one, one_slice, one_int, one_bool]) ?_) | ((with_reducible refine iO none (.store 22 (.tmp 2) (.tmp 14)) ?_); refine wpList_store_rowN rfl 22 (.tmp 2) (.tmp 14) rfl (w.heap.size) _ rfl rfl 22 _ (heap_past (heap_later HB2.out (by have := HB1.out.size; simp at this; omega) (heap_later HB1.out (by simp) (heap_new _ _ _))) (by have := HB1.out.size; have := HB2.out.size; simp at *; omega) _ _) 32 kR rfl rfl (by simp [one_int]) ?_) | fail)
    have hz1 := HB1.out.size
    have hz2 := HB2.out.size
    simp at hz1
    refine ret_row_tmp rfl w.heap.size 22 _ (setRow_heap _ _ _ _ _ _ (heap_past (heap_later HB2.out (by omega) (heap_later HB1.out (by simp) (heap_new _ _ _))) (by omega) _ _)) _ Tryd.underlying22 32 kR rfl rfl rfl rfl ?_
    exact ⟨rfl, below_row (((below1 _ _).trans (HB1.out.mono (by simp))).trans ((HB2.out.trans ((below_past (Below.refl _ _) (Nat.le_refl _) _ _).mono hz2)).mono (by omega))) (Nat.le_refl _) _⟩
end Go.Proofs.YtfhkmmagpnojmaaDoor

/- A key, extended to a block, each byte xor c: what digest.masked and dunnageref01.mixed return, in new memory. No condition but that the key is not longer than a block. -/
namespace Go.Proofs.YtfhkmmagpnojmaaDoor
open Go.RowKit

end Go.Proofs.YtfhkmmagpnojmaaDoor
