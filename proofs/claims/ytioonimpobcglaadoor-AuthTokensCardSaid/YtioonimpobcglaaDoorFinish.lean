/- The digest of a hash: what digest.Finish returns; new memory alone. No condition but the table of constants. -/
import Derived.Test.YtioonimpobcglaaDoorWrite
import Derived.Test.YtioonimpobcglaaDoorPad
import Derived.Test.YtioonimpobcglaaDoorRow2
set_option linter.unusedSimpArgs false
set_option linter.unusedVariables false
namespace Go.Proofs.YtioonimpobcglaaDoor
open Go.RowKit

/-- The bytes that are compressed last. -/
def lastB (ts : List UInt8) (n : Nat) : List UInt8 := ts ++ padB n
/-- The digest of a hash. -/
def finD (s : St) (ts : List UInt8) (n : Nat) : List UInt8 := outS (absS s (lastB ts n) ((lastB ts n).length / 64))
def fD (s : St) (ts : List UInt8) (n : Nat) : List UInt8 := if chkB ts.length n then finD s ts n else List.replicate 32 0

theorem outW_numB (x : UInt32) : numB x.toNat 4 = outW x := by simp [numB, outW]

theorem outS_length (s : St) : (outS s).length = 32 := by simp [outS, St.list, outW]
theorem fD_length (s : St) (ts : List UInt8) (n : Nat) : (fD s ts n).length = 32 := by unfold fD; split <;> simp [finD, outS_length]

theorem cellsH_S9 {w : World} {g : Nat} {s : St} {t : Value} {n : Nat} (h : w.heap[g]? = some (.cells (cellsH s t n) 117 (0, 0))) :
    (w.cell? ⟨g, 0, none⟩ = some (U32 s.a) ∧ w.cell? ⟨g, 1, none⟩ = some (U32 s.b) ∧ w.cell? ⟨g, 2, none⟩ = some (U32 s.c) ∧ w.cell? ⟨g, 3, none⟩ = some (U32 s.d) ∧ w.cell? ⟨g, 4, none⟩ = some (U32 s.e) ∧ w.cell? ⟨g, 5, none⟩ = some (U32 s.f) ∧ w.cell? ⟨g, 6, none⟩ = some (U32 s.g) ∧ w.cell? ⟨g, 7, none⟩ = some (U32 s.h)) ∧ w.cell? ⟨g, 9, none⟩ = some (.int .u64 (n : Int)) :=
  ⟨⟨cell_row h 0, cell_row h 1, cell_row h 2, cell_row h 3, cell_row h 4, cell_row h 5, cell_row h 6, cell_row h 7⟩, cell_row h 9⟩

/-- The first k words of a state as bytes. -/
def outP (r : St) (k : Nat) : List UInt8 := (r.list.take k).flatMap outW
theorem outP_succ (r : St) (k : Nat) (hk : k < 8) : outP r (k + 1) = outP r k ++ numB (r.list.getD k 0).toNat 4 := by
  have hl : k < r.list.length := by simp [St.list]; exact hk
  unfold outP
  rw [List.take_succ_eq_append_getElem hl, List.flatMap_append, outW_numB]
  simp [List.getD, hl]
theorem outP_eight (r : St) : outP r 8 = outS r := by unfold outP outS; rw [List.take_of_length_le (by simp [St.list])]
theorem outP_length (r : St) (k : Nat) (hk : k ≤ 8) : (outP r k).length = 4 * k := by
  induction k with
  | zero => rfl
  | succ k ih => rw [outP_succ r k (by omega), List.length_append, ih (by omega), numB_length]; omega

theorem idx_state (r : St) (i : Nat) (hi : i < 8) (w : World) :
    (Instr.index 115 (.agg #[U32 r.a, U32 r.b, U32 r.c, U32 r.d, U32 r.e, U32 r.f, U32 r.g, U32 r.h]) (.int .i64 (i : Int))).run Tryd.prog w = .ok (U32 (r.list.getD i 0)) w := by
  have hu := run_underlying (P := Tryd.prog) (t := 115) Tryd.underlying115
  have hs : (sizeOf 24).run Tryd.prog w = .ok 1 w := by kernel_rfl
  have ha : (isAgg 24).run Tryd.prog w = .ok false w := by kernel_rfl
  have hc : (#[U32 r.a, U32 r.b, U32 r.c, U32 r.d, U32 r.e, U32 r.f, U32 r.g, U32 r.h] : Array Value)[i]? = some (U32 (r.list.getD i 0)) := cellsS_get r i hi
  obtain ⟨KC, hKC⟩ : ∃ KC : Array Value, KC = #[U32 r.a, U32 r.b, U32 r.c, U32 r.d, U32 r.e, U32 r.f, U32 r.g, U32 r.h] := ⟨_, rfl⟩
  rw [← hKC] at hc ⊢
  simp [Instr.index, hu, asIntOf, hi, hs, part, ha, hc]

set_option maxRecDepth 20000 in
set_option maxHeartbeats 2000000 in
theorem finish_any (s : St) (t : Value) (ts : List UInt8) (n : Nat) (w : World) (ht : Bs w t ts) (hK : KT w) :
    Calls Tryd.prog 77 #[.agg #[U32 s.a, U32 s.b, U32 s.c, U32 s.d, U32 s.e, U32 s.f, U32 s.g, U32 s.h, t, .int .u64 (n : Int)]] w fun e w' =>
      e = .returned (.tuple #[.agg ((fD s ts n).map by8).toArray, .int .i64 (chkE ts.length n)]) ∧ Below w.heap.size w w' := by
  obtain ⟨a1, c1, rfl, k1, k2⟩ := Sl.shape ht
  unfold maxLen at k2
  have HT := Lib.hid ht; have HK := Lib.hid hK; clear ht hK
  cases hB : chkB ts.length n
  · have hC : chkE ts.length n = 8 := by simp [chkE, hB]
    have hD : fD s ts n = List.replicate 32 0 := by simp [fD, hB]
    rw [hC, hD]
    have HC := Lib.hid hC; clear hC
    clear hB hD
    go_enter Tryd.func77, Tryd.ntmps77
    go_wp2_with (first | (go_at_call 80; (with_reducible refine (check_any s a1 ts.length c1 n _ (by omega)).mono ?_); rintro e w1 ⟨rfl, hb1⟩; have HB1 := Lib.hid hb1; clear hb1; rw [HC.out]) | ((with_reducible show wpList _ _ _ (⟨none, .store 25 (.tmp 2) (.tmp 15), _, _, _, _⟩ :: _) _ _); refine wpList_store_rowN rfl 25 (.tmp 2) (.tmp 15) rfl (w.heap.size + 1) _ rfl rfl 25 _ (heap_later HB1.out (by rw [size_two]; omega) (heap_two1 _ _ _)) 32 (by kernel_rfl) rfl rfl (by simp [one_int]) ?_) | fail)
    refine ret_row_tmp rfl (w.heap.size + 1) 25 _ (setRow_heap _ _ _ _ _ _ (heap_later HB1.out (by rw [size_two]; omega) (heap_two1 _ _ _))) _ Tryd.underlying25 32 (by kernel_rfl) rfl rfl rfl rfl ?_
    exact ⟨rfl, below_row ((below2 _ _ _).trans (HB1.out.mono (by simp; omega))) (by omega) _⟩
  · have hnm : n ≤ 8192 ∧ ts.length = n % 64 := by
      unfold chkB at hB
      simpa only [Bool.and_eq_true, decide_eq_true_eq] using hB
    have hC : chkE ts.length n = 0 := by simp [chkE, hB]
    have hD : fD s ts n = outS (absS s (lastB ts n) ((lastB ts n).length / 64)) := by simp [fD, hB, finD]
    obtain ⟨z, hz⟩ : ∃ z, z = (119 - n % 64) % 64 := ⟨_, rfl⟩
    obtain ⟨zs, hzs⟩ : ∃ zs, zs = lastB ts n := ⟨_, rfl⟩
    obtain ⟨r, hr⟩ : ∃ r, r = absS s zs (zs.length / 64) := ⟨_, rfl⟩
    have hpre : (ts ++ 128 :: List.replicate z 0) ++ numB (8 * n) 8 = zs := by rw [hzs, lastB, padB_eq, ← hz]; simp
    have hab := fun v2 w1 h1 h2 => absorb_any s v2 zs w1 h1 h2
    have hput : ∀ (v : Value) (base : Nat) (w1 : World), w1.ownsRow base 5 1 v (ts ++ 128 :: List.replicate z 0).length ((ts ++ 128 :: List.replicate z 0).map by8) → base ≤ w1.heap.size → Calls Tryd.prog 68 #[v, .int .u64 (8 * (n : Int)), .int .i64 8] w1 (Grows base w1 v zs) := fun v base w1 ho hb => by
      have h := put_any base v (ts ++ 128 :: List.replicate z 0) (8 * n) 8 w1 ho hb (by simp; omega) (by omega)
      rw [hpre, show ((8 * n : Nat) : Int) = 8 * (n : Int) by omega] at h
      exact h
    have hz56 : (ts.length + 1 + z) % 64 = 56 := by omega
    have hzlt : ∀ k, k < z → (ts.length + 1 + k) % 64 ≠ 56 := by intro k hk; omega
    have hts : ts.length ≤ 63 := by omega
    have hz63 : z ≤ 63 := by omega
    have hn8 : n ≤ 8192 := hnm.1
    have hprel : (ts ++ 128 :: List.replicate z 0).length = ts.length + 1 + z := by simp; omega
    rw [hC, hD, ← hzs, ← hr]
    rw [← hr] at hab
    have HC := Lib.hid hC; have HAB := Lib.hid hab; have HPUT := Lib.hid hput; have HZ56 := Lib.hid hz56; have HZLT := Lib.hid hzlt; have HPREL := Lib.hid hprel; clear hC hab hput hz56 hzlt hprel
    clear hB hD hz hzs hr hpre hnm
    go_enter Tryd.func77, Tryd.ntmps77
    go_wp2_with (first | (go_at_call 80; (with_reducible refine (check_any s a1 ts.length c1 n _ (by omega)).mono ?_); rintro e w1 ⟨rfl, hb1⟩; have HB1 := Lib.hid hb1; clear hb1; rw [HC.out]; obtain ⟨hc, hf⟩ := bcell HB1.out) | (go_at_call 69; (with_reducible refine (clone_any _ ts _ (HT.out.below ((below2 _ _ _).trans (HB1.out.mono (by simp; omega)))) (by omega)).mono ?_); rintro e w2 ⟨v2, rfl, ho2, hb2⟩; have HO2 := Lib.hid ho2; have HB2 := Lib.hid hb2; clear ho2 hb2) | (at_builtin; refine wpList_append_grew _ rfl (.tmp 19) (.tmp 20) 22 rfl w1.heap.size 5 (.int .u8 0) 1 1 Tryd.underlying22 Tryd.infoB rfl (by decide) _ _ _ rfl (HO2.out.alloc _) _ 1 [.int .u8 128] rfl (Sl.one _ _ _) ?c1 ?c2 ?c3 ?c4 ?_) | fail)
    case c1 => intro u hu; simp at hu; subst hu; rfl
    case c2 => unfold maxLen; omega
    case c3 => omega
    case c4 => have := HB2.out.size; simp; omega
    intro v3 w3 hown3 hgrow3
    have hH1 : w1.heap[w.heap.size]? = some (.cells (cellsH s (.slice a1 ts.length c1) n) 117 (0, 0)) := heap_later HB1.out (by rw [size_two]; omega) (heap_two0 _ _ _)
    have hH2 : w1.heap[w.heap.size + 1]? = some (.cells (((List.replicate 32 (0 : UInt8)).map by8).toArray) 25 (0, 0)) := heap_later HB1.out (by rw [size_two]; omega) (heap_two1 _ _ _)
    have hb01 : Below w.heap.size w w1 := (below2 _ _ _).trans (HB1.out.mono (by simp; omega))
    have hs1 : w.heap.size + 2 ≤ w1.heap.size := by have := HB1.out.size; simp at this; omega
    have hb13 : Below w1.heap.size w1 w3 := (HB2.out.alloc HB2.out.size _).trans (hgrow3.belowOwn (HO2.out.alloc _) (Nat.le_refl _) (by have := HB2.out.size; simp; omega))
    have ho3 := own_eq (n' := ts.length + 1) (xs' := (ts ++ 128 :: List.replicate 0 0).map by8) hown3 rfl (by simp)
    obtain ⟨g3, cp3, rfl, _⟩ := some_slice ho3 (by omega)
    have HH1 := Lib.hid hH1; have HH2 := Lib.hid hH2; have HB01 := Lib.hid hb01; have HB13 := Lib.hid hb13; have HO3 := Lib.hid ho3; clear hH1 hH2 hb01 hb13 ho3
    clear hc hf HB1 HB2 HO2 hown3 hgrow3
    go_wp2_with fail
    go_loopw [5] (fun t wr => ∃ (k j : Nat) (a : Option Addr) (c : Nat), k ≤ z ∧ j = ts.length + 1 + k ∧ t = .slice a j c ∧ wr.ownsRow w1.heap.size 5 1 (.slice a j c) j ((ts ++ 128 :: List.replicate k 0).map by8) ∧ Below w1.heap.size w1 wr) (fun t _ => match t with | .slice _ m _ => 200 - m | _ => 0)
    case atStart => exact ⟨0, ts.length + 1, _, _, by omega, rfl, rfl, HO3.out, HB13.out⟩
    case round =>
      obtain ⟨k, j, a, cp, hk, hj, rfl, hown, hb⟩ := hrel
      clear HO3 HB13
      have hsz := hb.size
      have hj1 : j ≤ 128 := by omega
      have HJ := Lib.hid hj; clear hj
      by_cases hlt : k < z
      · have ht : ((j : Int) % 64 != 56) = true := by rw [bne_iff_ne]; have := HZLT.out k hlt; have := HJ.out; omega
        have HO := Lib.hid hown; have HB := Lib.hid hb; clear hown hb
        go_wp2_with (at_builtin; refine wpList_append_grew _ rfl (.tmp 26) (.tmp 27) 22 rfl w1.heap.size 5 (.int .u8 0) 1 1 Tryd.underlying22 Tryd.infoB rfl (by decide) _ _ _ rfl (HO.out.alloc _) _ 1 [.int .u8 0] rfl (Sl.one _ _ _) ?d1 ?d2 ?d3 ?d4 ?_)
        case d1 => intro u hu; simp at hu; subst hu; rfl
        case d2 => unfold maxLen; omega
        case d3 => omega
        case d4 => simp; omega
        intro v' w4 hown4 hgrow4
        have hb4 := (HB.out.alloc hsz _).trans (hgrow4.belowOwn (HO.out.alloc _) (Nat.le_refl _) (by simp; omega))
        have ho4 := own_eq (n' := j + 1) (xs' := (ts ++ 128 :: List.replicate (k + 1) 0).map by8) hown4 rfl (by simp [List.replicate_succ'])
        obtain ⟨g4, cp4, rfl, _⟩ := some_slice ho4 (by omega)
        have HO4 := Lib.hid ho4; have HB4 := Lib.hid hb4; clear ho4 hb4
        clear hown4 hgrow4
        go_wp2
        go_roundw
        case rel => exact ⟨k + 1, j + 1, _, _, by omega, by have := HJ.out; omega, rfl, HO4.out, HB4.out⟩
        case measure => simp; omega
      · obtain rfl : k = z := by omega
        have ht : ((j : Int) % 64 != 56) = false := by rw [bne_eq_false_iff_eq]; have := HZ56.out; have := HJ.out; omega
        have hwr : IntKind.u64.wrap (8 * (n : Int)) = 8 * (n : Int) := by rw [IntKind.wrap_u64]; omega
        have ho := own_eq (n' := (ts ++ 128 :: List.replicate k 0).length) (xs' := (ts ++ 128 :: List.replicate k 0).map by8) hown (by rw [HPREL.out]; exact HJ.out.symm) rfl
        have HO := Lib.hid ho; have HB := Lib.hid hb; clear ho hb
        clear hown
        go_wp2_with fail
        go_cut [6, 7] (fun p t w' => ∃ B6, p = .pointer (some ⟨B6, 0, none⟩) ∧ w'.heap[B6]? = some (.cells (cellsS r) 115 (0, 0)) ∧ Below w1.heap.size w1 w' ∧ w1.heap.size ≤ B6)
        · rename_i h1 h2
          have hF : Below w1.heap.size w1 wr.drew ∧ wr.drew.ownsRow w1.heap.size 5 1 (.slice a j cp) (ts ++ 128 :: List.replicate k 0).length ((ts ++ 128 :: List.replicate k 0).map by8) := ⟨HB.out.drew, HO.out⟩
          refine wp_region_noPanic ?_
          refine wp_region_held_drew (S := fun w' => (w'.cell? ⟨w.heap.size, 0, none⟩ = some (U32 s.a) ∧ w'.cell? ⟨w.heap.size, 1, none⟩ = some (U32 s.b) ∧ w'.cell? ⟨w.heap.size, 2, none⟩ = some (U32 s.c) ∧ w'.cell? ⟨w.heap.size, 3, none⟩ = some (U32 s.d) ∧ w'.cell? ⟨w.heap.size, 4, none⟩ = some (U32 s.e) ∧ w'.cell? ⟨w.heap.size, 5, none⟩ = some (U32 s.f) ∧ w'.cell? ⟨w.heap.size, 6, none⟩ = some (U32 s.g) ∧ w'.cell? ⟨w.heap.size, 7, none⟩ = some (U32 s.h)) ∧ w'.cell? ⟨w.heap.size, 9, none⟩ = some (.int .u64 (n : Int))) (by kernel_rfl) (cellsH_S9 (heap_later hF.1 (by omega) HH1.out)) (fun hHeld => ?_)
          obtain ⟨c0, hc0⟩ : ∃ c0, c0 = wr.drew := ⟨_, rfl⟩
          rw [← hc0] at hF hHeld ⊢
          clear hc0
          refine wpAnyH_take (i := 0) (v := ?v1) rfl (by kernel_rfl) (by kernel_rfl) (by kernel_rfl) (fun _ _ _ h => h) (Or.inl ⟨by rfl, ?y1⟩) (by assumption) ?_
          case y1 => (intro w hSw; (try dsimp only at hSw); go_simp; try (with_reducible rfl))
          try simp only [Act.put, List.setIfInBounds_toArray, List.set_cons_zero, List.set_cons_succ]
          refine wpAnyH_take (i := 1) (v := ?v2) rfl (by kernel_rfl) (by kernel_rfl) (by kernel_rfl) (fun _ _ _ h => h) (Or.inl ⟨by rfl, ?y2⟩) (by assumption) ?_
          case y2 => (intro w hSw; (try dsimp only at hSw); go_simp; try (with_reducible rfl))
          try simp only [Act.put, List.setIfInBounds_toArray, List.set_cons_zero, List.set_cons_succ]
          refine wpAnyH_take (i := 2) (v := ?v3) rfl (by kernel_rfl) (by kernel_rfl) (by kernel_rfl) (fun _ _ _ h => h) (Or.inl ⟨by rfl, ?y3⟩) (by assumption) ?_
          case y3 => (intro w hSw; (try dsimp only at hSw); go_simp; try (with_reducible rfl))
          try simp only [Act.put, List.setIfInBounds_toArray, List.set_cons_zero, List.set_cons_succ]
          refine wpAnyH_take (i := 3) (v := ?v4) rfl (by kernel_rfl) (by kernel_rfl) (by kernel_rfl) (fun _ _ _ h => h) (Or.inl ⟨by rfl, ?y4⟩) (by assumption) ?_
          case y4 => (intro w hSw; (try dsimp only at hSw); go_simp; try (with_reducible rfl))
          try simp only [Act.put, List.setIfInBounds_toArray, List.set_cons_zero, List.set_cons_succ]
          refine wpAnyH_take (i := 4) (v := ?v5) rfl (by kernel_rfl) (by kernel_rfl) (by kernel_rfl) (fun _ _ _ h => h) (Or.inl ⟨by rfl, ?y5⟩) (by assumption) ?_
          case y5 => (intro w hSw; (try dsimp only at hSw); go_simp; try (with_reducible rfl))
          try simp only [Act.put, List.setIfInBounds_toArray, List.set_cons_zero, List.set_cons_succ]
          refine wpAnyH_take (i := 5) (v := ?v6) rfl (by kernel_rfl) (by kernel_rfl) (by kernel_rfl) (fun _ _ _ h => h) (Or.inl ⟨by rfl, ?y6⟩) (by assumption) ?_
          case y6 => (intro w hSw; (try dsimp only at hSw); go_simp; try (with_reducible rfl))
          try simp only [Act.put, List.setIfInBounds_toArray, List.set_cons_zero, List.set_cons_succ]
          clear hHeld
          clear HO
          obtain ⟨c, rfl⟩ : ∃ c, c = c0 := ⟨_, rfl⟩
          refine wpAnyH_ready (rs := [6, 11]) (by kernel_rfl) (by simp) ?_
          refine AllReadyH.cons rfl (fun K hK => ?_) (AllReadyH.cons rfl (fun K hK => ?_) AllReadyH.nil)
          · go_simp
            go_at_call 68
            (with_reducible refine (HPUT.out _ _ _ hF.2 (Nat.le_trans (Nat.le_refl _) hF.1.size)).mono ?_)
            rintro e cw ⟨v1, rfl, ho1, hg1⟩
            have hbn := hF.1.trans (hg1.belowOwn hF.2 (Nat.le_refl _) hF.1.size)
            refine hK.out _ _ (cellsH_S9 (heap_later hbn (by omega) HH1.out)) (fun _ => ?_)
            clear hK K
            try simp only [Act.put, List.setIfInBounds_toArray, List.set_cons_zero, List.set_cons_succ]
            have hF2 := And.intro hbn ho1
            clear hF hbn ho1 hg1
            obtain ⟨c, rfl⟩ : ∃ c, c = cw := ⟨_, rfl⟩
            have hF := hF2; clear hF2
            refine wpAnyH_ready (rs := [7, 11]) (by kernel_rfl) (by simp) ?_
            refine AllReadyH.cons rfl (fun K hK => ?_) (AllReadyH.cons rfl (fun K hK => ?_) AllReadyH.nil)
            · go_simp
              go_at_call 81
              (with_reducible refine (HAB.out v1 _ (Bs.of_own hF.2 rfl) (HK.out.later (HB01.out.trans (hF.1.mono HB01.out.size)) (Nat.le_refl _))).mono ?_)
              rintro e cw ⟨v3, rfl, hs3, hb3⟩
              have hbn := hF.1.trans (hb3.mono hF.1.size)
              refine hK.out _ _ (cellsH_S9 (heap_later hbn (by omega) HH1.out)) (fun _ => ?_)
              clear hK K
              try simp only [Act.put, List.setIfInBounds_toArray, List.set_cons_zero, List.set_cons_succ]
              have hF2 := And.intro hbn True.intro
              clear hF hbn hs3 hb3
              unfold aggS
              obtain ⟨c, rfl⟩ : ∃ c, c = cw := ⟨_, rfl⟩
              have hF := hF2; clear hF2
              have hHeld := cellsH_S9 (heap_later hF.1 (by omega) HH1.out)
              refine wpAnyH_take (i := 8) (oi := ⟨some 29, _, _, _, _, _⟩) (v := ?v7) rfl (by kernel_rfl) (by kernel_rfl) (by kernel_rfl) (fun _ _ _ h => h) (Or.inl ⟨by rfl, ?y7⟩) (by assumption) ?_
              case y7 => (intro w hSw; (try dsimp only at hSw); go_simp; try (with_reducible rfl))
              try simp only [Act.put, List.setIfInBounds_toArray, List.set_cons_zero, List.set_cons_succ]
              refine wpAnyH_take (i := 9) (oi := ⟨some 38, _, _, _, _, _⟩) (v := ?v8) rfl (by kernel_rfl) (by kernel_rfl) (by kernel_rfl) (fun _ _ _ h => h) (Or.inl ⟨by rfl, ?y8⟩) (by assumption) ?_
              case y8 => (intro w hSw; (try dsimp only at hSw); go_simp; try (with_reducible rfl))
              try simp only [Act.put, List.setIfInBounds_toArray, List.set_cons_zero, List.set_cons_succ]
              refine wpAnyH_take (i := 10) (oi := ⟨some 39, _, _, _, _, _⟩) (v := ?v9) rfl (by kernel_rfl) (by kernel_rfl) (by kernel_rfl) (fun _ _ _ h => h) (Or.inl ⟨by rfl, ?y9⟩) (by assumption) ?_
              case y9 => (intro w hSw; (try dsimp only at hSw); go_simp; try (with_reducible rfl))
              try simp only [Act.put, List.setIfInBounds_toArray, List.set_cons_zero, List.set_cons_succ]
              clear hHeld
              refine wpAnyH_ready (rs := [11]) (by kernel_rfl) (by simp) ?_
              refine AllReadyH.cons rfl (fun K hK => ?_) AllReadyH.nil
              go_simp
              have hbz := below1 c (.cells (cellsS stZ) 115)
              have hF2 := And.intro (hF.1.trans (hbz.mono hF.1.size)) (True.intro)
              have hA := And.intro (heap_new c (cellsS stZ) 115) hF.1.size
              refine hK.out _ _ (cellsH_S9 (heap_later hF2.1 (by omega) HH1.out)) (fun _ => ?_)
              clear hK K
              try simp only [Act.put, List.setIfInBounds_toArray, List.set_cons_zero, List.set_cons_succ]
              generalize c.heap.size = B6 at hA ⊢
              obtain ⟨cw, hcw⟩ : ∃ cw, cw = c.alloc (.cells (cellsS stZ) 115) := ⟨_, rfl⟩
              change wpAnyH _ _ _ _ _ _ _ _ (c.alloc (.cells (cellsS stZ) 115))
              rw [← hcw] at hF2 hA ⊢
              clear hcw hbz hF
              obtain ⟨c, rfl⟩ : ∃ c, c = cw := ⟨_, rfl⟩
              have hF := hF2; clear hF2
              refine wpAnyH_ready (rs := [12]) (by kernel_rfl) (by simp) ?_
              refine AllReadyH.cons (o := ⟨none, _, _, _, _, _⟩) rfl (fun K hK => ?_) AllReadyH.nil
              rw [if_pos (by rfl)]
              refine wp_store_row (P := Tryd.prog) 115 (.tmp 6) (.tmp 38) rfl B6 (cellsS r) rfl rfl 115 _ hA.1 (by kernel_rfl) rfl (by simp [cellsS, U32_one]) ?_
              have hbr := below_row hF.1 hA.2 (cellsS r)
              refine hK.out _ _ (cellsH_S9 (heap_later hbr (by omega) HH1.out)) (fun hHeld => ?_)
              clear hK K
              try simp only [Act.put, List.setIfInBounds_toArray, List.set_cons_zero, List.set_cons_succ]
              refine wpAnyH_take (i := 13) (oi := ⟨some 7, _, _, _, _, _⟩) (v := ?v10) rfl (by kernel_rfl) (by kernel_rfl) (by kernel_rfl) (fun _ _ _ h => h) (Or.inl ⟨by rfl, ?y10⟩) (by assumption) ?_
              case y10 => (intro w hSw; (try dsimp only at hSw); go_simp; try (with_reducible rfl))
              try simp only [Act.put, List.setIfInBounds_toArray, List.set_cons_zero, List.set_cons_succ]
              refine wpAnyH_done (by kernel_rfl) ?_ _
              refine NoPanic.normal ?_
              refine h2 _ _ (Met.intro (h1 _ _ ?_))
              (repeat apply Exists.intro)
              exact ⟨⟨B6, rfl, setRow_heap _ _ _ _ _ _ hA.1, hbr, hA.2⟩, rfl⟩
            · go_simp
              have hbz := below1 c (.cells (cellsS stZ) 115)
              have hF2 := And.intro (hF.1.trans (hbz.mono hF.1.size)) (own_later hF.2 hbz)
              have hA := And.intro (heap_new c (cellsS stZ) 115) hF.1.size
              refine hK.out _ _ (cellsH_S9 (heap_later hF2.1 (by omega) HH1.out)) (fun _ => ?_)
              clear hK K
              try simp only [Act.put, List.setIfInBounds_toArray, List.set_cons_zero, List.set_cons_succ]
              generalize c.heap.size = B6 at hA ⊢
              obtain ⟨cw, hcw⟩ : ∃ cw, cw = c.alloc (.cells (cellsS stZ) 115) := ⟨_, rfl⟩
              change wpAnyH _ _ _ _ _ _ _ _ (c.alloc (.cells (cellsS stZ) 115))
              rw [← hcw] at hF2 hA ⊢
              clear hcw hbz hF
              obtain ⟨c, rfl⟩ : ∃ c, c = cw := ⟨_, rfl⟩
              have hF := hF2; clear hF2
              refine wpAnyH_ready (rs := [7]) (by kernel_rfl) (by simp) ?_
              refine AllReadyH.cons rfl (fun K hK => ?_) AllReadyH.nil
              go_simp
              go_at_call 81
              (with_reducible refine (HAB.out v1 _ (Bs.of_own hF.2 rfl) (HK.out.later (HB01.out.trans (hF.1.mono HB01.out.size)) (Nat.le_refl _))).mono ?_)
              rintro e cw ⟨v3, rfl, hs3, hb3⟩
              have hbn := hF.1.trans (hb3.mono hF.1.size)
              refine hK.out _ _ (cellsH_S9 (heap_later hbn (by omega) HH1.out)) (fun _ => ?_)
              clear hK K
              try simp only [Act.put, List.setIfInBounds_toArray, List.set_cons_zero, List.set_cons_succ]
              have hA2 := And.intro (heap_later hb3 (heap_lt hA.1) hA.1) hA.2
              have hF2 := And.intro hbn True.intro
              clear hF hbn hs3 hb3 hA
              unfold aggS
              obtain ⟨c, rfl⟩ : ∃ c, c = cw := ⟨_, rfl⟩
              have hF := hF2; clear hF2
              have hA := hA2; clear hA2
              have hHeld := cellsH_S9 (heap_later hF.1 (by omega) HH1.out)
              refine wpAnyH_take (i := 8) (oi := ⟨some 29, _, _, _, _, _⟩) (v := ?v11) rfl (by kernel_rfl) (by kernel_rfl) (by kernel_rfl) (fun _ _ _ h => h) (Or.inl ⟨by rfl, ?y11⟩) (by assumption) ?_
              case y11 => (intro w hSw; (try dsimp only at hSw); go_simp; try (with_reducible rfl))
              try simp only [Act.put, List.setIfInBounds_toArray, List.set_cons_zero, List.set_cons_succ]
              refine wpAnyH_take (i := 9) (oi := ⟨some 38, _, _, _, _, _⟩) (v := ?v12) rfl (by kernel_rfl) (by kernel_rfl) (by kernel_rfl) (fun _ _ _ h => h) (Or.inl ⟨by rfl, ?y12⟩) (by assumption) ?_
              case y12 => (intro w hSw; (try dsimp only at hSw); go_simp; try (with_reducible rfl))
              try simp only [Act.put, List.setIfInBounds_toArray, List.set_cons_zero, List.set_cons_succ]
              refine wpAnyH_take (i := 10) (oi := ⟨some 39, _, _, _, _, _⟩) (v := ?v13) rfl (by kernel_rfl) (by kernel_rfl) (by kernel_rfl) (fun _ _ _ h => h) (Or.inl ⟨by rfl, ?y13⟩) (by assumption) ?_
              case y13 => (intro w hSw; (try dsimp only at hSw); go_simp; try (with_reducible rfl))
              try simp only [Act.put, List.setIfInBounds_toArray, List.set_cons_zero, List.set_cons_succ]
              clear hHeld
              refine wpAnyH_ready (rs := [12]) (by kernel_rfl) (by simp) ?_
              refine AllReadyH.cons (o := ⟨none, _, _, _, _, _⟩) rfl (fun K hK => ?_) AllReadyH.nil
              rw [if_pos (by rfl)]
              refine wp_store_row (P := Tryd.prog) 115 (.tmp 6) (.tmp 38) rfl B6 (cellsS r) rfl rfl 115 _ hA.1 (by kernel_rfl) rfl (by simp [cellsS, U32_one]) ?_
              have hbr := below_row hF.1 hA.2 (cellsS r)
              refine hK.out _ _ (cellsH_S9 (heap_later hbr (by omega) HH1.out)) (fun hHeld => ?_)
              clear hK K
              try simp only [Act.put, List.setIfInBounds_toArray, List.set_cons_zero, List.set_cons_succ]
              refine wpAnyH_take (i := 13) (oi := ⟨some 7, _, _, _, _, _⟩) (v := ?v14) rfl (by kernel_rfl) (by kernel_rfl) (by kernel_rfl) (fun _ _ _ h => h) (Or.inl ⟨by rfl, ?y14⟩) (by assumption) ?_
              case y14 => (intro w hSw; (try dsimp only at hSw); go_simp; try (with_reducible rfl))
              try simp only [Act.put, List.setIfInBounds_toArray, List.set_cons_zero, List.set_cons_succ]
              refine wpAnyH_done (by kernel_rfl) ?_ _
              refine NoPanic.normal ?_
              refine h2 _ _ (Met.intro (h1 _ _ ?_))
              (repeat apply Exists.intro)
              exact ⟨⟨B6, rfl, setRow_heap _ _ _ _ _ _ hA.1, hbr, hA.2⟩, rfl⟩
          · go_simp
            have hbz := below1 c (.cells (cellsS stZ) 115)
            have hF2 := And.intro (hF.1.trans (hbz.mono hF.1.size)) (own_later hF.2 hbz)
            have hA := And.intro (heap_new c (cellsS stZ) 115) hF.1.size
            refine hK.out _ _ (cellsH_S9 (heap_later hF2.1 (by omega) HH1.out)) (fun _ => ?_)
            clear hK K
            try simp only [Act.put, List.setIfInBounds_toArray, List.set_cons_zero, List.set_cons_succ]
            generalize c.heap.size = B6 at hA ⊢
            obtain ⟨cw, hcw⟩ : ∃ cw, cw = c.alloc (.cells (cellsS stZ) 115) := ⟨_, rfl⟩
            change wpAnyH _ _ _ _ _ _ _ _ (c.alloc (.cells (cellsS stZ) 115))
            rw [← hcw] at hF2 hA ⊢
            clear hcw hbz hF
            obtain ⟨c, rfl⟩ : ∃ c, c = cw := ⟨_, rfl⟩
            have hF := hF2; clear hF2
            refine wpAnyH_ready (rs := [6]) (by kernel_rfl) (by simp) ?_
            refine AllReadyH.cons rfl (fun K hK => ?_) AllReadyH.nil
            go_simp
            go_at_call 68
            (with_reducible refine (HPUT.out _ _ _ hF.2 (Nat.le_trans (Nat.le_refl _) hF.1.size)).mono ?_)
            rintro e cw ⟨v1, rfl, ho1, hg1⟩
            have hbn := hF.1.trans (hg1.belowOwn hF.2 (Nat.le_refl _) hF.1.size)
            refine hK.out _ _ (cellsH_S9 (heap_later hbn (by omega) HH1.out)) (fun _ => ?_)
            clear hK K
            try simp only [Act.put, List.setIfInBounds_toArray, List.set_cons_zero, List.set_cons_succ]
            have hA2 := And.intro ((hg1.g.block _ (heap_lt hA.1) (own_other hF.2 hA.1 (by decide))).trans hA.1) hA.2
            have hF2 := And.intro hbn ho1
            clear hF hbn ho1 hg1 hA
            obtain ⟨c, rfl⟩ : ∃ c, c = cw := ⟨_, rfl⟩
            have hF := hF2; clear hF2
            have hA := hA2; clear hA2
            refine wpAnyH_ready (rs := [7]) (by kernel_rfl) (by simp) ?_
            refine AllReadyH.cons rfl (fun K hK => ?_) AllReadyH.nil
            go_simp
            go_at_call 81
            (with_reducible refine (HAB.out v1 _ (Bs.of_own hF.2 rfl) (HK.out.later (HB01.out.trans (hF.1.mono HB01.out.size)) (Nat.le_refl _))).mono ?_)
            rintro e cw ⟨v3, rfl, hs3, hb3⟩
            have hbn := hF.1.trans (hb3.mono hF.1.size)
            refine hK.out _ _ (cellsH_S9 (heap_later hbn (by omega) HH1.out)) (fun _ => ?_)
            clear hK K
            try simp only [Act.put, List.setIfInBounds_toArray, List.set_cons_zero, List.set_cons_succ]
            have hA2 := And.intro (heap_later hb3 (heap_lt hA.1) hA.1) hA.2
            have hF2 := And.intro hbn True.intro
            clear hF hbn hs3 hb3 hA
            unfold aggS
            obtain ⟨c, rfl⟩ : ∃ c, c = cw := ⟨_, rfl⟩
            have hF := hF2; clear hF2
            have hA := hA2; clear hA2
            have hHeld := cellsH_S9 (heap_later hF.1 (by omega) HH1.out)
            refine wpAnyH_take (i := 8) (oi := ⟨some 29, _, _, _, _, _⟩) (v := ?v15) rfl (by kernel_rfl) (by kernel_rfl) (by kernel_rfl) (fun _ _ _ h => h) (Or.inl ⟨by rfl, ?y15⟩) (by assumption) ?_
            case y15 => (intro w hSw; (try dsimp only at hSw); go_simp; try (with_reducible rfl))
            try simp only [Act.put, List.setIfInBounds_toArray, List.set_cons_zero, List.set_cons_succ]
            refine wpAnyH_take (i := 9) (oi := ⟨some 38, _, _, _, _, _⟩) (v := ?v16) rfl (by kernel_rfl) (by kernel_rfl) (by kernel_rfl) (fun _ _ _ h => h) (Or.inl ⟨by rfl, ?y16⟩) (by assumption) ?_
            case y16 => (intro w hSw; (try dsimp only at hSw); go_simp; try (with_reducible rfl))
            try simp only [Act.put, List.setIfInBounds_toArray, List.set_cons_zero, List.set_cons_succ]
            refine wpAnyH_take (i := 10) (oi := ⟨some 39, _, _, _, _, _⟩) (v := ?v17) rfl (by kernel_rfl) (by kernel_rfl) (by kernel_rfl) (fun _ _ _ h => h) (Or.inl ⟨by rfl, ?y17⟩) (by assumption) ?_
            case y17 => (intro w hSw; (try dsimp only at hSw); go_simp; try (with_reducible rfl))
            try simp only [Act.put, List.setIfInBounds_toArray, List.set_cons_zero, List.set_cons_succ]
            clear hHeld
            refine wpAnyH_ready (rs := [12]) (by kernel_rfl) (by simp) ?_
            refine AllReadyH.cons (o := ⟨none, _, _, _, _, _⟩) rfl (fun K hK => ?_) AllReadyH.nil
            rw [if_pos (by rfl)]
            refine wp_store_row (P := Tryd.prog) 115 (.tmp 6) (.tmp 38) rfl B6 (cellsS r) rfl rfl 115 _ hA.1 (by kernel_rfl) rfl (by simp [cellsS, U32_one]) ?_
            have hbr := below_row hF.1 hA.2 (cellsS r)
            refine hK.out _ _ (cellsH_S9 (heap_later hbr (by omega) HH1.out)) (fun hHeld => ?_)
            clear hK K
            try simp only [Act.put, List.setIfInBounds_toArray, List.set_cons_zero, List.set_cons_succ]
            refine wpAnyH_take (i := 13) (oi := ⟨some 7, _, _, _, _, _⟩) (v := ?v18) rfl (by kernel_rfl) (by kernel_rfl) (by kernel_rfl) (fun _ _ _ h => h) (Or.inl ⟨by rfl, ?y18⟩) (by assumption) ?_
            case y18 => (intro w hSw; (try dsimp only at hSw); go_simp; try (with_reducible rfl))
            try simp only [Act.put, List.setIfInBounds_toArray, List.set_cons_zero, List.set_cons_succ]
            refine wpAnyH_done (by kernel_rfl) ?_ _
            refine NoPanic.normal ?_
            refine h2 _ _ (Met.intro (h1 _ _ ?_))
            (repeat apply Exists.intro)
            exact ⟨⟨B6, rfl, setRow_heap _ _ _ _ _ _ hA.1, hbr, hA.2⟩, rfl⟩
        · obtain ⟨B6, rfl, hB6, hbc, hB6s⟩ := hcut
          have hsc := hbc.size
          obtain ⟨q0, q1, q2, q3, q4, q5, q6, q7⟩ := cells_of hB6
          have hput4 : ∀ (k : Nat) (v : Value) (w5 : World), k < 8 → w5.ownsRow wc.heap.size 5 1 v (4 * k) ((outP r k).map by8) → wc.heap.size ≤ w5.heap.size → Calls Tryd.prog 68 #[v, .int .u64 ((r.list.getD k 0).toNat : Int), .int .i64 4] w5 (Grows wc.heap.size w5 v (outP r (k + 1))) := fun k v w5 hk ho hb => by
            rw [← outP_length r k (by omega)] at ho
            have h := put_any wc.heap.size v (outP r k) (r.list.getD k 0).toNat 4 w5 ho hb (by rw [outP_length r k (by omega)]; omega) (by omega)
            rw [← outP_succ r k hk] at h
            exact h
          have hidx := fun (i : Nat) (hi : i < 8) w' => idx_state r i hi w'
          have hcv : ∀ (x : UInt32) (w' : World), (convert 24 23 (U32 x)).run Tryd.prog w' = .ok (.int .u64 (x.toNat : Int)) w' := fun x w' => by
            have hx := u32_lt x
            unfold U32
            have h := run_convert_int (P := Tryd.prog) w' 24 23 .u32 (x.toNat : Int) (by kernel_rfl) (by kernel_rfl)
            rw [show Tryd.prog.intKind 23 = .u64 by kernel_rfl, IntKind.wrap_u64] at h
            rw [h]
            congr 2
            omega
          have hbwc : Below w.heap.size w wc := HB01.out.trans (hbc.mono (by omega))
          have hRes : wc.heap[w.heap.size + 1]? = some (.cells (((List.replicate 32 (0 : UInt8)).map by8).toArray) 25 (0, 0)) := heap_later hbc (by omega) HH2.out
          obtain ⟨rl, hrl⟩ : ∃ rl : Nat → UInt32, rl = fun i => r.list.getD i 0 := ⟨_, rfl⟩
          have hrl2 : ∀ i, r.list.getD i 0 = rl i := fun i => by rw [hrl]
          simp only [hrl2] at hidx hput4
          have HPUT4 := Lib.hid hput4; have HIDX := Lib.hid hidx; have HBWC := Lib.hid hbwc; have HRES := Lib.hid hRes; clear hput4 hidx hbwc hRes
          clear hrl hrl2 hbc hB6
          have hU : ∀ x : UInt32, (x.toNat : Int) < 4294967296 := fun x => by have := u32_lt x; omega
          have HU := Lib.hid hU; clear hU
          go_wp2
          go_loopw [8, 41] (fun v i wr => ∃ k : Nat, k ≤ 8 ∧ i = .int .i64 (k : Int) ∧ wr.ownsRow wc.heap.size 5 1 v (4 * k) ((outP r k).map by8) ∧ Below wc.heap.size wc wr) (fun _ i _ => 8 - (intOf i).toNat)
          case atStart => exact ⟨0, by omega, rfl, World.ownsRow_nil _ _ _ _, Below.refl _ _⟩
          case round =>
            obtain ⟨k, hk, rfl, ho, hb⟩ := hrel
            by_cases hlt : k < 8
            · have hix := HIDX.out k hlt
              have hcx := hcv (rl k)
              have hpk := HPUT4.out k
              have l0 : (k : Int) < 8 := by omega
              have HO := Lib.hid ho; have HB := Lib.hid hb; have HPK := Lib.hid hpk; clear ho hb hpk
              clear hcv
              go_wp2_with (go_at_call 68; (with_reducible refine (HPK.out _ _ hlt HO.out HB.out.size).mono ?_); rintro e w6 ⟨v6, rfl, ho6, hg6⟩; have HO6 := Lib.hid ho6; have HG6 := Lib.hid hg6; clear ho6 hg6)
              go_roundw
              case rel => exact ⟨k + 1, by omega, by go_num, own_eq HO6.out (by rw [outP_length r (k + 1) (by omega)]) rfl, HB.out.trans (HG6.out.belowOwn HO.out (Nat.le_refl _) HB.out.size)⟩
              case measure => simp [intOf]; omega
            · obtain rfl : k = 8 := by omega
              obtain ⟨g8, c8, rfl, hc8⟩ := some_slice ho (by omega)
              have hbs : Bs wr (.slice (some ⟨g8, 0, none⟩) 32 c8) (outS r) := Bs.of_own (by rw [outP_eight] at ho; exact ho) (outS_length r)
              have hrg := hbs.range
              have har := fun w' => run_arrayAt (P := Tryd.prog) w' 25 5 32 (some ⟨g8, 0, none⟩) 32 c8 Tryd.underlying25 (Nat.le_refl _)
              have hi32 : (Tryd.prog.info? 25).map (·.size) = some ((outS r).map by8).length := by
                have h : (Tryd.prog.info? 25).map (·.size) = some 32 := by kernel_rfl
                rw [h, List.length_map, outS_length]
              have hrw := heap_later hb (heap_lt HRES.out) HRES.out
              obtain ⟨D, hDD⟩ : ∃ D, D = (outS r).map by8 := ⟨_, rfl⟩
              have hDl : D.length = 32 := by rw [hDD, List.length_map, outS_length]
              have hD1 : D.toArray.all (·.oneCell') = true := by rw [hDD]; exact all_by8 _
              rw [← hDD] at hrg hi32
              have HRG := Lib.hid hrg; have HI32 := Lib.hid hi32; have HRW := Lib.hid hrw; have HDL := Lib.hid hDl; have HD1 := Lib.hid hD1; have HB := Lib.hid hb; have HDD := Lib.hid hDD; clear hrg hi32 hrw hDl hD1 hb hDD
              clear hcv ho hbs
              go_wp2_with (first | ((with_reducible show wpList _ _ _ (⟨some 51, _, _, _, _, _⟩ :: _) _ _); refine wpList_load_mid rfl 25 (.tmp 50) rfl g8 0 rfl D _ HRG.out Tryd.underlying25 rfl HI32.out ?_) | ((with_reducible show wpList _ _ _ (⟨none, .store 25 (.tmp 2) (.tmp 51), _, _, _, _⟩ :: _) _ _); refine wpList_store_rowN rfl 25 (.tmp 2) (.tmp 51) rfl (w.heap.size + 1) D.toArray rfl rfl 25 _ HRW.out 32 (by kernel_rfl) (by simp [HDL.out]) (by simp) HD1.out ?_) | fail)
              refine ret_row_tmp rfl (w.heap.size + 1) 25 _ (setRow_heap _ _ _ _ _ _ HRW.out) _ Tryd.underlying25 32 (by kernel_rfl) (by simp [HDL.out]) rfl rfl rfl ?_
              exact ⟨by rw [HDD.out]; rfl, below_row (HBWC.out.trans (HB.out.mono (by omega))) (by omega) _⟩
end Go.Proofs.YtioonimpobcglaaDoor
