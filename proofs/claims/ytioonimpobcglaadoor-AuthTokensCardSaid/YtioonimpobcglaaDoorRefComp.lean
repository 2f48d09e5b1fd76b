/- The specification's compression of a block: what dunnageref01.Compress returns; new memory alone. -/
import Derived.Test.YtioonimpobcglaaDoorSched
import Derived.Test.YtioonimpobcglaaDoorRow
set_option linter.unusedSimpArgs false
set_option linter.unusedVariables false
namespace Go.Proofs.YtioonimpobcglaaDoor
open Go.RowKit

set_option maxRecDepth 20000 in
set_option maxHeartbeats 4000000 in
theorem constants_any (w : World) : Calls Tryd.prog 94 #[] w (FreshW w kTab) := by
  go_enter Tryd.func94, Tryd.ntmps94
  go_wp2_with fail
  go_ret
  have h := World.ownsRow_lit (base := w.heap.size) (e := 24) (size := 1) w (kTab.map U32).toArray 64 (Nat.le_refl _) (by decide) (by kernel_rfl)
  have hr : (kTab.map U32).toArray.toList = kTab.map U32 := rfl
  rw [hr] at h
  exact ⟨_, rfl, h, (Below.refl _ _).alloc (Nat.le_refl _) _⟩

/-- What stands when the specification's rounds begin. -/
structure RefG (w : World) (s : St) (b : List UInt8) (B2 BV gs cs gk ck : Nat) (w2 : World) : Prop where
  below : Below w.heap.size w w2
  st : w2.heap[w.heap.size]? = some (.cells (cellsS s) 115 (0, 0))
  res : w2.heap[B2]? = some (.cells (cellsS ⟨0, 0, 0, 0, 0, 0, 0, 0⟩) 115 (0, 0))
  vv : w2.heap[BV]? = some (.cells (cellsS s) 115 (0, 0))
  ws : ∀ j, j < 64 → w2.cell? ⟨gs, j, none⟩ = some (U32 ((schedW b 64).getD j 0))
  ks : ∀ j, j < 64 → w2.cell? ⟨gk, j, none⟩ = some (U32 (kTab.getD j 0))
  ne : w.heap.size < B2 ∧ B2 < BV ∧ gs < BV ∧ gk < BV ∧ w.heap.size < gs ∧ w.heap.size < gk ∧ w2.heap.size = BV + 1 ∧ 64 ≤ cs ∧ 64 ≤ ck

theorem own_some {w : World} {base e size : Nat} {v : Value} {n : Nat} {xs : List Value} (h : w.ownsRow base e size v n xs) (hn : n ≠ 0) :
    ∃ g cap, v = .slice (some ⟨g, 0, none⟩) n cap ∧ n ≤ cap ∧ w.ownsRow base e size (.slice (some ⟨g, 0, none⟩) n cap) n xs := by
  rcases h.2 with ⟨_, h0⟩ | ⟨g, cap, cur, hv, _, _, hc, _⟩
  · exact absurd h0 hn
  · exact ⟨g, cap, hv, hc, by rw [← hv]; exact h⟩

theorem three {w w1 w2 : World} {o0 o1 o2 : Obj} (h1 : Below (((w.alloc o0).alloc o1).alloc o2).heap.size (((w.alloc o0).alloc o1).alloc o2) w1) (h2 : Below w1.heap.size w1 w2) :
    w2.heap[w.heap.size]? = some o0 ∧ w2.heap[w.heap.size + 1 + 1]? = some o2 ∧ Below w.heap.size w w2 ∧ w.heap.size + 3 ≤ w1.heap.size ∧ w1.heap.size ≤ w2.heap.size := by
  have hh : (((w.alloc o0).alloc o1).alloc o2).heap = [o0, o1, o2].foldl Array.push w.heap := rfl
  have at' : ∀ (i : Nat) (o : Obj), [o0, o1, o2][i]? = some o → (((w.alloc o0).alloc o1).alloc o2).heap[w.heap.size + i]? = some o := fun i o h => by rw [hh]; exact push_at _ w.heap i o h
  have hs : (((w.alloc o0).alloc o1).alloc o2).heap.size = w.heap.size + 3 := by simp
  have s1 := h1.size
  have s2 := h2.size
  refine ⟨?_, ?_, ?_, by omega, s2⟩
  · rw [h2.block _ (by omega), h1.block _ (by omega)]; exact at' 0 _ rfl
  · rw [h2.block _ (by omega), h1.block _ (by omega)]; exact at' 2 _ rfl
  · have b0 : Below w.heap.size w (((w.alloc o0).alloc o1).alloc o2) := (((Below.refl _ _).alloc (Nat.le_refl _) _).alloc (by simp) _).alloc (by simp; omega) _
    exact (b0.trans (h1.mono (by omega))).trans (h2.mono (by omega))

theorem word_cells {w : World} {base g cap : Nat} {xs : List UInt32} (h : w.ownsRow base 24 1 (.slice (some ⟨g, 0, none⟩) 64 cap) 64 (xs.map U32)) (hl : xs.length = 64) (j : Nat) (hj : j < 64) :
    w.cell? ⟨g, j, none⟩ = some (U32 (xs.getD j 0)) := by
  have := h.cellAt j (by omega)
  rw [this, List.getElem?_map, List.getElem?_eq_getElem (by omega)]
  simp [List.getD, hl, hj]

theorem refG_of {w w1 w2 w3 : World} {s : St} {b : List UInt8} {gs cps gk cpk : Nat} {o : Obj}
    (hT : w2.heap[w.heap.size]? = some (.cells (cellsS s) 115 (0, 0)) ∧ w2.heap[w.heap.size + 1 + 1]? = some (.cells (cellsS ⟨0, 0, 0, 0, 0, 0, 0, 0⟩) 115 (0, 0)) ∧ Below w.heap.size w w2 ∧ w.heap.size + 3 ≤ w1.heap.size ∧ w1.heap.size ≤ w2.heap.size)
    (h1 : w1.ownsRow (w.heap.size + 3) 24 1 (.slice (some ⟨gs, 0, none⟩) 64 cps) 64 ((schedW b 64).map U32)) (h2 : w2.ownsRow w1.heap.size 24 1 (.slice (some ⟨gk, 0, none⟩) 64 cpk) 64 (kTab.map U32))
    (hb : Below w1.heap.size w1 w2) (hcs : 64 ≤ cps) (hck : 64 ≤ cpk) (h3 : w3 = (w2.alloc o).setRow w2.heap.size (cellsS s)) (ho : ∃ c, o = .cells c 115 (0, 0)) :
    RefG w s b (w.heap.size + 1 + 1) w2.heap.size gs cps gk cpk w3 := by
  obtain ⟨c, rfl⟩ := ho
  obtain ⟨t1, t2, t3, t4, t5⟩ := hT
  have l1 := h1.lt gs rfl
  have l2 := h2.lt gk rfl
  have old : ∀ j, j < w2.heap.size → w3.heap[j]? = w2.heap[j]? := fun j hj => by rw [h3]; exact (setRow_other _ _ j _ (by omega)).trans (Below.heap_alloc w2 _ j hj)
  have hs3 : w3.heap.size = w2.heap.size + 1 := by rw [h3]; simp
  have hb3 : Below w2.heap.size w2 w3 := ⟨by rw [h3]; rfl, by rw [h3]; rfl, by rw [h3]; rfl, by omega, old⟩
  refine ⟨t3.trans (hb3.mono (by omega)), (old _ (by omega)).trans t1, (old _ (by omega)).trans t2, ?_, fun j hj => ?_, fun j hj => ?_, by omega⟩
  · rw [h3]
    exact setRow_heap _ _ _ _ _ _ (heap_alloc_new w2 _)
  · have hc := word_cells h1 (schedW_length b 64) j hj
    have hc2 := (hb.cell (World.block_lt_of_cell? w1 _ hc)).trans hc
    exact (hb3.cell (World.block_lt_of_cell? w2 _ hc2)).trans hc2
  · have hc2 := word_cells h2 (by decide) j hj
    exact (hb3.cell (World.block_lt_of_cell? w2 _ hc2)).trans hc2

set_option maxRecDepth 20000 in
set_option maxHeartbeats 8000000 in
theorem refCompress_any (s : St) (b : List UInt8) (w : World) (hb : b.length = 64) :
    Calls Tryd.prog 90 #[.agg #[U32 s.a, U32 s.b, U32 s.c, U32 s.d, U32 s.e, U32 s.f, U32 s.g, U32 s.h], .agg (b.map by8).toArray] w fun e w' => e = .returned (aggS (compS s b)) ∧ Below w.heap.size w w' := by
  obtain ⟨C, hC⟩ : ∃ C, C = (b.map by8).toArray := ⟨_, rfl⟩
  have hsd := fun w1 => sched_any b w1 hb
  rw [← hC] at hsd ⊢
  have hiC : (Tryd.prog.info? 131).map (·.size) = some C.size := by
    have h : (Tryd.prog.info? 131).map (·.size) = some 64 := by kernel_rfl
    rw [h, hC]; simp [hb]
  have HSD := Lib.hid hsd; have HIC := Lib.hid hiC; clear hC hb hsd hiC
  go_enter Tryd.func90, Tryd.ntmps90
  have hld : ∀ o0 o2 : Obj, (((w.alloc o0).alloc (.cells C 131)).alloc o2).heap[w.heap.size + 1]? = some (.cells C 131 (0, 0)) := fun o0 o2 => by
    have hh : (((w.alloc o0).alloc (.cells C 131)).alloc o2).heap = [o0, .cells C 131, o2].foldl Array.push w.heap := rfl
    rw [hh]; exact push_at _ w.heap 1 _ rfl
  have HLD := Lib.hid hld; clear hld
  have hi8 : (Tryd.prog.info? 115).map (·.size) = some (cellsS s).size := by kernel_rfl
  have hz8 : (cellsS s).all (·.oneCell') = true := by simp [cellsS, U32_one]
  have HI8 := Lib.hid hi8; have HZ8 := Lib.hid hz8; clear hi8 hz8
  go_wp2_with (first | ((with_reducible show wpList _ _ _ (⟨some 18, _, _, _, _, _⟩ :: _) _ _); refine wpList_load_row rfl 131 (.tmp 3) rfl (w.heap.size + 1) rfl 131 C (0, 0) _ (HLD.out _ _) Tryd.underlying131 rfl HIC.out ?_) | (go_at_call 93; refine (HSD.out _).mono ?_; rintro e w1 ⟨v1, rfl, ho1, hb1⟩; obtain ⟨gs, cps, hv1, hcs, ho1'⟩ := own_some ho1 (by decide); rw [hv1]; have HO1 := Lib.hid ho1'; have HB1 := Lib.hid hb1; clear ho1 hb1 ho1' hv1) | (go_at_call 94; refine (constants_any _).mono ?_; rintro e w2 ⟨v2, rfl, ho2, hb2⟩; obtain ⟨gk, cpk, hv2, hck, ho2'⟩ := own_some ho2 (by decide); rw [hv2]; have ht := three HB1.out hb2; have HO2 := Lib.hid ho2'; have HB2 := Lib.hid hb2; have HT := Lib.hid ht; clear ho2 hb2 ho2' hv2 ht) | ((with_reducible show wpList _ _ _ (⟨some 21, _, _, _, _, _⟩ :: _) _ _); refine wpList_load_row rfl 115 (.tmp 2) rfl w.heap.size rfl 115 (cellsS s) (0, 0) _ HT.out.1 Tryd.underlying115 rfl HI8.out ?_) | ((with_reducible show wpList _ _ _ (⟨none, .store 115 (.tmp 7) (.tmp 21), _, _, _, _⟩ :: _) _ _); refine wpList_store_row rfl 115 (.tmp 7) (.tmp 21) rfl w2.heap.size (cellsS s) rfl rfl 115 _ (heap_alloc_new w2 _) HI8.out rfl HZ8.out ?_))
  have hs3 : (((w.alloc (.cells #[U32 s.a, U32 s.b, U32 s.c, U32 s.d, U32 s.e, U32 s.f, U32 s.g, U32 s.h] 115)).alloc (.cells C 131)).alloc (.cells (cellsS ⟨0, 0, 0, 0, 0, 0, 0, 0⟩) 115)).heap.size = w.heap.size + 3 := by simp
  have ho1 : w1.ownsRow (w.heap.size + 3) 24 1 (.slice (some ⟨gs, 0, none⟩) 64 cps) 64 ((schedW b 64).map U32) := by rw [← hs3]; exact HO1.out
  refine forget (RefG w s b (w.heap.size + 1 + 1) w2.heap.size gs cps gk cpk) (refG_of HT.out ho1 HO2.out HB2.out hcs hck rfl ⟨_, rfl⟩) ?_
  intro w3 hG3
  generalize w2.heap.size = BV at hG3 ⊢
  generalize w.heap.size + 1 + 1 = B2 at hG3 ⊢
  have HH := Lib.hid hG3
  clear hG3 HO1 HO2 HB2 HT HB1 ho1 hs3
  go_loopw [8] (fun t wr => ∃ i : Nat, i ≤ 64 ∧ t = .int .i64 (i : Int) ∧ wr.heap[BV]? = some (.cells (cellsS (roundsR (schedW b 64) s i)) 115 (0, 0)) ∧ w3.grownBy wr (some BV)) (fun t _ => 64 - (intOf t).toNat)
  case atStart => exact ⟨0, by omega, rfl, HH.out.vv, World.grownBy.refl _ _⟩
  case round =>
    obtain ⟨i, hi, rfl, hv, hg⟩ := hrel
    by_cases hlt : i < 64
    · obtain ⟨v, hvv⟩ : ∃ v, v = roundsR (schedW b 64) s i := ⟨_, rfl⟩
      rw [← hvv] at hv
      have hne := HH.out.ne
      have cw : wr.cell? ⟨gs, i, none⟩ = some (U32 ((schedW b 64).getD i 0)) := hg.cell (HH.out.ws i hlt) (by simp; omega)
      have ck : wr.cell? ⟨gk, i, none⟩ = some (U32 (kTab.getD i 0)) := hg.cell (HH.out.ks i hlt) (by simp; omega)
      obtain ⟨c0, c1, c2, c3, c4, c5, c6, c7⟩ := cells_of hv
      obtain ⟨wi, hwi⟩ : ∃ wi, wi = (schedW b 64).getD i 0 := ⟨_, rfl⟩
      rw [← hwi] at cw
      obtain ⟨ki, hkk⟩ : ∃ ki, ki = kTab.getD i 0 := ⟨_, rfl⟩
      rw [← hkk] at ck
      have hst : stepR v ki wi = roundsR (schedW b 64) s (i + 1) := by rw [hvv, hkk, hwi]; rfl
      have hta : tA v ki wi = v.h + (rotr v.e 6 ^^^ rotr v.e 11 ^^^ rotr v.e 25) + ((v.e &&& v.f) ^^^ (~~~v.e &&& v.g)) + ki + wi := by unfold tA; rw [mixS_three]
      have htb : tB v = (rotr v.a 2 ^^^ rotr v.a 13 ^^^ rotr v.a 22) + ((v.a &&& v.b) ^^^ (v.a &&& v.c) ^^^ (v.b &&& v.c)) := by unfold tB; rw [mixS_three]
      have HV := Lib.hid hv; have HG := Lib.hid hg; have HST := Lib.hid hst; have HNE := Lib.hid hne; have HTA := Lib.hid hta; have HTB := Lib.hid htb
      clear hv hg hst hne hvv hwi hkk hta htb
      have l0 : (i : Int) < 64 := by omega
      go_wp2_with fail
      go_quiet (fail)
      go_wp2_with fail
      have d3 : (wr.drewN nq).cell? ⟨BV, 3, none⟩ = some (U32 v.d) := c3
      have d7 : (wr.drewN nq).cell? ⟨BV, 7, none⟩ = some (U32 v.h) := c7
      have dw : (wr.drewN nq).cell? ⟨gs, i, none⟩ = some (U32 wi) := cw
      have dk : (wr.drewN nq).cell? ⟨gk, i, none⟩ = some (U32 ki) := ck
      have hvq : (wr.drewN nq).heap[BV]? = some (.cells (cellsS v) 115 (0, 0)) := HV.out
      have hgq : w3.grownBy (wr.drewN nq) (some BV) := ⟨HG.out.os, HG.out.tape, HG.out.output, HG.out.size, HG.out.block⟩
      clear HV HG c0 c1 c2 c3 c4 c5 c6 c7 cw ck
      generalize wr.drewN nq = wq at d3 d7 dw dk hvq hgq ⊢
      have HV := Lib.hid hvq; have HG := Lib.hid hgq; clear hvq hgq
      go_quiet ((first | (go_at_call 95; (with_reducible exact Calls.quiet_of (rotr_6 v.e _))) | (go_at_call 95; (with_reducible exact Calls.quiet_of (rotr_11 v.e _))) | (go_at_call 95; (with_reducible exact Calls.quiet_of (rotr_25 v.e _)))))
      go_wp2_with fail
      have e3 : (wq.drewN nq).cell? ⟨BV, 3, none⟩ = some (U32 v.d) := d3
      have hvq : (wq.drewN nq).heap[BV]? = some (.cells (cellsS v) 115 (0, 0)) := HV.out
      have hgq : w3.grownBy (wq.drewN nq) (some BV) := ⟨HG.out.os, HG.out.tape, HG.out.output, HG.out.size, HG.out.block⟩
      clear HV HG d3 d7 dw dk
      generalize wq.drewN nq = wp at e3 hvq hgq ⊢
      have HV := Lib.hid hvq; have HG := Lib.hid hgq; clear hvq hgq
      go_wp2_with (first | (go_at_call 95; (with_reducible refine (rotr_2 v.a _).mono ?_); rintro e w' ⟨rfl, m1, rfl⟩) | (go_at_call 95; (with_reducible refine (rotr_13 v.a _).mono ?_); rintro e w' ⟨rfl, m2, rfl⟩) | (go_at_call 95; (with_reducible refine (rotr_22 v.a _).mono ?_); rintro e w' ⟨rfl, m3, rfl⟩) | ((with_reducible show wpList _ _ _ (⟨none, .store 115 (.tmp 7) (.tmp 101), _, _, _, _⟩ :: _) _ _); refine wpList_store_rowN rfl 115 (.tmp 7) (.tmp 101) rfl BV _ rfl rfl 115 (cellsS v) HV.out 8 HI8.out rfl rfl ?hz ?_))
      case hz => simp [cellsS, U32_one]
      go_wp2_with fail
      go_roundw
      case rel =>
        have hg3 : w3.grownBy ((wp.drewN (m1 + m2 + m3)).setRow BV (cellsS (stepR v ki wi))) (some BV) := by
          have g1 := HG.out
          exact ⟨g1.os, g1.tape, g1.output, by simpa using g1.size, fun k hk hne => (setRow_other (wp.drewN (m1 + m2 + m3)) BV k _ (by simp at hne; omega)).trans (g1.block k hk hne)⟩
        have hh3 : ((wp.drewN (m1 + m2 + m3)).setRow BV (cellsS (stepR v ki wi))).heap[BV]? = some (.cells (cellsS (stepR v ki wi)) 115 (0, 0)) := setRow_heap _ _ _ _ _ _ HV.out
        have hcs : cellsS (stepR v ki wi) = #[U32 (tA v ki wi + tB v), U32 v.a, U32 v.b, U32 v.c, U32 (v.d + tA v ki wi), U32 v.e, U32 v.f, U32 v.g] := rfl
        rw [HTA.out, HTB.out] at hcs
        rw [← hcs]
        rw [HST.out] at hh3 hg3 ⊢
        exact ⟨i + 1, by omega, by go_num, hh3, hg3⟩
      case measure => simp [intOf]; omega
    · obtain rfl : i = 64 := by omega
      have hne := HH.out.ne
      have hst : wr.heap[w.heap.size]? = some (.cells (cellsS s) 115 (0, 0)) := by rw [hg.block _ (by omega) (by simp; omega)]; exact HH.out.st
      have hres : wr.heap[B2]? = some (.cells (cellsS ⟨0, 0, 0, 0, 0, 0, 0, 0⟩) 115 (0, 0)) := by rw [hg.block _ (by omega) (by simp; omega)]; exact HH.out.res
      have hbel : Below w.heap.size w wr := HH.out.below.grown hg (by omega) (fun k hk => by simp at hk; omega)
      have hszr := hg.size
      have hcomp : addS s (roundsR (schedW b 64) s 64) = compS s b := rfl
      obtain ⟨V, hV⟩ : ∃ V, V = roundsR (schedW b 64) s 64 := ⟨_, rfl⟩
      rw [← hV] at hv hcomp
      have HV := Lib.hid hv; have HST := Lib.hid hst; have HRES := Lib.hid hres; have HBEL := Lib.hid hbel; have HNE := Lib.hid hne; have HSZR := Lib.hid hszr; have HCOMP := Lib.hid hcomp; clear hv hst hres hbel hne hszr hcomp
      clear hV hg HH
      obtain ⟨wo, hwo⟩ : ∃ wo, wo = wr := ⟨_, rfl⟩
      rw [← hwo] at HV HST HRES HBEL HSZR ⊢
      clear hwo
      go_wp2_with fail
      go_loopw [17] (fun t wr => ∃ i : Nat, i ≤ 8 ∧ t = .int .i64 (i : Int) ∧ wr.heap[w.heap.size]? = some (.cells (cellsP s V i) 115 (0, 0)) ∧ wo.grownBy wr (some w.heap.size)) (fun t _ => 8 - (intOf t).toNat)
      case atStart => exact ⟨0, by omega, rfl, HST.out, World.grownBy.refl _ _⟩
      case round =>
        obtain ⟨i, hi, rfl, hv, hg⟩ := hrel
        by_cases hlt : i < 8
        · have hvv : wr.heap[BV]? = some (.cells (cellsS V) 115 (0, 0)) := by have := HNE.out; have := HSZR.out; rw [hg.block BV (by omega) (by simp; omega)]; exact HV.out
          have c1 : wr.cell? ⟨w.heap.size, i, none⟩ = some (U32 (s.list.getD i 0)) := (cell_row hv i).trans (cellsP_get s V i hlt)
          have c2 : wr.cell? ⟨BV, i, none⟩ = some (U32 (V.list.getD i 0)) := (cell_row hvv i).trans (cellsS_get V i hlt)
          have f1 := frozen_row hv i
          have hset := cellsP_set s V i hlt
          obtain ⟨x, hx⟩ : ∃ x, x = s.list.getD i 0 := ⟨_, rfl⟩
          obtain ⟨y, hy⟩ : ∃ y, y = V.list.getD i 0 := ⟨_, rfl⟩
          rw [← hx] at c1 hset
          rw [← hy] at c2 hset
          have HX := Lib.hid hv; have HG := Lib.hid hg; have HSET := Lib.hid hset
          clear hv hg hset hx hy hvv
          have l0 : (i : Int) < 8 := by omega
          go_wp2_with fail
          refine wp_region_still_tail 9 (by kernel_rfl) (by kernel_rfl) ?_
          simp only [List.take_succ_cons, List.take_zero, List.drop_succ_cons, List.drop_zero]
          iterate 9 still_step
          refine wpStill_nil ?_
          change wpList _ _ _ _ _ wr.drew
          go_wp2
          go_roundw
          case rel =>
            have hA : ((wr.setCell ⟨w.heap.size, i, none⟩ (U32 (x + y))).drew).heap[w.heap.size]? = some (.cells (cellsP s V (i + 1)) 115 (0, 0)) := by
              rw [← HSET.out]
              exact heap_setCell_same _ _ _ _ _ _ HX.out
            have hB := grown_drew (grown_set HG.out i (U32 (x + y)))
            first
              | exact ⟨i + 1, by omega, by go_num, hA, hB⟩
              | ((repeat apply Exists.intro); exact ⟨⟨i + 1, by omega, by go_num, hA, hB⟩, rfl⟩)
          case measure => simp [intOf]; omega
        · obtain rfl : i = 8 := by omega
          have hi8P : (Tryd.prog.info? 115).map (·.size) = some (cellsP s V 8).size := HI8.out
          have hz8P : (cellsP s V 8).all (·.oneCell') = true := by rw [cellsP_eight]; simp [cellsS, U32_one]
          have hres : wr.heap[B2]? = some (.cells (cellsS ⟨0, 0, 0, 0, 0, 0, 0, 0⟩) 115 (0, 0)) := by have := HNE.out; have := HSZR.out; rw [hg.block B2 (by omega) (by simp; omega)]; exact HRES.out
          have HX := Lib.hid hv; have HG := Lib.hid hg; have HP8 := Lib.hid hi8P; have HZP := Lib.hid hz8P; have HR := Lib.hid hres
          clear hv hg hi8P hz8P hres
          go_wp2_with (first | ((with_reducible show wpList _ _ _ (⟨some 115, _, _, _, _, _⟩ :: _) _ _); refine wpList_load_row rfl 115 (.tmp 2) rfl w.heap.size rfl 115 (cellsP s V 8) (0, 0) _ HX.out Tryd.underlying115 rfl HP8.out ?_) | ((with_reducible show wpList _ _ _ (⟨none, .store 115 (.tmp 4) (.tmp 115), _, _, _, _⟩ :: _) _ _); refine wpList_store_row rfl 115 (.tmp 4) (.tmp 115) rfl B2 (cellsP s V 8) rfl rfl 115 _ HR.out HP8.out rfl HZP.out ?_))
          have hag : aggS (compS s b) = .agg (cellsP s V 8) := by rw [← HCOMP.out]; rfl
          rw [hag]
          have hbw : Below w.heap.size w wr := HBEL.out.grown HG.out (by have := HNE.out; have := HSZR.out; omega) (fun k hk => by simp at hk; omega)
          have hbr : Below w.heap.size wr (wr.setRow B2 (cellsP s V 8)) := ⟨rfl, rfl, rfl, by simp, fun k hk => setRow_other wr B2 k _ (by have := HNE.out; omega)⟩
          exact bodyPost_ret (v := .agg (cellsP s V 8)) (results_cell_row rfl _ _ B2 115 (cellsP s V 8) (0, 0) _ rfl (setRow_heap _ _ _ _ _ _ HR.out) Tryd.underlying115 rfl HP8.out) rfl ⟨rfl, hbw.trans hbr⟩
end Go.Proofs.YtioonimpobcglaaDoor
