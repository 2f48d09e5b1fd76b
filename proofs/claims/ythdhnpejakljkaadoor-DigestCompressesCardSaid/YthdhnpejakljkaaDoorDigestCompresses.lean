/- DigestCompresses holds for every input: the program's compression of a block returns what the specification's does, and so does the hash of no bytes. No condition but what the program lays in its table of constants. -/
import Derived.Test.YthdhnpejakljkaaDoorStart
import Derived.Deep.MidRow
namespace Go.Proofs.YthdhnpejakljkaaDoor
open Go.RowKit

/-- Eight words lie in a block's first cells. -/
def At8 (w : World) (g : Nat) (s : St) : Prop :=
  w.cell? ⟨g, 0, none⟩ = some (U32 s.a) ∧ w.cell? ⟨g, 1, none⟩ = some (U32 s.b) ∧ w.cell? ⟨g, 2, none⟩ = some (U32 s.c) ∧ w.cell? ⟨g, 3, none⟩ = some (U32 s.d) ∧
  w.cell? ⟨g, 4, none⟩ = some (U32 s.e) ∧ w.cell? ⟨g, 5, none⟩ = some (U32 s.f) ∧ w.cell? ⟨g, 6, none⟩ = some (U32 s.g) ∧ w.cell? ⟨g, 7, none⟩ = some (U32 s.h)

theorem At8.later {w w1 : World} {g : Nat} {s : St} (h : At8 w g s) (hb : Below w.heap.size w w1) (hg : g < w.heap.size) : At8 w1 g s := by
  obtain ⟨h0, h1, h2, h3, h4, h5, h6, h7⟩ := h
  exact ⟨(hb.cell (by exact hg)).trans h0, (hb.cell (by exact hg)).trans h1, (hb.cell (by exact hg)).trans h2, (hb.cell (by exact hg)).trans h3, (hb.cell (by exact hg)).trans h4, (hb.cell (by exact hg)).trans h5, (hb.cell (by exact hg)).trans h6, (hb.cell (by exact hg)).trans h7⟩

theorem rangeAt_later {w w1 : World} {g o : Nat} {cs : List Value} (h : w.rangeAt g o cs) (hb : Below w.heap.size w w1) (hg : g < w.heap.size) : w1.rangeAt g o cs :=
  fun j v hj => (hb.cell (by exact hg)).trans (h j v hj)

theorem keepS {w1 w2 : World} {g : Nat} {s : St} {C : List Value} (h : At8 w1 g s ∧ w1.rangeAt (g + 1) 0 C ∧ g + 2 ≤ w1.heap.size) (hb : Below w1.heap.size w1 w2) : At8 w2 g s ∧ w2.rangeAt (g + 1) 0 C ∧ g + 2 ≤ w2.heap.size :=
  ⟨At8.later h.1 hb (by omega), rangeAt_later h.2.1 hb (by omega), Nat.le_trans h.2.2 hb.size⟩

set_option maxRecDepth 20000 in
set_option maxHeartbeats 1000000 in
theorem digestCompresses_walk (s : St) (b : List UInt8) (w : World) (hb : b.length = 64) (hK : KT w) :
    Calls Tryd.prog 3 #[.agg #[U32 s.a, U32 s.b, U32 s.c, U32 s.d, U32 s.e, U32 s.f, U32 s.g, U32 s.h], .agg (b.map by8).toArray] w fun e w' => e = .returned (.bool true) ∧ Below w.heap.size w w' := by
  have hcp := fun w1 (h : KT w1) => compressK s b w1 hb h
  have hrc := fun w1 => refCompress_any s b w1 hb
  have hi64 : (Tryd.prog.info? 24).map (·.size) = some (b.map by8).length := by
    have h : (Tryd.prog.info? 24).map (·.size) = some 64 := by kernel_rfl
    rw [h]; simp [hb]
  obtain ⟨C, hC⟩ : ∃ C, C = b.map by8 := ⟨_, rfl⟩
  rw [← hC] at hcp hrc hi64 ⊢
  obtain ⟨W2, hW2⟩ : ∃ W2, W2 = (w.alloc (.cells #[U32 s.a, U32 s.b, U32 s.c, U32 s.d, U32 s.e, U32 s.f, U32 s.g, U32 s.h] 23)).alloc (.cells C.toArray 24) := ⟨_, rfl⟩
  have hb2 : Below w.heap.size w W2 := by rw [hW2]; exact below2 _ _ _
  have hs2 : W2.heap.size = w.heap.size + 2 := by rw [hW2]; simp
  have hA : At8 W2.drew w.heap.size s := by
    have h : W2.heap[w.heap.size]? = some (.cells (cellsS s) 23 (0, 0)) := by rw [hW2]; exact heap_later (below1 _ _) (by simp) (heap_new _ _ _)
    exact cells_of (v := s) (w := W2.drew) h
  have hR : W2.drew.rangeAt (w.heap.size + 1) 0 C := by
    have h : W2.heap[w.heap.size + 1]? = some (.cells C.toArray 24 (0, 0)) := by
      rw [hW2]
      have := heap_new (w.alloc (.cells #[U32 s.a, U32 s.b, U32 s.c, U32 s.d, U32 s.e, U32 s.f, U32 s.g, U32 s.h] 23)) C.toArray 24
      simpa using this
    intro j v hj
    rw [Nat.zero_add]
    exact (cell_row (w := W2.drew) h j).trans (by simpa using hj)
  have hK2 : KT W2.drew := hK.later (B := w.heap.size) ⟨hb2.os, hb2.tape, hb2.output, hb2.size, hb2.block⟩ (Nat.le_refl _)
  have eg : Tryd.prog.eqGuardType Tryd.prog.depth 23 = false := by kernel_rfl
  have u64 := Tryd.underlying24
  obtain ⟨r, hr⟩ : ∃ r, r = compS s b := ⟨_, rfl⟩
  rw [← hr] at hcp hrc
  have he : ∀ w', (binOp .eql 23 (.agg #[U32 r.a, U32 r.b, U32 r.c, U32 r.d, U32 r.e, U32 r.f, U32 r.g, U32 r.h]) (.agg #[U32 r.a, U32 r.b, U32 r.c, U32 r.d, U32 r.e, U32 r.f, U32 r.g, U32 r.h])).run Tryd.prog w' = .ok (.bool true) w' := fun w' => by
    have := eql_words (P := Tryd.prog) 23 22 8 Tryd.underlying23 Tryd.underlying22 (by kernel_rfl) r.list r.list rfl rfl w'
    rwa [decide_eq_true rfl] at this
  have hb0 : Below w.heap.size w W2.drew := ⟨hb2.os, hb2.tape, hb2.output, hb2.size, hb2.block⟩
  have HCP := Lib.hid hcp; have HRC := Lib.hid hrc; have HB0 := Lib.hid hb0; have HS2 := Lib.hid hs2; have HA := Lib.hid hA; have HR := Lib.hid hR; have HK2 := Lib.hid hK2; have HW2 := Lib.hid hW2; have HI64 := Lib.hid hi64; clear hcp hrc hb0 hs2 hA hR hK2 hW2 hi64
  clear hC hr hb hK hb2
  go_enter Tryd.func3, Tryd.ntmps3
  go_wp2_with fail
  rw [← HW2.out]
  refine wp_region_noPanic ?_
  refine wp_region_held_drew (S := fun w' => (w'.cell? ⟨w.heap.size, 0, none⟩ = some (U32 s.a) ∧ w'.cell? ⟨w.heap.size, 1, none⟩ = some (U32 s.b) ∧ w'.cell? ⟨w.heap.size, 2, none⟩ = some (U32 s.c) ∧ w'.cell? ⟨w.heap.size, 3, none⟩ = some (U32 s.d) ∧ w'.cell? ⟨w.heap.size, 4, none⟩ = some (U32 s.e) ∧ w'.cell? ⟨w.heap.size, 5, none⟩ = some (U32 s.f) ∧ w'.cell? ⟨w.heap.size, 6, none⟩ = some (U32 s.g) ∧ w'.cell? ⟨w.heap.size, 7, none⟩ = some (U32 s.h)) ∧ w'.rangeAt (w.heap.size + 1) 0 C ∧ w.heap.size + 2 ≤ w'.heap.size) (by kernel_rfl) (⟨HA.out, HR.out, Nat.le_of_eq HS2.out.symm⟩) (fun hHeld => ?_)
  refine wpAnyH_take (i := 0) (v := ?v1) rfl (by kernel_rfl) (by kernel_rfl) (by kernel_rfl) (fun _ _ _ h => h) (Or.inl ⟨by rfl, ?y1⟩) (by assumption) ?_
  case y1 => (intro w hSw; (try dsimp only at hSw); go_simp; try (with_reducible rfl))
  try simp only [Act.put, List.setIfInBounds_toArray, List.set_cons_zero, List.set_cons_succ]
  refine wpAnyH_take (i := 1) rfl (by kernel_rfl) (by kernel_rfl) (by kernel_rfl) (fun _ _ _ h => h) (yieldsIf_load_mid (by rfl) _ _ rfl _ _ rfl _ _ (fun w hSw => hSw.2.1) Tryd.underlying24 rfl HI64.out) (by assumption) ?_
  try simp only [Act.put, List.setIfInBounds_toArray, List.set_cons_zero, List.set_cons_succ]
  refine wpAnyH_take (i := 3) (v := ?v2) rfl (by kernel_rfl) (by kernel_rfl) (by kernel_rfl) (fun _ _ _ h => h) (Or.inl ⟨by rfl, ?y2⟩) (by assumption) ?_
  case y2 => (intro w hSw; (try dsimp only at hSw); go_simp; try (with_reducible rfl))
  try simp only [Act.put, List.setIfInBounds_toArray, List.set_cons_zero, List.set_cons_succ]
  refine wpAnyH_take (i := 4) rfl (by kernel_rfl) (by kernel_rfl) (by kernel_rfl) (fun _ _ _ h => h) (yieldsIf_load_mid (by rfl) _ _ rfl _ _ rfl _ _ (fun w hSw => hSw.2.1) Tryd.underlying24 rfl HI64.out) (by assumption) ?_
  try simp only [Act.put, List.setIfInBounds_toArray, List.set_cons_zero, List.set_cons_succ]
  refine wpAnyH_ready (rs := [2]) (by kernel_rfl) (by simp) ?_
  refine AllReadyH.cons rfl (fun K hK => ?_) AllReadyH.nil
  go_simp
  go_at_call 14
  (with_reducible refine (HCP.out _ HK2.out).mono ?_)
  rintro e w1 ⟨rfl, hb1⟩
  have HB1 := Lib.hid hb1; clear hb1
  unfold aggS
  refine hK.out _ _ (keepS hHeld HB1.out) (fun hHeld => ?_)
  clear hK K
  try simp only [Act.put, List.setIfInBounds_toArray, List.set_cons_zero, List.set_cons_succ]
  refine wpAnyH_ready (rs := [5]) (by kernel_rfl) (by simp) ?_
  refine AllReadyH.cons rfl (fun K hK => ?_) AllReadyH.nil
  go_simp
  go_at_call 15
  (with_reducible refine (HRC.out _).mono ?_)
  rintro e w2 ⟨rfl, hb2⟩
  have HB2 := Lib.hid hb2; clear hb2
  unfold aggS
  refine hK.out _ _ (keepS hHeld HB2.out) (fun hHeld => ?_)
  clear hK K
  try simp only [Act.put, List.setIfInBounds_toArray, List.set_cons_zero, List.set_cons_succ]
  refine wpAnyH_take (i := 6) (v := ?v3) rfl (by kernel_rfl) (by kernel_rfl) (by kernel_rfl) (fun _ _ _ h => h) (Or.inl ⟨by rfl, ?y3⟩) (by assumption) ?_
  case y3 => (intro w hSw; (try dsimp only at hSw); go_simp; try (with_reducible rfl))
  try simp only [Act.put, List.setIfInBounds_toArray, List.set_cons_zero, List.set_cons_succ]
  refine wpAnyH_take (i := 7) (v := ?v4) rfl (by kernel_rfl) (by kernel_rfl) (by kernel_rfl) (fun _ _ _ h => h) (Or.inl ⟨by rfl, ?y4⟩) (by assumption) ?_
  case y4 => (intro w hSw; (try dsimp only at hSw); go_simp; try (with_reducible rfl))
  try simp only [Act.put, List.setIfInBounds_toArray, List.set_cons_zero, List.set_cons_succ]
  refine wpAnyH_ready (rs := [8]) (by kernel_rfl) (by simp) ?_
  refine AllReadyH.cons rfl (fun K hK => ?_) AllReadyH.nil
  go_simp
  go_at_call 17
  (with_reducible refine (start_any _).mono ?_)
  rintro e w3 ⟨rfl, hb3⟩
  have HB3 := Lib.hid hb3; clear hb3
  refine hK.out _ _ (keepS hHeld HB3.out) (fun hHeld => ?_)
  clear hK K
  try simp only [Act.put, List.setIfInBounds_toArray, List.set_cons_zero, List.set_cons_succ]
  refine wpAnyH_ready (rs := [9]) (by kernel_rfl) (by simp) ?_
  refine AllReadyH.cons rfl (fun K hK => ?_) AllReadyH.nil
  go_simp
  go_at_call 18
  (with_reducible refine (refStart_any _).mono ?_)
  rintro e w4 ⟨rfl, hb4⟩
  have HB4 := Lib.hid hb4; clear hb4
  refine hK.out _ _ (keepS hHeld HB4.out) (fun hHeld => ?_)
  clear hK K
  try simp only [Act.put, List.setIfInBounds_toArray, List.set_cons_zero, List.set_cons_succ]
  refine wpAnyH_ready (rs := [10]) (by kernel_rfl) (by simp) ?_
  refine AllReadyH.cons rfl (fun K hK => ?_) AllReadyH.nil
  go_simp
  go_at_call 16
  (with_reducible refine (sameHash_any startS _ _ [] 0 _ (Bs.mk0 _ _) (Bs.mk0 _ _)).mono ?_)
  rintro e w5 ⟨rfl, hb5⟩
  have HB5 := Lib.hid hb5; clear hb5
  refine hK.out _ _ (keepS hHeld HB5.out) (fun hHeld => ?_)
  clear hK K
  try simp only [Act.put, List.setIfInBounds_toArray, List.set_cons_zero, List.set_cons_succ]
  refine wpAnyH_take (i := 11) (oi := ⟨some 16, _, _, _, _, _⟩) (v := ?v5) rfl (by kernel_rfl) (by kernel_rfl) (by kernel_rfl) (fun _ _ _ h => h) (Or.inl ⟨by rfl, ?y5⟩) (by assumption) ?_
  case y5 => (intro w hSw; (try dsimp only at hSw); go_simp; try (with_reducible rfl))
  try simp only [Act.put, List.setIfInBounds_toArray, List.set_cons_zero, List.set_cons_succ]
  refine wpAnyH_take (i := 12) (oi := ⟨some 4, _, _, _, _, _⟩) (v := ?v6) rfl (by kernel_rfl) (by kernel_rfl) (by kernel_rfl) (fun _ _ _ h => h) (Or.inl ⟨by rfl, ?y6⟩) (by assumption) ?_
  case y6 => (intro w hSw; (try dsimp only at hSw); go_simp; try (with_reducible rfl))
  try simp only [Act.put, List.setIfInBounds_toArray, List.set_cons_zero, List.set_cons_succ]
  refine wpAnyH_done (by kernel_rfl) ?_ _
  refine NoPanic.normal ?_
  go_wp2
  go_ret
  exact ⟨rfl, (((((HB0.out.trans (HB1.out.mono HB0.out.size)).trans (HB2.out.mono (by have := HB0.out.size; have := HB1.out.size; omega))).trans (HB3.out.mono (by have := HB0.out.size; have := HB1.out.size; have := HB2.out.size; omega))).trans (HB4.out.mono (by have := HB0.out.size; have := HB1.out.size; have := HB2.out.size; have := HB3.out.size; omega))).trans (HB5.out.mono (by have := HB0.out.size; have := HB1.out.size; have := HB2.out.size; have := HB3.out.size; have := HB4.out.size; omega)))⟩
end Go.Proofs.YthdhnpejakljkaaDoor
