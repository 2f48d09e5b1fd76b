/- The link of a record as the specification has it; WireLinks' walk. No condition but the table of constants and the reach. -/
import Derived.Test.YtfhkmmagpnojmaaDoorBd
import Derived.Test.YtfhkmmagpnojmaaDoorLnk
set_option linter.unusedSimpArgs false
set_option linter.unusedVariables false
namespace Go.Proofs.YtfhkmmagpnojmaaDoor
open Go.RowKit

set_option maxRecDepth 100000 in
set_option maxHeartbeats 8000000 in
theorem refLink_s (prev : List UInt8) (t : UInt64) (k : UInt8) (c : I64) (bv : Value) (b : List UInt8) (w0 : World) (hp : prev.length = 32) (hb : Bs w0 bv b) (hl : b.length ≤ 64) (hc0 : 0 ≤ c.v) (hc1 : c.v ≤ 65535) :
    Calls Tryd.prog 49 #[.agg (arr8 prev), .int .u64 (t.toNat : Int), by8 k, .int .i64 c.v, bv] w0 fun e w' => e = .returned (.agg (arr8 (lnkD prev t k c b))) ∧ Has w0 w' [] := by
  have S := Has.start w0
  obtain ⟨a0, c0, rfl, k1, k2⟩ := Sl.shape hb
  unfold maxLen at k2
  have ht := t.toNat_lt
  have hk := k.toNat_lt
  have ps := fun v w h1 => refSum_s v b w h1 (by omega)
  obtain ⟨D1, hD1⟩ : ∃ D, D = sumD b := ⟨_, rfl⟩
  have hD1l : D1.length = 32 := by rw [hD1]; exact sumD_length _
  have h0 : ([] : List UInt8).length + prev.length ≤ 140737488355328 := by simp; omega
  have pn1 := fun w => number_s t.toNat 8 (t.toNat : Int) 8 rfl rfl w (by omega) (by decide)
  have ln1 := numB_length t.toNat 8
  have pn2 := fun w => number_s c.v.toNat 2 c.v 2 (by omega) rfl w (by omega) (by decide)
  have ln2 := numB_length c.v.toNat 2
  have hL : lnkB prev t k c b = (((prev ++ numB t.toNat 8) ++ [k]) ++ numB c.v.toNat 2) ++ D1 := by unfold lnkB; rw [numB_one, ← hD1]
  obtain ⟨N1, hN1⟩ : ∃ D, D = numB t.toNat 8 := ⟨_, rfl⟩
  obtain ⟨N2, hN2⟩ : ∃ D, D = numB c.v.toNat 2 := ⟨_, rfl⟩
  rw [← hN1] at pn1 ln1 hL
  rw [← hN2] at pn2 ln2 hL
  have h1 : prev.length + N1.length ≤ 140737488355328 := by omega
  have h2 : (prev ++ N1).length + [k].length ≤ 140737488355328 := by simp; omega
  have h3 : ((prev ++ N1) ++ [k]).length + N2.length ≤ 140737488355328 := by simp; omega
  have h4 : (((prev ++ N1) ++ [k]) ++ N2).length + D1.length ≤ 140737488355328 := by simp; omega
  have h5 : ((((prev ++ N1) ++ [k]) ++ N2) ++ D1).length ≤ 1000000 := by simp; omega
  obtain ⟨X1, hX1⟩ : ∃ X, X = prev ++ N1 := ⟨_, rfl⟩
  rw [← hX1] at h2 h3 h4 h5 hL
  obtain ⟨X2, hX2⟩ : ∃ X, X = X1 ++ [k] := ⟨_, rfl⟩
  rw [← hX2] at h3 h4 h5 hL
  obtain ⟨X3, hX3⟩ : ∃ X, X = X2 ++ N2 := ⟨_, rfl⟩
  rw [← hX3] at h4 h5 hL
  have p4 := fun v w hx => refSum_s v (X3 ++ D1) w hx h5
  have hLD : lnkD prev t k c b = sumD (X3 ++ D1) := by unfold lnkD; rw [hL]
  obtain ⟨D2, hD2⟩ : ∃ D, D = sumD (X3 ++ D1) := ⟨_, rfl⟩
  have hD2l : D2.length = 32 := by rw [hD2]; exact sumD_length _
  rw [← hD1] at ps
  rw [← hD2] at p4 hLD
  rw [hLD]
  have HB := Lib.hid hb; have HP := Lib.hid hp; have PS := Lib.hid ps; have PN1 := Lib.hid pn1; have PN2 := Lib.hid pn2; have P4 := Lib.hid p4; have H0 := Lib.hid h0; have H1 := Lib.hid h1; have H2 := Lib.hid h2; have H3 := Lib.hid h3; have H4 := Lib.hid h4; have HD1L := Lib.hid hD1l; have HD2L := Lib.hid hD2l; have HX1 := Lib.hid hX1; have HX2 := Lib.hid hX2; have HX3 := Lib.hid hX3; clear hb hp ps pn1 pn2 p4 h0 h1 h2 h3 h4 hD1l hD2l hX1 hX2 hX3
  clear hL hLD hD1 hD2 hN1 hN2 h5 ln1 ln2
  go_enter Tryd.func49, Tryd.ntmps49
  go_wp2_with (first | (at_builtin; refine step_append8 S (.tmp 15) (.tmp 16) v15 [] rfl pk _ prev rfl (S.bs_blkN (g := g5) pk HP.out (by decide)) H0.out gw ?_; clear S; intro v17 w S; simp only [List.nil_append] at S) | (at_builtin; refine step_append8 S (.tmp 18) (.tmp 20) v17 prev rfl pk v20 N1 rfl (S.bs (v := v20) (xs := N1) pk) H1.out gw ?_; clear S; intro v21 w S; rw [← HX1.out] at S) | (at_builtin; refine step_append8 S (.tmp 22) (.tmp 24) v21 X1 rfl pk v24 [k] rfl (S.bs (v := v24) (xs := [k]) pk) H2.out gw ?_; clear S; intro v25 w S; rw [← HX2.out] at S) | (at_builtin; refine step_append8 S (.tmp 26) (.tmp 29) v25 X2 rfl pk v29 N2 rfl (S.bs (v := v29) (xs := N2) pk) H3.out gw ?_; clear S; intro v30 w S; rw [← HX3.out] at S) | (at_builtin; refine step_append8 S (.tmp 31) (.tmp 32) v30 X3 rfl pk _ D1 rfl (S.bs_blkN (g := g11) pk HD1L.out (by decide)) H4.out gw ?_; clear S; intro v33 w S) | ((with_reducible refine iD 5 (.box 22 (.tmp 0)) ?_); refine step_boxA (dst := some 5) S 22 (.tmp 0) _ rfl rfl ?_; clear S; intro g5 w S) | ((with_reducible refine iD 10 (.alloc 22) ?_); refine step_alloc (dst := some 10) S 22 (.agg (arr8 (List.replicate 32 0))) (arr8 (List.replicate 32 0)) kR rfl rfl ?_; clear S; intro g10 w S) | (go_at_call 78; (with_reducible refine (PS.out _ _ (S.oldB HB.out)).mono ?_); rintro e w1 ⟨rfl, T⟩; replace S := S.call T; clear T; (try simp only [z4, z5] at S); have _t := PS; clear PS) | (go_at_call 78; (with_reducible refine (P4.out _ _ (S.bs (xs := X3 ++ D1) pk)).mono ?_); rintro e w1 ⟨rfl, T⟩; replace S := S.call T; clear T; (try simp only [z4, z5] at S)) | ((with_reducible refine iD 11 (.alloc 22) ?_); refine step_alloc (dst := some 11) S 22 (.agg (arr8 (List.replicate 32 0))) (arr8 (List.replicate 32 0)) kR rfl rfl ?_; clear S; intro g11 w S) | ((with_reducible refine iO none (.store 22 (.tmp 11) (.tmp 14)) ?_); refine step_store S 22 (.tmp 11) (.tmp 14) _ _ rfl rfl _ _ pk 32 kR lN lN on1 rfl ?_; clear S; intro w S) | ((with_reducible refine iD 15 (.buildSlice 25 0 _) ?_); refine step_build8 S 0 _ [] (by first | rfl | kernel_rfl) rfl (by decide) rfl ?_; clear S; intro v15 w S) | (go_at_call 79; (with_reducible refine (PN1.out _).mono ?_); rintro e w1 ⟨v20, rfl, T⟩; replace S := S.call T; clear T; (try simp only [z4, z5] at S); have _t1 := PN1; clear PN1) | (go_at_call 79; (with_reducible refine (PN2.out _).mono ?_); rintro e w1 ⟨v29, rfl, T⟩; replace S := S.call T; clear T; (try simp only [z4, z5] at S)) | ((with_reducible refine iD 24 (.buildSlice 25 _ _) ?_); refine step_build81 S (.tmp 23) _ rfl rfl ?_; clear S; intro v24 w S) | ((with_reducible refine iO none (.store 22 (.tmp 10) (.tmp 34)) ?_); refine step_store S 22 (.tmp 10) (.tmp 34) _ _ rfl rfl _ _ pk 32 kR lN lN on1 rfl ?_; clear S; intro w S) | fail)
  refine ret_row rfl g10 22 _ (S.get pk) _ Tryd.underlying22 32 kR lN rfl rfl rfl ?_
  exact ⟨rfl, S.nil⟩

set_option maxRecDepth 100000 in
set_option maxHeartbeats 8000000 in
theorem linked_s (prev : List UInt8) (t : UInt64) (k : UInt8) (c : I64) (bv : Value) (b : List UInt8) (w0 : World) (hp : prev.length = 32) (hb : Bs w0 bv b) :
    Calls Tryd.prog 17 #[.agg (arr8 prev), .int .u64 (t.toNat : Int), by8 k, .int .i64 c.v, bv] w0 fun e w' => e = .returned (.tuple #[.agg (arr8 (lnkR prev t k c b)), .int .i64 (lnkE t k c b.length)]) ∧ Has w0 w' [] := by
  have S := Has.start w0
  obtain ⟨a0, c0, rfl, k1, k2⟩ := Sl.shape hb
  unfold maxLen at k2
  have pv := fun w => refValidRecord_s ⟨t, k, c, zs32, rfl⟩ w
  rw [show rcdV ⟨t, k, c, zs32, rfl⟩ = lkV t k c from rfl] at pv
  cases hv : lkV t k c
  · have hE : lnkE t k c b.length = 2 := if_pos hv
    have hR : lnkR prev t k c b = zs32 := if_neg (by rw [hE]; decide)
    rw [hE, hR]
    rw [hv] at pv
    have PV := Lib.hid pv; have HB := Lib.hid hb; have HP := Lib.hid hp; clear pv hb hp
    clear hE hR hv
    go_enter Tryd.func17, Tryd.ntmps17
    go_wp2_with (first | ((with_reducible refine iD 15 (.build 50 _) ?_); refine step_buildRc3 (.tmp 12) (.tmp 13) (.tmp 14) t k c rfl rfl rfl gw ?_) | ((with_reducible refine iD 5 (.box 22 (.tmp 0)) ?_); refine step_boxA (dst := some 5) S 22 (.tmp 0) _ rfl rfl ?_; clear S; intro g5 w S) | ((with_reducible refine iD 10 (.alloc 22) ?_); refine step_alloc (dst := some 10) S 22 (.agg (arr8 (List.replicate 32 0))) (arr8 (List.replicate 32 0)) kR rfl rfl ?_; clear S; intro g10 w S) | (go_at_call 44; (with_reducible refine (PV.out _).mono ?_); rintro e w1 ⟨rfl, T⟩; replace S := S.call T; clear T; (try simp only [z4, z5] at S)) | ((with_reducible refine iD 18 (.build 22 _) ?_); refine step_buildZ 22 (.agg (arr8 (List.replicate 32 0))) (fun w => by kernel_rfl) rfl ?_) | ((with_reducible refine iO none (.store 22 (.tmp 10) (.tmp 18)) ?_); refine step_store S 22 (.tmp 10) (.tmp 18) _ _ rfl rfl _ _ pk 32 kR lN lN on1 rfl ?_; clear S; intro w S) | ((with_reducible refine iD 22 (.build 22 _) ?_); refine step_buildZ 22 (.agg (arr8 (List.replicate 32 0))) (fun w => by kernel_rfl) rfl ?_) | ((with_reducible refine iO none (.store 22 (.tmp 10) (.tmp 22)) ?_); refine step_store S 22 (.tmp 10) (.tmp 22) _ _ rfl rfl _ _ pk 32 kR lN lN on1 rfl ?_; clear S; intro w S) | ((with_reducible refine iO _ (.load 22 _) ?_); first | (refine step_load S 22 _ _ rfl _ _ _ pk _ Tryd.underlying22 rfl 32 kR lN rfl ?_) | (refine step_loadO 22 _ _ rfl _ _ _ (S.old_heap (Hid.out (by assumption))) _ Tryd.underlying22 rfl 32 kR lN rfl ?_) | (refine step_loadR 22 _ _ _ rfl _ (S.old_range hy) _ Tryd.underlying22 rfl 32 kR lN _ rfl rfl ?_)) | ((with_reducible refine iO none (.store 22 (.tmp 10) (.tmp 28)) ?_); refine step_store S 22 (.tmp 10) (.tmp 28) _ _ rfl rfl _ _ pk 32 kR lN lN on1 rfl ?_; clear S; intro w S) | fail)
    refine ret_row_tmp rfl g10 22 _ (S.get pk) _ Tryd.underlying22 32 kR lN rfl rfl rfl ?_
    exact ⟨rfl, S.nil⟩
  rw [hv] at pv
  by_cases h64 : 64 < b.length
  · have hE : lnkE t k c b.length = 4 := by unfold lnkE; rw [hv]; exact if_pos h64
    have hR : lnkR prev t k c b = zs32 := if_neg (by rw [hE]; decide)
    rw [hE, hR]
    have i1 : 64 < (b.length : Int) := by omega
    have PV := Lib.hid pv; have HB := Lib.hid hb; have HP := Lib.hid hp; clear pv hb hp
    clear hE hR hv
    go_enter Tryd.func17, Tryd.ntmps17
    go_wp2_with (first | ((with_reducible refine iD 15 (.build 50 _) ?_); refine step_buildRc3 (.tmp 12) (.tmp 13) (.tmp 14) t k c rfl rfl rfl gw ?_) | ((with_reducible refine iD 5 (.box 22 (.tmp 0)) ?_); refine step_boxA (dst := some 5) S 22 (.tmp 0) _ rfl rfl ?_; clear S; intro g5 w S) | ((with_reducible refine iD 10 (.alloc 22) ?_); refine step_alloc (dst := some 10) S 22 (.agg (arr8 (List.replicate 32 0))) (arr8 (List.replicate 32 0)) kR rfl rfl ?_; clear S; intro g10 w S) | (go_at_call 44; (with_reducible refine (PV.out _).mono ?_); rintro e w1 ⟨rfl, T⟩; replace S := S.call T; clear T; (try simp only [z4, z5] at S)) | ((with_reducible refine iD 18 (.build 22 _) ?_); refine step_buildZ 22 (.agg (arr8 (List.replicate 32 0))) (fun w => by kernel_rfl) rfl ?_) | ((with_reducible refine iO none (.store 22 (.tmp 10) (.tmp 18)) ?_); refine step_store S 22 (.tmp 10) (.tmp 18) _ _ rfl rfl _ _ pk 32 kR lN lN on1 rfl ?_; clear S; intro w S) | ((with_reducible refine iD 22 (.build 22 _) ?_); refine step_buildZ 22 (.agg (arr8 (List.replicate 32 0))) (fun w => by kernel_rfl) rfl ?_) | ((with_reducible refine iO none (.store 22 (.tmp 10) (.tmp 22)) ?_); refine step_store S 22 (.tmp 10) (.tmp 22) _ _ rfl rfl _ _ pk 32 kR lN lN on1 rfl ?_; clear S; intro w S) | ((with_reducible refine iO _ (.load 22 _) ?_); first | (refine step_load S 22 _ _ rfl _ _ _ pk _ Tryd.underlying22 rfl 32 kR lN rfl ?_) | (refine step_loadO 22 _ _ rfl _ _ _ (S.old_heap (Hid.out (by assumption))) _ Tryd.underlying22 rfl 32 kR lN rfl ?_) | (refine step_loadR 22 _ _ _ rfl _ (S.old_range hy) _ Tryd.underlying22 rfl 32 kR lN _ rfl rfl ?_)) | ((with_reducible refine iO none (.store 22 (.tmp 10) (.tmp 28)) ?_); refine step_store S 22 (.tmp 10) (.tmp 28) _ _ rfl rfl _ _ pk 32 kR lN lN on1 rfl ?_; clear S; intro w S) | fail)
    refine ret_row_tmp rfl g10 22 _ (S.get pk) _ Tryd.underlying22 32 kR lN rfl rfl rfl ?_
    exact ⟨rfl, S.nil⟩
  have hE : lnkE t k c b.length = 0 := by unfold lnkE; rw [hv]; exact if_neg h64
  have hR : lnkR prev t k c b = lnkD prev t k c b := if_pos hE
  rw [hE, hR]
  have i1 : ¬ 64 < (b.length : Int) := by omega
  have hcv : 0 ≤ c.v ∧ c.v ≤ 65535 := by
    have : decide (t.toNat ≤ 4611686018427387904 ∧ k.toNat ≤ 6 ∧ 0 ≤ c.v ∧ c.v ≤ 65535) = true := hv
    exact (of_decide_eq_true this).2.2
  have pl := fun w h => refLink_s prev t k c (.slice a0 b.length c0) b w hp h (by omega) hcv.1 hcv.2
  obtain ⟨D, hD⟩ : ∃ D, D = lnkD prev t k c b := ⟨_, rfl⟩
  have hDl : D.length = 32 := by rw [hD]; exact sumD_length _
  rw [← hD] at pl ⊢
  have PV := Lib.hid pv; have HB := Lib.hid hb; have HP := Lib.hid hp; have PL := Lib.hid pl; have HDL := Lib.hid hDl; clear pv hb hp pl hDl
  clear hE hR hv hD hcv
  go_enter Tryd.func17, Tryd.ntmps17
  go_wp2_with (first | ((with_reducible refine iD 15 (.build 50 _) ?_); refine step_buildRc3 (.tmp 12) (.tmp 13) (.tmp 14) t k c rfl rfl rfl gw ?_) | ((with_reducible refine iD 5 (.box 22 (.tmp 0)) ?_); refine step_boxA (dst := some 5) S 22 (.tmp 0) _ rfl rfl ?_; clear S; intro g5 w S) | ((with_reducible refine iD 10 (.alloc 22) ?_); refine step_alloc (dst := some 10) S 22 (.agg (arr8 (List.replicate 32 0))) (arr8 (List.replicate 32 0)) kR rfl rfl ?_; clear S; intro g10 w S) | (go_at_call 44; (with_reducible refine (PV.out _).mono ?_); rintro e w1 ⟨rfl, T⟩; replace S := S.call T; clear T; (try simp only [z4, z5] at S)) | ((with_reducible refine iD 18 (.build 22 _) ?_); refine step_buildZ 22 (.agg (arr8 (List.replicate 32 0))) (fun w => by kernel_rfl) rfl ?_) | ((with_reducible refine iO none (.store 22 (.tmp 10) (.tmp 18)) ?_); refine step_store S 22 (.tmp 10) (.tmp 18) _ _ rfl rfl _ _ pk 32 kR lN lN on1 rfl ?_; clear S; intro w S) | ((with_reducible refine iD 22 (.build 22 _) ?_); refine step_buildZ 22 (.agg (arr8 (List.replicate 32 0))) (fun w => by kernel_rfl) rfl ?_) | ((with_reducible refine iO none (.store 22 (.tmp 10) (.tmp 22)) ?_); refine step_store S 22 (.tmp 10) (.tmp 22) _ _ rfl rfl _ _ pk 32 kR lN lN on1 rfl ?_; clear S; intro w S) | ((with_reducible refine iO _ (.load 22 _) ?_); first | (refine step_load S 22 _ _ rfl _ _ _ pk _ Tryd.underlying22 rfl 32 kR lN rfl ?_) | (refine step_loadO 22 _ _ rfl _ _ _ (S.old_heap (Hid.out (by assumption))) _ Tryd.underlying22 rfl 32 kR lN rfl ?_) | (refine step_loadR 22 _ _ _ rfl _ (S.old_range hy) _ Tryd.underlying22 rfl 32 kR lN _ rfl rfl ?_)) | (go_at_call 49; (with_reducible refine (PL.out _ (S.oldB HB.out)).mono ?_); rintro e w1 ⟨rfl, T⟩; replace S := S.call T; clear T; (try simp only [z4, z5] at S)) | ((with_reducible refine iO none (.store 22 (.tmp 10) (.tmp 28)) ?_); refine step_store S 22 (.tmp 10) (.tmp 28) _ _ rfl rfl _ _ pk 32 kR lN lN on1 rfl ?_; clear S; intro w S) | fail)
  refine ret_row_tmp rfl g10 22 _ (S.get pk) _ Tryd.underlying22 32 kR lN rfl rfl rfl ?_
  exact ⟨rfl, S.nil⟩

theorem eql32 (xs ys : List UInt8) (hx : xs.length = 32) (hy : ys.length = 32) (w' : World) : (binOp .eql 22 (.agg (arr8 xs)) (.agg (arr8 ys))).run Tryd.prog w' = .ok (.bool (decide (xs = ys))) w' := by
  have := eql_bytes (P := Tryd.prog) 22 5 32 Tryd.underlying22 Tryd.underlying5 kR xs ys hx hy w'
  exact this

theorem neq32 (xs ys : List UInt8) (hx : xs.length = 32) (hy : ys.length = 32) (w' : World) : (binOp .neq 22 (.agg (arr8 xs)) (.agg (arr8 ys))).run Tryd.prog w' = .ok (.bool (decide (xs ≠ ys))) w' := by
  have := neq_bytes (P := Tryd.prog) 22 5 32 Tryd.underlying22 Tryd.underlying5 kR xs ys hx hy w'
  simpa [arr8] using this

set_option maxRecDepth 100000 in
set_option maxHeartbeats 8000000 in
theorem wireLinks_walk (prev : List UInt8) (t : UInt64) (k : UInt8) (c : I64) (bv : Value) (b : List UInt8) (w0 : World) (hp : prev.length = 32) (hb : Bs w0 bv b) (hK : KT w0) (hl : b.length ≤ 140737488351232) :
    Calls Tryd.prog 3 #[.agg (arr8 prev), .int .u64 (t.toNat : Int), by8 k, .int .i64 c.v, bv] w0 fun e w' => e = .returned (.bool true) ∧ Has w0 w' [] := by
  have S := Has.start w0
  obtain ⟨a0, c0, rfl, k1, k2⟩ := Sl.shape hb
  unfold maxLen at k2
  have p1 := fun w h1 h2 => link_s prev t k c (.slice a0 b.length c0) b w hp h1 h2 hl
  have p2 := fun w h1 => linked_s prev t k c (.slice a0 b.length c0) b w hp h1
  obtain ⟨D, hD⟩ : ∃ D, D = lnkR prev t k c b := ⟨_, rfl⟩
  have hDl : D.length = 32 := by rw [hD]; exact lnkR_length _ _ _ _ _
  obtain ⟨E, hE⟩ : ∃ D, D = lnkE t k c b.length := ⟨_, rfl⟩
  rw [← hD, ← hE] at p1 p2
  have he := fun w' => eql32 D D hDl hDl w'
  simp only [decide_true] at he
  have eg : Tryd.prog.eqGuardType Tryd.prog.depth 22 = false := by kernel_rfl
  have HB := Lib.hid hb; have HK := Lib.hid hK; have HP := Lib.hid hp; have P1 := Lib.hid p1; have P2 := Lib.hid p2; have HDL := Lib.hid hDl; clear hb hK hp p1 p2 hDl
  clear hD hE
  go_enter Tryd.func3, Tryd.ntmps3
  go_wp2_with (first | ((with_reducible refine iD 5 (.box 22 (.tmp 0)) ?_); refine step_boxA (dst := some 5) S 22 (.tmp 0) _ rfl gw ?_; clear S; intro g5 w S) | ((with_reducible refine iO _ (.load 22 _) ?_); first | (refine step_load S 22 _ _ rfl _ _ _ pk _ Tryd.underlying22 rfl 32 kR lN gw ?_) | (refine step_loadO 22 _ _ rfl _ _ _ (S.old_heap (Hid.out (by assumption))) _ Tryd.underlying22 rfl 32 kR lN gw ?_) | (refine step_loadR 22 _ _ _ rfl _ (S.old_range hy) _ Tryd.underlying22 rfl 32 kR lN _ rfl gw ?_)) | (go_at_call 16; (with_reducible refine (P1.out _ (S.oldB HB.out) kT).mono ?_); rintro e w1 ⟨rfl, T⟩; replace S := S.call T; clear T; (try simp only [z4, z5] at S)) | ((with_reducible refine iD 11 (.alloc 22) ?_); refine step_alloc (dst := some 11) S 22 (.agg (arr8 (List.replicate 32 0))) (arr8 (List.replicate 32 0)) kR rfl gw ?_; clear S; intro g11 w S) | ((with_reducible refine iO none (.store 22 (.tmp 11) (.tmp 22)) ?_); refine step_store S 22 (.tmp 11) (.tmp 22) _ _ rfl rfl _ _ pk 32 kR lN lN on1 gw ?_; clear S; intro w S) | (go_at_call 17; (with_reducible refine (P2.out _ (S.oldB HB.out)).mono ?_); rintro e w1 ⟨rfl, T⟩; replace S := S.call T; clear T; (try simp only [z4, z5] at S)) | ((with_reducible refine iD 13 (.alloc 22) ?_); refine step_alloc (dst := some 13) S 22 (.agg (arr8 (List.replicate 32 0))) (arr8 (List.replicate 32 0)) kR rfl gw ?_; clear S; intro g13 w S) | ((with_reducible refine iO none (.store 22 (.tmp 13) (.tmp 31)) ?_); refine step_store S 22 (.tmp 13) (.tmp 31) _ _ rfl rfl _ _ pk 32 kR lN lN on1 gw ?_; clear S; intro w S) | fail)
  go_ret
  exact ⟨rfl, S.nil⟩

theorem u64N (n : Nat) (h : n < 18446744073709551616) : ((UInt64.ofNat n).toNat : Int) = (n : Int) := by rw [UInt64.toNat_ofNat']; omega
theorem u8N (n : Nat) (h : n < 256) : ((UInt8.ofNat n).toNat : Int) = (n : Int) := by rw [UInt8.toNat_ofNat']; omega

theorem wireLinks_c (prev : List UInt8) (t k : Nat) (c : Int) (bv : Value) (b : List UInt8) (w0 : World) (hp : prev.length = 32) (ht : t < 18446744073709551616) (hk : k < 256) (hc : -9223372036854775808 ≤ c ∧ c ≤ 9223372036854775807) (hb : Bs w0 bv b) (hK : KT w0) (hl : b.length ≤ 140737488351232) :
    Calls Tryd.prog 3 #[.agg (prev.map by8).toArray, .int .u64 (t : Int), .int .u8 (k : Int), .int .i64 c, bv] w0 fun e w' => e = .returned (.bool true) ∧ Has w0 w' [] := by
  have := wireLinks_walk prev (UInt64.ofNat t) (UInt8.ofNat k) ⟨c, hc⟩ bv b w0 hp hb hK hl
  unfold by8 at this ⊢
  rw [u64N t ht, u8N k hk] at this
  exact this
end Go.Proofs.YtfhkmmagpnojmaaDoor
