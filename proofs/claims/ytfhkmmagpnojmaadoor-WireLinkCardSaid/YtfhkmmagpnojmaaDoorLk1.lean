/- WireLink's walk. No condition but the table of constants and the reach. -/
import Derived.Test.YtfhkmmagpnojmaaDoorBd
import Derived.Test.YtfhkmmagpnojmaaDoorAlv7
import Derived.Test.YtfhkmmagpnojmaaDoorLnkR
set_option linter.unusedSimpArgs false
set_option linter.unusedVariables false
namespace Go.Proofs.YtfhkmmagpnojmaaDoor
open Go.RowKit

set_option maxRecDepth 100000 in
set_option maxHeartbeats 8000000 in
theorem wireLink_walk (prev : List UInt8) (t : UInt64) (k : UInt8) (c : Nat) (hc : c < 65536) (bv : Value) (b : List UInt8) (w0 : World) (hp : prev.length = 32) (hb : Bs w0 bv b) (hK : KT w0) (hl : b.length ≤ 140737488351232) :
    Calls Tryd.prog 11 #[.agg (arr8 prev), .int .u64 (t.toNat : Int), by8 k, .int .u16 (c : Int), bv] w0 fun e w' => e = .returned (.bool true) ∧ Has w0 w' [] := by
  have S := Has.start w0
  obtain ⟨a0, c0, rfl, k1, k2⟩ := Sl.shape hb
  unfold maxLen at k2
  obtain ⟨C, hC⟩ : ∃ C : I64, C.v = (c : Int) := ⟨⟨c, by omega⟩, rfl⟩
  have p1 := fun w h1 h2 => link_s prev t k C (.slice a0 b.length c0) b w hp h1 h2 hl
  have pa := fun w h => alive_s w h
  have e1 : IntKind.i64.wrap (c : Int) = c := by rw [IntKind.wrap_i64]; omega
  have e2 : IntKind.u64.wrap (c : Int) = c := by rw [IntKind.wrap_u64]; omega
  have hk := k.toNat_lt
  have e3 : IntKind.u64.wrap (k.toNat : Int) = k.toNat := by rw [IntKind.wrap_u64]; omega
  have ht := t.toNat_lt
  have hvd : lkV t k C = decide (t.toNat ≤ 4611686018427387904 ∧ k.toNat ≤ 6 ∧ 0 ≤ C.v ∧ C.v ≤ 65535) := rfl
  cases hv : lkV t k C
  · have hE : lnkE t k C b.length = 2 := if_pos hv
    have hR : lnkR prev t k C b = zs32 := if_neg (by rw [hE]; decide)
    rw [hE, hR, hC] at p1
    rw [hv] at hvd
    have hn := of_decide_eq_false hvd.symm
    by_cases h1 : t.toNat ≤ 4611686018427387904
    · have i1 : ¬ (4611686018427387904 : Int) < (t.toNat : Int) := by omega
      have i2 : (6 : Int) < (k.toNat : Int) := by
        rw [hC] at hn
        omega
      have P1 := Lib.hid p1; have PA := Lib.hid pa; have HB := Lib.hid hb; have HK := Lib.hid hK; have HP := Lib.hid hp; clear p1 pa hb hK hp
      clear hE hR hv hvd hn hC hk ht hc
      go_enter Tryd.func11, Tryd.ntmps11
      go_wp2_with (first | ((with_reducible refine iD 5 (.box 22 (.tmp 0)) ?_); refine step_boxA (dst := some 5) S 22 (.tmp 0) _ rfl gw ?_; clear S; intro g5 w S) | (go_at_call 29; (with_reducible refine (PA.out _ kT).mono ?_); rintro e w1 ⟨rfl, T⟩; replace S := S.call T; clear T; (try simp only [z4, z5] at S)) | ((with_reducible refine iO _ (.load 22 _) ?_); first | (refine step_load S 22 _ _ rfl _ _ _ pk _ Tryd.underlying22 rfl 32 kR lN gw ?_) | (refine step_loadO 22 _ _ rfl _ _ _ (S.old_heap (Hid.out (by assumption))) _ Tryd.underlying22 rfl 32 kR lN gw ?_) | (refine step_loadR 22 _ _ _ rfl _ (S.old_range hy) _ Tryd.underlying22 rfl 32 kR lN _ rfl gw ?_)) | (go_at_call 16; (with_reducible refine (P1.out _ (S.oldB HB.out) kT).mono ?_); rintro e w1 ⟨rfl, T⟩; replace S := S.call T; clear T; (try simp only [z4, z5] at S)) | ((with_reducible refine iD 12 (.alloc 22) ?_); refine step_alloc (dst := some 12) S 22 (.agg (arr8 (List.replicate 32 0))) (arr8 (List.replicate 32 0)) kR rfl gw ?_; clear S; intro g12 w S) | ((with_reducible refine iO none (.store 22 (.tmp 12) (.tmp 31)) ?_); refine step_store S 22 (.tmp 12) (.tmp 31) _ _ rfl rfl _ _ pk 32 kR lN lN on1 gw ?_; clear S; intro w S) | (go_at_call 42; (with_reducible refine (sum_s _ _ _ bS kT).mono ?_); rintro e w1 ⟨rfl, T⟩; replace S := S.call T; clear T; (try simp only [z4, z5] at S)) | ((with_reducible refine iD 14 (.alloc 22) ?_); refine step_alloc (dst := some 14) S 22 (.agg (arr8 (List.replicate 32 0))) (arr8 (List.replicate 32 0)) kR rfl gw ?_; clear S; intro g14 w S) | ((with_reducible refine iO none (.store 22 (.tmp 14) (.tmp 55)) ?_); refine step_store S 22 (.tmp 14) (.tmp 55) _ _ rfl rfl _ _ pk 32 kR lN lN on1 gw ?_; clear S; intro w S) | (go_at_call 43; (with_reducible refine (putUint_s _ _ _ _ _ rfl _ bS lE lE lE).mono ?_); rintro e w1 ⟨v, rfl, T⟩; replace S := S.call T; clear T; (try simp only [z4, z5] at S)) | (at_builtin; refine step_append8 S (.tmp 78) (.tmp 79) _ _ rfl pk _ _ rfl bS lE gw ?_; clear S; intro v80 w S; (try simp only [z4] at S)) | ((with_reducible refine iD 20 (.alloc 22) ?_); refine step_alloc (dst := some 20) S 22 (.agg (arr8 (List.replicate 32 0))) (arr8 (List.replicate 32 0)) kR rfl gw ?_; clear S; intro g20 w S) | ((with_reducible refine iO none (.store 22 (.tmp 20) (.tmp 82)) ?_); refine step_store S 22 (.tmp 20) (.tmp 82) _ _ rfl rfl _ _ pk 32 kR lN lN on1 gw ?_; clear S; intro w S) | fail)
      go_ret
      exact ⟨rfl, S.nil⟩
    · have i1 : (4611686018427387904 : Int) < (t.toNat : Int) := by omega
      have P1 := Lib.hid p1; have PA := Lib.hid pa; have HB := Lib.hid hb; have HK := Lib.hid hK; have HP := Lib.hid hp; clear p1 pa hb hK hp
      clear hE hR hv hvd hn hC hk ht hc
      go_enter Tryd.func11, Tryd.ntmps11
      go_wp2_with (first | ((with_reducible refine iD 5 (.box 22 (.tmp 0)) ?_); refine step_boxA (dst := some 5) S 22 (.tmp 0) _ rfl gw ?_; clear S; intro g5 w S) | (go_at_call 29; (with_reducible refine (PA.out _ kT).mono ?_); rintro e w1 ⟨rfl, T⟩; replace S := S.call T; clear T; (try simp only [z4, z5] at S)) | ((with_reducible refine iO _ (.load 22 _) ?_); first | (refine step_load S 22 _ _ rfl _ _ _ pk _ Tryd.underlying22 rfl 32 kR lN gw ?_) | (refine step_loadO 22 _ _ rfl _ _ _ (S.old_heap (Hid.out (by assumption))) _ Tryd.underlying22 rfl 32 kR lN gw ?_) | (refine step_loadR 22 _ _ _ rfl _ (S.old_range hy) _ Tryd.underlying22 rfl 32 kR lN _ rfl gw ?_)) | (go_at_call 16; (with_reducible refine (P1.out _ (S.oldB HB.out) kT).mono ?_); rintro e w1 ⟨rfl, T⟩; replace S := S.call T; clear T; (try simp only [z4, z5] at S)) | ((with_reducible refine iD 12 (.alloc 22) ?_); refine step_alloc (dst := some 12) S 22 (.agg (arr8 (List.replicate 32 0))) (arr8 (List.replicate 32 0)) kR rfl gw ?_; clear S; intro g12 w S) | ((with_reducible refine iO none (.store 22 (.tmp 12) (.tmp 31)) ?_); refine step_store S 22 (.tmp 12) (.tmp 31) _ _ rfl rfl _ _ pk 32 kR lN lN on1 gw ?_; clear S; intro w S) | (go_at_call 42; (with_reducible refine (sum_s _ _ _ bS kT).mono ?_); rintro e w1 ⟨rfl, T⟩; replace S := S.call T; clear T; (try simp only [z4, z5] at S)) | ((with_reducible refine iD 14 (.alloc 22) ?_); refine step_alloc (dst := some 14) S 22 (.agg (arr8 (List.replicate 32 0))) (arr8 (List.replicate 32 0)) kR rfl gw ?_; clear S; intro g14 w S) | ((with_reducible refine iO none (.store 22 (.tmp 14) (.tmp 55)) ?_); refine step_store S 22 (.tmp 14) (.tmp 55) _ _ rfl rfl _ _ pk 32 kR lN lN on1 gw ?_; clear S; intro w S) | (go_at_call 43; (with_reducible refine (putUint_s _ _ _ _ _ rfl _ bS lE lE lE).mono ?_); rintro e w1 ⟨v, rfl, T⟩; replace S := S.call T; clear T; (try simp only [z4, z5] at S)) | (at_builtin; refine step_append8 S (.tmp 78) (.tmp 79) _ _ rfl pk _ _ rfl bS lE gw ?_; clear S; intro v80 w S; (try simp only [z4] at S)) | ((with_reducible refine iD 20 (.alloc 22) ?_); refine step_alloc (dst := some 20) S 22 (.agg (arr8 (List.replicate 32 0))) (arr8 (List.replicate 32 0)) kR rfl gw ?_; clear S; intro g20 w S) | ((with_reducible refine iO none (.store 22 (.tmp 20) (.tmp 82)) ?_); refine step_store S 22 (.tmp 20) (.tmp 82) _ _ rfl rfl _ _ pk 32 kR lN lN on1 gw ?_; clear S; intro w S) | fail)
      go_ret
      exact ⟨rfl, S.nil⟩
  rw [hv] at hvd
  obtain ⟨ht1, hk1, _⟩ := of_decide_eq_true hvd.symm
  have i1 : ¬ (4611686018427387904 : Int) < (t.toNat : Int) := by omega
  have i2 : ¬ (6 : Int) < (k.toNat : Int) := by omega
  by_cases h64 : 64 < b.length
  · have hE : lnkE t k C b.length = 4 := by unfold lnkE; rw [hv]; exact if_pos h64
    have hR : lnkR prev t k C b = zs32 := if_neg (by rw [hE]; decide)
    rw [hE, hR, hC] at p1
    have i3 : 64 < (b.length : Int) := by omega
    have P1 := Lib.hid p1; have PA := Lib.hid pa; have HB := Lib.hid hb; have HK := Lib.hid hK; have HP := Lib.hid hp; clear p1 pa hb hK hp
    clear hE hR hv hvd hC hk ht hc ht1 hk1
    go_enter Tryd.func11, Tryd.ntmps11
    go_wp2_with (first | ((with_reducible refine iD 5 (.box 22 (.tmp 0)) ?_); refine step_boxA (dst := some 5) S 22 (.tmp 0) _ rfl gw ?_; clear S; intro g5 w S) | (go_at_call 29; (with_reducible refine (PA.out _ kT).mono ?_); rintro e w1 ⟨rfl, T⟩; replace S := S.call T; clear T; (try simp only [z4, z5] at S)) | ((with_reducible refine iO _ (.load 22 _) ?_); first | (refine step_load S 22 _ _ rfl _ _ _ pk _ Tryd.underlying22 rfl 32 kR lN gw ?_) | (refine step_loadO 22 _ _ rfl _ _ _ (S.old_heap (Hid.out (by assumption))) _ Tryd.underlying22 rfl 32 kR lN gw ?_) | (refine step_loadR 22 _ _ _ rfl _ (S.old_range hy) _ Tryd.underlying22 rfl 32 kR lN _ rfl gw ?_)) | (go_at_call 16; (with_reducible refine (P1.out _ (S.oldB HB.out) kT).mono ?_); rintro e w1 ⟨rfl, T⟩; replace S := S.call T; clear T; (try simp only [z4, z5] at S)) | ((with_reducible refine iD 12 (.alloc 22) ?_); refine step_alloc (dst := some 12) S 22 (.agg (arr8 (List.replicate 32 0))) (arr8 (List.replicate 32 0)) kR rfl gw ?_; clear S; intro g12 w S) | ((with_reducible refine iO none (.store 22 (.tmp 12) (.tmp 31)) ?_); refine step_store S 22 (.tmp 12) (.tmp 31) _ _ rfl rfl _ _ pk 32 kR lN lN on1 gw ?_; clear S; intro w S) | (go_at_call 42; (with_reducible refine (sum_s _ _ _ bS kT).mono ?_); rintro e w1 ⟨rfl, T⟩; replace S := S.call T; clear T; (try simp only [z4, z5] at S)) | ((with_reducible refine iD 14 (.alloc 22) ?_); refine step_alloc (dst := some 14) S 22 (.agg (arr8 (List.replicate 32 0))) (arr8 (List.replicate 32 0)) kR rfl gw ?_; clear S; intro g14 w S) | ((with_reducible refine iO none (.store 22 (.tmp 14) (.tmp 55)) ?_); refine step_store S 22 (.tmp 14) (.tmp 55) _ _ rfl rfl _ _ pk 32 kR lN lN on1 gw ?_; clear S; intro w S) | (go_at_call 43; (with_reducible refine (putUint_s _ _ _ _ _ rfl _ bS lE lE lE).mono ?_); rintro e w1 ⟨v, rfl, T⟩; replace S := S.call T; clear T; (try simp only [z4, z5] at S)) | (at_builtin; refine step_append8 S (.tmp 78) (.tmp 79) _ _ rfl pk _ _ rfl bS lE gw ?_; clear S; intro v80 w S; (try simp only [z4] at S)) | ((with_reducible refine iD 20 (.alloc 22) ?_); refine step_alloc (dst := some 20) S 22 (.agg (arr8 (List.replicate 32 0))) (arr8 (List.replicate 32 0)) kR rfl gw ?_; clear S; intro g20 w S) | ((with_reducible refine iO none (.store 22 (.tmp 20) (.tmp 82)) ?_); refine step_store S 22 (.tmp 20) (.tmp 82) _ _ rfl rfl _ _ pk 32 kR lN lN on1 gw ?_; clear S; intro w S) | fail)
    go_ret
    exact ⟨rfl, S.nil⟩
  have hE : lnkE t k C b.length = 0 := by unfold lnkE; rw [hv]; exact if_neg h64
  have hR : lnkR prev t k C b = lnkD prev t k C b := if_pos hE
  rw [hE, hR, hC] at p1
  have i3 : ¬ 64 < (b.length : Int) := by omega
  have ps := fun v w h1 h2 => sum_go v b w (by omega) h1 h2
  obtain ⟨D1, hD1⟩ : ∃ D, D = sumD b := ⟨_, rfl⟩
  have hD1l : D1.length = 32 := by rw [hD1]; exact sumD_length _
  have q1 := fun v w h => put_go v prev t.toNat 8 (t.toNat : Int) 8 rfl rfl w h (by decide) (by decide) (Nat.lt_of_lt_of_eq ht (by decide)) (by omega)
  have l1 : (prev ++ numB t.toNat 8).length = 40 := by simp [numB_length, hp]
  obtain ⟨X1, hX1⟩ : ∃ X, X = prev ++ numB t.toNat 8 := ⟨_, rfl⟩
  rw [← hX1] at q1 l1
  have q2 := fun v w h => put_go v X1 k.toNat 1 (k.toNat : Int) 1 rfl rfl w h (by decide) (by decide) (Nat.lt_of_lt_of_eq hk (by decide)) (by omega)
  have l2 : (X1 ++ numB k.toNat 1).length = 41 := by simp [numB_length, l1]
  obtain ⟨X2, hX2⟩ : ∃ X, X = X1 ++ numB k.toNat 1 := ⟨_, rfl⟩
  rw [← hX2] at q2 l2
  have q3 := fun v w h => put_go v X2 c 2 (c : Int) 2 rfl rfl w h (by decide) (by decide) (Nat.lt_of_lt_of_eq hc (by decide)) (by omega)
  have l3 : (X2 ++ numB c 2).length = 43 := by simp [numB_length, l2]
  obtain ⟨X3, hX3⟩ : ∃ X, X = X2 ++ numB c 2 := ⟨_, rfl⟩
  rw [← hX3] at q3 l3
  have hL : lnkB prev t k C b = X3 ++ D1 := by unfold lnkB; rw [hC, Int.toNat_natCast, ← hX1, ← hX2, ← hX3, ← hD1]
  have h4 : X3.length + D1.length ≤ 140737488355328 := by omega
  have q4 := fun v w h1 h2 => sum_go v (X3 ++ D1) w (by rw [List.length_append]; omega) h1 h2
  obtain ⟨D2, hD2⟩ : ∃ D, D = sumD (X3 ++ D1) := ⟨_, rfl⟩
  have hLD : lnkD prev t k C b = D2 := by unfold lnkD; rw [hL, hD2]
  have hD2l : D2.length = 32 := by rw [hD2]; exact sumD_length _
  rw [← hD1] at ps
  rw [← hD2] at q4
  rw [hLD] at p1
  have he := fun w' => eql32 D2 D2 hD2l hD2l w'
  simp only [decide_true] at he
  have eg : Tryd.prog.eqGuardType Tryd.prog.depth 22 = false := by kernel_rfl
  have P1 := Lib.hid p1; have PA := Lib.hid pa; have HB := Lib.hid hb; have HK := Lib.hid hK; have HP := Lib.hid hp; have PS := Lib.hid ps; have Q1 := Lib.hid q1; have Q2 := Lib.hid q2; have Q3 := Lib.hid q3; have Q4 := Lib.hid q4; have H4 := Lib.hid h4; have HD1L := Lib.hid hD1l; have HD2L := Lib.hid hD2l; clear p1 pa hb hK hp ps q1 q2 q3 q4 h4 hD1l hD2l
  clear hE hR hv hvd hC hk ht hc ht1 hk1 hX1 hX2 hX3 hL hLD hD1 hD2 l1 l2 l3 h64
  go_enter Tryd.func11, Tryd.ntmps11
  go_wp2_with (first | (at_builtin; refine step_append8 S (.tmp 78) (.tmp 79) x3 X3 rfl pk _ D1 rfl (S.bs_blkN (g := g14) pk HD1L.out (by decide)) H4.out gw ?_; clear S; intro v80 w S) | ((with_reducible refine iD 5 (.box 22 (.tmp 0)) ?_); refine step_boxA (dst := some 5) S 22 (.tmp 0) _ rfl gw ?_; clear S; intro g5 w S) | (go_at_call 29; (with_reducible refine (PA.out _ kT).mono ?_); rintro e w1 ⟨rfl, T⟩; replace S := S.call T; clear T; (try simp only [z4, z5] at S)) | ((with_reducible refine iO _ (.load 22 _) ?_); first | (refine step_load S 22 _ _ rfl _ _ _ pk _ Tryd.underlying22 rfl 32 kR lN gw ?_) | (refine step_loadO 22 _ _ rfl _ _ _ (S.old_heap (Hid.out (by assumption))) _ Tryd.underlying22 rfl 32 kR lN gw ?_) | (refine step_loadR 22 _ _ _ rfl _ (S.old_range hy) _ Tryd.underlying22 rfl 32 kR lN _ rfl gw ?_)) | (go_at_call 16; (with_reducible refine (P1.out _ (S.oldB HB.out) kT).mono ?_); rintro e w1 ⟨rfl, T⟩; replace S := S.call T; clear T; (try simp only [z4, z5] at S)) | ((with_reducible refine iD 12 (.alloc 22) ?_); refine step_alloc (dst := some 12) S 22 (.agg (arr8 (List.replicate 32 0))) (arr8 (List.replicate 32 0)) kR rfl gw ?_; clear S; intro g12 w S) | ((with_reducible refine iO none (.store 22 (.tmp 12) (.tmp 31)) ?_); refine step_store S 22 (.tmp 12) (.tmp 31) _ _ rfl rfl _ _ pk 32 kR lN lN on1 gw ?_; clear S; intro w S) | (go_at_call 42; (with_reducible refine (PS.out _ _ (S.oldB HB.out) kT).mono ?_); rintro e w1 ⟨rfl, T⟩; replace S := S.call T; clear T; (try simp only [z4, z5] at S); have _t := PS; clear PS) | (go_at_call 42; (with_reducible refine (Q4.out _ _ (S.bs (v := v80) (xs := X3 ++ D1) pk) kT).mono ?_); rintro e w1 ⟨rfl, T⟩; replace S := S.call T; clear T; (try simp only [z4, z5] at S)) | ((with_reducible refine iD 14 (.alloc 22) ?_); refine step_alloc (dst := some 14) S 22 (.agg (arr8 (List.replicate 32 0))) (arr8 (List.replicate 32 0)) kR rfl gw ?_; clear S; intro g14 w S) | ((with_reducible refine iO none (.store 22 (.tmp 14) (.tmp 55)) ?_); refine step_store S 22 (.tmp 14) (.tmp 55) _ _ rfl rfl _ _ pk 32 kR lN lN on1 gw ?_; clear S; intro w S) | (go_at_call 43; (with_reducible refine (Q1.out _ _ (S.bs_blkN (g := g5) pk HP.out (by decide))).mono ?_); rintro e w1 ⟨x1, rfl, T⟩; replace S := S.call T; clear T; (try simp only [z4, z5] at S); have _t1 := Q1; clear Q1) | (go_at_call 43; (with_reducible refine (Q2.out _ _ (S.bs (v := x1) pk)).mono ?_); rintro e w1 ⟨x2, rfl, T⟩; replace S := S.call T; clear T; (try simp only [z4, z5] at S); have _t2 := Q2; clear Q2) | (go_at_call 43; (with_reducible refine (Q3.out _ _ (S.bs (v := x2) pk)).mono ?_); rintro e w1 ⟨x3, rfl, T⟩; replace S := S.call T; clear T; (try simp only [z4, z5] at S)) | ((with_reducible refine iD 20 (.alloc 22) ?_); refine step_alloc (dst := some 20) S 22 (.agg (arr8 (List.replicate 32 0))) (arr8 (List.replicate 32 0)) kR rfl gw ?_; clear S; intro g20 w S) | ((with_reducible refine iO none (.store 22 (.tmp 20) (.tmp 82)) ?_); refine step_store S 22 (.tmp 20) (.tmp 82) _ _ rfl rfl _ _ pk 32 kR lN lN on1 gw ?_; clear S; intro w S) | fail)
  go_ret
  exact ⟨rfl, S.nil⟩

theorem wireLink_c (prev : List UInt8) (t k c : Nat) (bv : Value) (b : List UInt8) (w0 : World) (hp : prev.length = 32) (ht : t < 18446744073709551616) (hk : k < 256) (hc : c < 65536) (hb : Bs w0 bv b) (hK : KT w0) (hl : b.length ≤ 140737488351232) :
    Calls Tryd.prog 11 #[.agg (prev.map by8).toArray, .int .u64 (t : Int), .int .u8 (k : Int), .int .u16 (c : Int), bv] w0 fun e w' => e = .returned (.bool true) ∧ Has w0 w' [] := by
  have := wireLink_walk prev (UInt64.ofNat t) (UInt8.ofNat k) c hc bv b w0 hp hb hK hl
  unfold by8 at this ⊢
  rw [u64N t ht, u8N k hk] at this
  exact this
end Go.Proofs.YtfhkmmagpnojmaaDoor
