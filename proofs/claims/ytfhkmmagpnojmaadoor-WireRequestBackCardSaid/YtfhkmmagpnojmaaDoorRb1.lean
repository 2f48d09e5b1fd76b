/- WireRequestBack: plain laws and the walk. No condition but the table of constants and the reach. -/
import Derived.Test.YtfhkmmagpnojmaaDoorBd
import Derived.Test.YtfhkmmagpnojmaaDoorAlv7
import Derived.Test.YtfhkmmagpnojmaaDoorSplP
import Derived.Test.YtfhkmmagpnojmaaDoorRefQ
set_option linter.unusedSimpArgs false
set_option linter.unusedVariables false
namespace Go.Proofs.YtfhkmmagpnojmaaDoor
open Go.RowKit

/-- The parts of an encoding. -/
theorem rb_parts (r : Rq) : 256 * ((encR r).getD 0 0).toNat + ((encR r).getD 1 0).toNat = (encR r).length ∧ (encR r).getD 2 0 = r.kind ∧ ((encR r).drop 3).take 46 = encT r.tok := by
  obtain ⟨h1, h2, h3⟩ := encR_parts r
  have hl := encR_length r
  rw [val_take2 _ (by omega)] at h3
  exact ⟨h3, h1, by rw [h2, List.take_left' (encT_length _)]⟩
/-- A beginning of an encoding is none. -/
theorem rb_begin (r : Rq) (n : Nat) (h : n < (encR r).length) : dcE ((encR r).take n) = if n < 3 then 10 else 11 := by
  have hl : ((encR r).take n).length = n := by rw [List.length_take]; omega
  unfold dcE
  rw [hl]
  by_cases h3 : n < 3
  · rw [if_pos h3, if_pos h3]
  · rw [if_neg h3, if_neg h3]
    have : dcOk ((encR r).take n) = false := by
      unfold dcOk
      rw [decide_eq_false, Bool.false_and]
      rintro ⟨_, h2⟩
      rw [hl, List.take_take, Nat.min_eq_left (by omega), (encR_parts r).2.2] at h2
      omega
    rw [this]
    rfl
/-- What was decoded is valid, and its encoding is the bytes. -/
theorem rb_back (b : List UInt8) (h : dcE b = 0) : rqV (dcR b) = true ∧ encR (dcR b) = b := by
  have hok : dcOk b = true := by
    unfold dcE at h
    split at h
    · cases h
    · split at h
      · assumption
      · cases h
  have hR : dcR b = rqP b := if_pos h
  unfold dcOk at hok
  rw [Bool.and_eq_true, decide_eq_true_eq] at hok
  rw [hR]
  exact ⟨hok.2, encR_rqP b hok.1.1 hok.1.2⟩
theorem rb_err (b : List UInt8) (h : dcE b ≠ 0) : dcE b = 10 ∨ dcE b = 11 := by
  unfold dcE at h ⊢
  split
  · exact .inl rfl
  · split
    · rename_i h1 h2; rw [if_neg h1, if_pos h2] at h; exact absurd rfl h
    · exact .inr rfl

set_option maxRecDepth 100000 in
set_option maxHeartbeats 8000000 in
theorem wireRequestBack_walk (r : Rq) (n : Nat) (v : Value) (b : List UInt8) (w0 : World) (hn : n < 256) (h : Bs w0 v b) (hl : b.length ≤ 140737488351232) (hK : KT w0) :
    Calls Tryd.prog 9 #[.agg (rqL r).toArray, .int .u8 (n : Int), v] w0 fun e w' => e = .returned (.bool true) ∧ Has w0 w' [] := by
  have S := Has.start w0
  obtain ⟨a0, c0, rfl, k1, k2⟩ := Sl.shape h
  unfold maxLen at k2
  have pa := fun w h => alive_s w h
  have pv := fun w => refValid_s r w
  have p1 := fun w => encodeRequest_s r w
  have p2 := fun v b w h hl => decodeRequest_s v b w h hl
  have p3 := fun r w => checkRequest_s r w
  have p4 := fun r w => encodeRequest_s r w
  have p5 := fun t w => enc_s t w
  have H := Lib.hid h; have PA := Lib.hid pa; have PV := Lib.hid pv; have P1 := Lib.hid p1; have P2 := Lib.hid p2; have P3 := Lib.hid p3; have P4 := Lib.hid p4; have P5 := Lib.hid p5; have HK := Lib.hid hK; have HL := Lib.hid hl; clear h pa pv p1 p2 p3 p4 p5 hK hl
  go_enter Tryd.func9, Tryd.ntmps9
  go_upto_if 20 with (first | ((with_reducible refine iD 3 (.box 69 (.tmp 0)) ?_); refine step_boxA (dst := some 3) S 69 (.tmp 0) _ rfl gw ?_; clear S; intro g3 w S) | (go_at_call 29; (with_reducible refine (PA.out _ kT).mono ?_); rintro e w1 ⟨rfl, T⟩; replace S := S.call T; clear T; (try simp only [z4, z5] at S)) | ((with_reducible refine iO _ (.load 69 _) ?_); first | (refine step_load S 69 _ _ rfl _ _ _ pk _ Tryd.underlying69 rfl 40 kR lN gw ?_) | (refine step_loadO 69 _ _ rfl _ _ _ (S.old_heap (Hid.out (by assumption))) _ Tryd.underlying69 rfl 40 kR lN gw ?_) | (refine step_loadR 69 _ _ _ rfl _ (S.old_range hy) _ Tryd.underlying69 rfl 40 kR lN _ rfl gw ?_)) | (go_at_call 33; (with_reducible refine (PV.out _).mono ?_); rintro e w1 ⟨rfl, T⟩; replace S := S.call T; clear T; (try simp only [z4, z5] at S)) | ((with_reducible refine iD 10 (.alloc 69) ?_); refine step_alloc (dst := some 10) S 69 (.agg ((rqL rqZ).toArray)) ((rqL rqZ).toArray) kR rfl gw ?_; clear S; intro g10 w S) | ((with_reducible refine iO none (.store 69 (.tmp 10) (.tmp 29)) ?_); refine step_store S 69 (.tmp 10) (.tmp 29) _ _ rfl rfl _ _ pk 40 kR lN lN on1 gw ?_; clear S; intro w S) | ((with_reducible refine iO _ (.load 5 _) ?_); refine step_load1 5 _ _ _ rfl (cL) _ Tryd.underlying5 rfl gw ?_) | ((with_reducible refine iO _ (.slice 25 _ _ _ _) ?_); refine step_cutLH 25 5 1 _ _ _ _ _ _ _ _ _ _ 3 49 rfl rfl rfl (by first | rfl | omega) (by first | rfl | omega) (by first | (first | omega | assumption | (exact Hid.out (by assumption)) | (simp only [List.length_append, List.length_cons, List.length_nil]; omega)) | decide) (by first | (first | omega | assumption | (exact Hid.out (by assumption)) | (simp only [List.length_append, List.length_cons, List.length_nil]; omega)) | decide) Tryd.underlying25 kR gw ?_) | ((with_reducible refine iO _ (.convert 25 9 _) ?_); refine step_conv 25 9 5 _ _ _ rfl Tryd.underlying25 Tryd.underlying5 Tryd.underlying9 bS gw ?_) | ((with_reducible refine iO _ (.load 67 _) ?_); first | (refine step_loadR 67 _ _ _ rfl _ (S.old_range hy) _ Tryd.underlying67 rfl 36 kR lN _ rfl gw ?_) | (refine step_loadP S 67 _ _ _ rfl _ _ _ pk 36 _ pT lN _ Tryd.underlying67 rfl kR gw ?_)) | ((with_reducible refine iO _ (.slice 25 _ _ _ _) ?_); refine step_cutH 25 5 1 _ _ _ _ _ _ _ _ rfl rfl (by first | rfl | omega) (by first | (first | omega | assumption | (exact Hid.out (by assumption)) | (simp only [List.length_append, List.length_cons, List.length_nil]; omega)) | decide) Tryd.underlying25 kR gw ?_) | ((with_reducible refine iD 12 (.alloc 69) ?_); refine step_alloc (dst := some 12) S 69 (.agg ((rqL rqZ).toArray)) ((rqL rqZ).toArray) kR rfl gw ?_; clear S; intro g12 w S) | ((with_reducible refine iO none (.store 69 (.tmp 12) (.tmp 90)) ?_); refine step_store S 69 (.tmp 12) (.tmp 90) _ _ rfl rfl _ _ pk 40 kR lN lN on1 gw ?_; clear S; intro w S) | ((with_reducible refine iD 14 (.alloc 69) ?_); refine step_alloc (dst := some 14) S 69 (.agg ((rqL rqZ).toArray)) ((rqL rqZ).toArray) kR rfl gw ?_; clear S; intro g14 w S) | ((with_reducible refine iO none (.store 69 (.tmp 14) (.tmp 108)) ?_); refine step_store S 69 (.tmp 14) (.tmp 108) _ _ rfl rfl _ _ pk 40 kR lN lN on1 gw ?_; clear S; intro w S) | fail)
  go_cut [8, 9, 10, 11, 12, 13] (fun _ _ _ _ _ _ w' => Has w0 w' [blk g3 (.cells (rqL r).toArray 69 (0, 0))])
  case first =>
    cases hv : rqV r with
    | false =>
      go_wp2
      go_meet
      case rel => exact S
    | true =>
      obtain ⟨q1, q2, q3⟩ := rb_parts r
      have q4 := rb_begin r n
      have q5 := encR_length r
      have q6 := bsz_le r.kind
      have p1 := P1.out
      rw [show encRE r = encR r from if_pos hv, show rqE r = 0 from if_pos hv] at p1
      have d1 := dcE_encR r hv
      have d2 := dcR_encR r hv
      obtain ⟨X, hX⟩ : ∃ X, X = encR r := ⟨_, rfl⟩
      rw [← hX] at q1 q2 q3 q4 q5 p1 d1 d2
      have pd := fun v w h => P2.out v X w h (by omega)
      rw [d1, d2] at pd
      obtain ⟨L, hL⟩ : ∃ L, L = X.length := ⟨_, rfl⟩
      have hne := fun w => neqRq r r w
      simp only [decide_true, Bool.not_true] at hne
      have eg := eqGuardRq
      obtain ⟨E, hE⟩ : ∃ E, E = encT r.tok := ⟨_, rfl⟩
      have pe := P5.out r.tok
      rw [← hE] at pe q3
      have h0 : X.length ≠ 0 := by omega
      have i49 : ¬ (X.length : Int) < 49 := by omega
      have i256 : IntKind.i64.wrap (256 * (((X.getD 0 0).toNat : Nat) : Int)) = 256 * (((X.getD 0 0).toNat : Nat) : Int) := by rw [IntKind.wrap_i64]; have := (X.getD 0 0).toNat_lt; omega
      have iL : IntKind.i64.wrap (256 * (((X.getD 0 0).toNat : Nat) : Int) + (((X.getD 1 0).toNat : Nat) : Int)) = (X.length : Int) := by rw [IntKind.wrap_i64]; omega
      have l49 : 49 ≤ X.length := by omega
      have l64 : X.length ≤ 64 := by omega
      have kc := fun (g c : Nat) (w : World) (hs : Bs w (.slice (some ⟨g, 0, none⟩) X.length c) X) (i : Nat) (hi : i < X.length) => (by have := hs.cell rfl i hi; rwa [Nat.zero_add] at this : w.cell? ⟨g, i, none⟩ = some (by8 (X.getD i 0)))
      clear hX hE q5 q6 hv d1 d2
      obtain ⟨x0, hx0⟩ : ∃ x, x = X.getD 0 0 := ⟨_, rfl⟩
      obtain ⟨x1, hx1⟩ : ∃ x, x = X.getD 1 0 := ⟨_, rfl⟩
      have kc0 := fun (g c : Nat) (w : World) (hs : Bs w (.slice (some ⟨g, 0, none⟩) X.length c) X) => kc g c w hs 0 (by omega)
      have kc1 := fun (g c : Nat) (w : World) (hs : Bs w (.slice (some ⟨g, 0, none⟩) X.length c) X) => kc g c w hs 1 (by omega)
      have kc2 := fun (g c : Nat) (w : World) (hs : Bs w (.slice (some ⟨g, 0, none⟩) X.length c) X) => kc g c w hs 2 (by omega)
      have kE := fun (g c : Nat) (w : World) (hs : Bs w (.slice (some ⟨g, 0, none⟩) X.length c) X) => hs.cut 3 46 (by omega) rfl
      rw [q3] at kE
      rw [q2] at kc2
      rw [← hx0] at kc0 iL i256
      rw [← hx1] at kc1 iL
      have hx256 : (256 : Int) * (x0.toNat : Int) + (x1.toNat : Int) = (X.length : Int) := by rw [hx0, hx1]; omega
      have iw0 : IntKind.i64.wrap (x0.toNat : Int) = (x0.toNat : Int) := by rw [IntKind.wrap_i64]; have := x0.toNat_lt; omega
      have iw1 : IntKind.i64.wrap (x1.toNat : Int) = (x1.toNat : Int) := by rw [IntKind.wrap_i64]; have := x1.toNat_lt; omega
      have n0 : 0 < X.length := by omega
      have n1 : 1 < X.length := by omega
      have n2 : 2 < X.length := by omega
      clear kc q1 q2 q3 hx0 hx1 hx256
      have n1I : (1 : Int) < (X.length : Int) := by omega
      have n2I : (2 : Int) < (X.length : Int) := by omega
      have P1 := Lib.hid p1; have PD := Lib.hid pd; have PE := Lib.hid pe; have Q4 := Lib.hid q4; have H0 := Lib.hid h0; have L49 := Lib.hid l49; have L64 := Lib.hid l64; have KC0 := Lib.hid kc0; have KC1 := Lib.hid kc1; have KC2 := Lib.hid kc2; have KE := Lib.hid kE; clear p1 pd pe q4 h0 l49 l64 kc0 kc1 kc2 kE
      clear PV
      go_upto_region 5 with (first | ((with_reducible refine iD 3 (.box 69 (.tmp 0)) ?_); refine step_boxA (dst := some 3) S 69 (.tmp 0) _ rfl gw ?_; clear S; intro g3 w S) | ((with_reducible refine iO _ (.load 69 _) ?_); first | (refine step_load S 69 _ _ rfl _ _ _ pk _ Tryd.underlying69 rfl 40 kR lN gw ?_) | (refine step_loadO 69 _ _ rfl _ _ _ (S.old_heap (Hid.out (by assumption))) _ Tryd.underlying69 rfl 40 kR lN gw ?_) | (refine step_loadR 69 _ _ _ rfl _ (S.old_range hy) _ Tryd.underlying69 rfl 40 kR lN _ rfl gw ?_)) | (go_at_call 32; (with_reducible refine (P1.out _).mono ?_); rintro e w1 ⟨v23, rfl, T⟩; replace S := S.call T; clear T; (try simp only [z4, z5] at S)) | (go_at_call 34; (with_reducible refine (PD.out _ _ (S.bs (v := v23) pk)).mono ?_); rintro e w1 ⟨rfl, T⟩; replace S := S.call T; clear T; (try simp only [z4, z5] at S)) | ((with_reducible refine iD 10 (.alloc 69) ?_); refine step_alloc (dst := some 10) S 69 (.agg ((rqL rqZ).toArray)) ((rqL rqZ).toArray) kR rfl gw ?_; clear S; intro g10 w S) | ((with_reducible refine iO none (.store 69 (.tmp 10) (.tmp 29)) ?_); refine step_store S 69 (.tmp 10) (.tmp 29) _ _ rfl rfl _ _ pk 40 kR lN lN on1 gw ?_; clear S; intro w S) | ((with_reducible refine iO _ (.load 5 _) ?_); refine step_load1 5 _ _ _ rfl (cL) _ Tryd.underlying5 rfl gw ?_) | ((with_reducible refine iO _ (.slice 25 _ _ _ _) ?_); refine step_cutLH 25 5 1 _ _ _ _ _ _ _ _ _ _ 3 49 rfl rfl rfl (by first | rfl | omega) (by first | rfl | omega) (by first | (first | omega | assumption | (exact Hid.out (by assumption)) | (simp only [List.length_append, List.length_cons, List.length_nil]; omega)) | decide) (by first | (first | omega | assumption | (exact Hid.out (by assumption)) | (simp only [List.length_append, List.length_cons, List.length_nil]; omega)) | decide) Tryd.underlying25 kR gw ?_) | ((with_reducible refine iO _ (.convert 25 9 _) ?_); refine step_conv 25 9 5 _ _ _ rfl Tryd.underlying25 Tryd.underlying5 Tryd.underlying9 bS gw ?_) | ((with_reducible refine iO _ (.load 67 _) ?_); first | (refine step_loadR 67 _ _ _ rfl _ (S.old_range hy) _ Tryd.underlying67 rfl 36 kR lN _ rfl gw ?_) | (refine step_loadP S 67 _ _ _ rfl _ _ _ pk 36 _ pT lN _ Tryd.underlying67 rfl kR gw ?_)) | ((with_reducible refine iO _ (.slice 25 _ _ _ _) ?_); refine step_cutH 25 5 1 _ _ _ _ _ _ _ _ rfl rfl (by first | rfl | omega) (by first | (first | omega | assumption | (exact Hid.out (by assumption)) | (simp only [List.length_append, List.length_cons, List.length_nil]; omega)) | decide) Tryd.underlying25 kR gw ?_) | ((with_reducible refine iD 12 (.alloc 69) ?_); refine step_alloc (dst := some 12) S 69 (.agg ((rqL rqZ).toArray)) ((rqL rqZ).toArray) kR rfl gw ?_; clear S; intro g12 w S) | ((with_reducible refine iO none (.store 69 (.tmp 12) (.tmp 90)) ?_); refine step_store S 69 (.tmp 12) (.tmp 90) _ _ rfl rfl _ _ pk 40 kR lN lN on1 gw ?_; clear S; intro w S) | ((with_reducible refine iD 14 (.alloc 69) ?_); refine step_alloc (dst := some 14) S 69 (.agg ((rqL rqZ).toArray)) ((rqL rqZ).toArray) kR rfl gw ?_; clear S; intro g14 w S) | ((with_reducible refine iO none (.store 69 (.tmp 14) (.tmp 108)) ?_); refine step_store S 69 (.tmp 14) (.tmp 108) _ _ rfl rfl _ _ pk 40 kR lN lN on1 gw ?_; clear S; intro w S) | fail)
      obtain ⟨gx, cx, rfl, hcx⟩ := S.row_at (v := v23) pk H0.out
      have HCX := Lib.hid hcx; clear hcx
      refine wp_rely S [⟨[], [], [], fun _ v => v = (.int .i64 0), fun _ v => []⟩, ⟨[0], [], [], fun _ v => v = .bool false, fun _ v => []⟩, ⟨[0, 1], [], [], fun _ v => v = (.bool false), fun _ v => []⟩, ⟨[0, 1, 2], [], [], fun _ v => v = (.int .i64 0), fun _ v => []⟩, ⟨[0, 1, 2, 3], [], [], fun _ v => v = .bool false, fun _ v => []⟩, ⟨[0, 1, 2, 3, 4], [], [], fun _ v => v = .bool false, fun _ v => []⟩, ⟨[0, 1, 2, 3, 4, 5], [], [], fun _ v => v = (.bool false), fun _ v => []⟩, ⟨[0, 1, 2, 3, 4, 5, 6], [], [], fun _ v => v = .agg (rqL r).toArray, fun _ v => []⟩, ⟨[0, 1, 2, 3, 4, 5, 6], [], [], fun _ v => v = .agg (rqL r).toArray, fun _ v => []⟩, ⟨[0, 1, 2, 3, 4, 5, 6, 7, 8], [], [], fun _ v => v = .bool false, fun _ v => []⟩, ⟨[0, 1, 2, 3, 4, 5, 6, 7, 8, 9], [], [], fun _ v => v = .bool false, fun _ v => []⟩, ⟨[0, 1, 2, 3, 4, 5, 6, 7, 8, 9, 10], [], [], fun _ v => v = (.bool false), fun _ v => []⟩, ⟨[0, 1, 2, 3, 4, 5, 6, 7, 8, 9, 10, 11], [], [], fun _ v => v = (.slice (some ⟨gx, 0, none⟩) X.length cx), fun _ v => []⟩, ⟨[0, 1, 2, 3, 4, 5, 6, 7, 8, 9, 10, 11, 12], [], [], fun _ v => v = .int .i64 (X.length : Int), fun _ v => []⟩, ⟨[0, 1, 2, 3, 4, 5, 6, 7, 8, 9, 10, 11, 12, 13], [], [], fun _ v => v = .bool false, fun _ v => []⟩, ⟨[0, 1, 2, 3, 4, 5, 6, 7, 8, 9, 10, 11, 12, 13, 14], [], [], fun _ v => v = .bool false, fun _ v => []⟩, ⟨[0, 1, 2, 3, 4, 5, 6, 7, 8, 9, 10, 11, 12, 13, 14, 15], [], [], fun _ v => v = (.bool false), fun _ v => []⟩, ⟨[0, 1, 2, 3, 4, 5, 6, 7, 8, 9, 10, 11, 12, 13, 14, 15, 16], [], [], fun _ v => v = (.slice (some ⟨gx, 0, none⟩) X.length cx), fun _ v => []⟩, ⟨[0, 1, 2, 3, 4, 5, 6, 7, 8, 9, 10, 11, 12, 13, 14, 15, 16, 17], [], [], fun _ v => v = .pointer (some ⟨gx, 0, none⟩), fun _ v => []⟩, ⟨[0, 1, 2, 3, 4, 5, 6, 7, 8, 9, 10, 11, 12, 13, 14, 15, 16, 17, 18], [], [], fun _ v => v = by8 x0, fun _ v => []⟩, ⟨[0, 1, 2, 3, 4, 5, 6, 7, 8, 9, 10, 11, 12, 13, 14, 15, 16, 17, 18, 19], [], [], fun _ v => v = .int .i64 (x0.toNat : Int), fun _ v => []⟩, ⟨[0, 1, 2, 3, 4, 5, 6, 7, 8, 9, 10, 11, 12, 13, 14, 15, 16, 17, 18, 19, 20], [], [], fun _ v => v = .int .i64 (256 * (x0.toNat : Int)), fun _ v => []⟩, ⟨[0, 1, 2, 3, 4, 5, 6, 7, 8, 9, 10, 11, 12, 13, 14, 15, 16], [], [], fun _ v => v = (.slice (some ⟨gx, 0, none⟩) X.length cx), fun _ v => []⟩, ⟨[0, 1, 2, 3, 4, 5, 6, 7, 8, 9, 10, 11, 12, 13, 14, 15, 16, 22], [], [], fun _ v => v = .pointer (some ⟨gx, 1, none⟩), fun _ v => []⟩, ⟨[0, 1, 2, 3, 4, 5, 6, 7, 8, 9, 10, 11, 12, 13, 14, 15, 16, 22, 23], [], [], fun _ v => v = by8 x1, fun _ v => []⟩, ⟨[0, 1, 2, 3, 4, 5, 6, 7, 8, 9, 10, 11, 12, 13, 14, 15, 16, 22, 23, 24], [], [], fun _ v => v = .int .i64 (x1.toNat : Int), fun _ v => []⟩, ⟨[0, 1, 2, 3, 4, 5, 6, 7, 8, 9, 10, 11, 12, 13, 14, 15, 16, 17, 18, 19, 20, 21, 22, 23, 24, 25], [], [], fun _ v => v = .int .i64 (X.length : Int), fun _ v => []⟩, ⟨[0, 1, 2, 3, 4, 5, 6, 7, 8, 9, 10, 11, 12, 13, 14, 15, 16], [], [], fun _ v => v = (.slice (some ⟨gx, 0, none⟩) X.length cx), fun _ v => []⟩, ⟨[0, 1, 2, 3, 4, 5, 6, 7, 8, 9, 10, 11, 12, 13, 14, 15, 16, 27], [], [], fun _ v => v = .int .i64 (X.length : Int), fun _ v => []⟩, ⟨[0, 1, 2, 3, 4, 5, 6, 7, 8, 9, 10, 11, 12, 13, 14, 15, 16, 17, 18, 19, 20, 21, 22, 23, 24, 25, 26, 27, 28], [], [], fun _ v => v = .bool false, fun _ v => []⟩, ⟨[0, 1, 2, 3, 4, 5, 6, 7, 8, 9, 10, 11, 12, 13, 14, 15, 16, 17, 18, 19, 20, 21, 22, 23, 24, 25, 26, 27, 28, 29], [], [], fun _ v => v = .bool false, fun _ v => []⟩, ⟨[0, 1, 2, 3, 4, 5, 6, 7, 8, 9, 10, 11, 12, 13, 14, 15, 16, 17, 18, 19, 20, 21, 22, 23, 24, 25, 26, 27, 28, 29, 30], [], [], fun _ v => v = (.bool false), fun _ v => []⟩, ⟨[0, 1, 2, 3, 4, 5, 6, 7, 8, 9, 10, 11, 12, 13, 14, 15, 16, 17, 18, 19, 20, 21, 22, 23, 24, 25, 26, 27, 28, 29, 30, 31], [], [], fun _ v => v = (.slice (some ⟨gx, 0, none⟩) X.length cx), fun _ v => []⟩, ⟨[0, 1, 2, 3, 4, 5, 6, 7, 8, 9, 10, 11, 12, 13, 14, 15, 16, 17, 18, 19, 20, 21, 22, 23, 24, 25, 26, 27, 28, 29, 30, 31, 32], [], [], fun _ v => v = .pointer (some ⟨gx, 2, none⟩), fun _ v => []⟩, ⟨[0, 1, 2, 3, 4, 5, 6, 7, 8, 9, 10, 11, 12, 13, 14, 15, 16, 17, 18, 19, 20, 21, 22, 23, 24, 25, 26, 27, 28, 29, 30, 31, 32, 33], [], [], fun _ v => v = by8 r.kind, fun _ v => []⟩, ⟨[0, 1, 2, 3, 4, 5, 6, 7, 8, 9, 10, 11, 12, 13, 14, 15, 16, 17, 18, 19, 20, 21, 22, 23, 24, 25, 26, 27, 28, 29, 30, 31], [], [], fun _ v => v = .pointer (some ⟨g3, 0, none⟩), fun _ v => []⟩, ⟨[0, 1, 2, 3, 4, 5, 6, 7, 8, 9, 10, 11, 12, 13, 14, 15, 16, 17, 18, 19, 20, 21, 22, 23, 24, 25, 26, 27, 28, 29, 30, 31, 35], [], [], fun _ v => v = by8 r.kind, fun _ v => []⟩, ⟨[0, 1, 2, 3, 4, 5, 6, 7, 8, 9, 10, 11, 12, 13, 14, 15, 16, 17, 18, 19, 20, 21, 22, 23, 24, 25, 26, 27, 28, 29, 30, 31, 32, 33, 34, 35, 36], [], [], fun _ v => v = .bool false, fun _ v => []⟩, ⟨[0, 1, 2, 3, 4, 5, 6, 7, 8, 9, 10, 11, 12, 13, 14, 15, 16, 17, 18, 19, 20, 21, 22, 23, 24, 25, 26, 27, 28, 29, 30, 31, 32, 33, 34, 35, 36, 37], [], [], fun _ v => v = .bool false, fun _ v => []⟩, ⟨[0, 1, 2, 3, 4, 5, 6, 7, 8, 9, 10, 11, 12, 13, 14, 15, 16, 17, 18, 19, 20, 21, 22, 23, 24, 25, 26, 27, 28, 29, 30, 31, 32, 33, 34, 35, 36, 37, 38], [], [], fun _ v => v = (.bool false), fun _ v => []⟩, ⟨[0, 1, 2, 3, 4, 5, 6, 7, 8, 9, 10, 11, 12, 13, 14, 15, 16, 17, 18, 19, 20, 21, 22, 23, 24, 25, 26, 27, 28, 29, 30, 31, 32, 33, 34, 35, 36, 37, 38, 39], [], [], fun _ v => v = (.slice (some ⟨gx, 0, none⟩) X.length cx), fun _ v => []⟩, ⟨[0, 1, 2, 3, 4, 5, 6, 7, 8, 9, 10, 11, 12, 13, 14, 15, 16, 17, 18, 19, 20, 21, 22, 23, 24, 25, 26, 27, 28, 29, 30, 31, 32, 33, 34, 35, 36, 37, 38, 39, 40], [], [], fun _ v => v = .slice (cutA (some ⟨gx, 0, none⟩) cx 3 1) 46 (cx - 3), fun _ v => []⟩, ⟨[0, 1, 2, 3, 4, 5, 6, 7, 8, 9, 10, 11, 12, 13, 14, 15, 16, 17, 18, 19, 20, 21, 22, 23, 24, 25, 26, 27, 28, 29, 30, 31, 32, 33, 34, 35, 36, 37, 38, 39, 40, 41], [], [], fun _ v => v = .string (strB E), fun _ v => []⟩, ⟨[0, 1, 2, 3, 4, 5, 6, 7, 8, 9, 10, 11, 12, 13, 14, 15, 16, 17, 18, 19, 20, 21, 22, 23, 24, 25, 26, 27, 28, 29, 30, 31, 32, 33, 34, 35, 36, 37, 38, 39], [], [], fun _ v => v = .pointer (some ⟨g3, 1, none⟩), fun _ v => []⟩, ⟨[0, 1, 2, 3, 4, 5, 6, 7, 8, 9, 10, 11, 12, 13, 14, 15, 16, 17, 18, 19, 20, 21, 22, 23, 24, 25, 26, 27, 28, 29, 30, 31, 32, 33, 34, 35, 36, 37, 38, 39, 43], [], [], fun _ v => v = .agg (tokL r.tok).toArray, fun _ v => []⟩, ⟨[0, 1, 2, 3, 4, 5, 6, 7, 8, 9, 10, 11, 12, 13, 14, 15, 16, 17, 18, 19, 20, 21, 22, 23, 24, 25, 26, 27, 28, 29, 30, 31, 32, 33, 34, 35, 36, 37, 38, 39, 43, 44], [], [], fun _ v => ∃ y, v = y, fun _ v => [row8 v E]⟩, ⟨[0, 1, 2, 3, 4, 5, 6, 7, 8, 9, 10, 11, 12, 13, 14, 15, 16, 17, 18, 19, 20, 21, 22, 23, 24, 25, 26, 27, 28, 29, 30, 31, 32, 33, 34, 35, 36, 37, 38, 39, 43, 44, 45], [], [45], fun _ v => v = .string (strB E), fun _ v => []⟩, ⟨[0, 1, 2, 3, 4, 5, 6, 7, 8, 9, 10, 11, 12, 13, 14, 15, 16, 17, 18, 19, 20, 21, 22, 23, 24, 25, 26, 27, 28, 29, 30, 31, 32, 33, 34, 35, 36, 37, 38, 39, 40, 41, 42, 43, 44, 45, 46], [], [], fun _ v => v = .bool false, fun _ v => []⟩, ⟨[0, 1, 2, 3, 4, 5, 6, 7, 8, 9, 10, 11, 12, 13, 14, 15, 16, 17, 18, 19, 20, 21, 22, 23, 24, 25, 26, 27, 28, 29, 30, 31, 32, 33, 34, 35, 36, 37, 38, 39, 40, 41, 42, 43, 44, 45, 46, 47], [], [], fun _ v => v = .bool false, fun _ v => []⟩] ?A1 ?hA1 kR kR kR [0, 1, 2, 3, 4, 5, 6, 7, 8, 9, 10, 11, 12, 13, 14, 15, 16, 17, 18, 19, 20, 21, 22, 23, 24, 25, 26, 27, 28, 29, 30, 31, 32, 33, 34, 35, 36, 37, 38, 39, 40, 41, 42, 43, 44, 45, 46, 47, 48] kR ?hok1 ?fin1
      case hA1 => intro u; simp only [putAll, List.length_cons, List.length_nil, Nat.zero_add, Nat.reduceAdd, dstAt, List.getElem?_toArray, List.getElem?_cons_zero, List.getElem?_cons_succ, Option.bind_some, Act.put, List.setIfInBounds_toArray, List.set_cons_zero, List.set_cons_succ]; rfl
      case hok1 =>
        intro i hi
        obtain rfl | rfl | rfl | rfl | rfl | rfl | rfl | rfl | rfl | rfl | rfl | rfl | rfl | rfl | rfl | rfl | rfl | rfl | rfl | rfl | rfl | rfl | rfl | rfl | rfl | rfl | rfl | rfl | rfl | rfl | rfl | rfl | rfl | rfl | rfl | rfl | rfl | rfl | rfl | rfl | rfl | rfl | rfl | rfl | rfl | rfl | rfl | rfl | rfl : i = 0 ∨ i = 1 ∨ i = 2 ∨ i = 3 ∨ i = 4 ∨ i = 5 ∨ i = 6 ∨ i = 7 ∨ i = 8 ∨ i = 9 ∨ i = 10 ∨ i = 11 ∨ i = 12 ∨ i = 13 ∨ i = 14 ∨ i = 15 ∨ i = 16 ∨ i = 17 ∨ i = 18 ∨ i = 19 ∨ i = 20 ∨ i = 21 ∨ i = 22 ∨ i = 23 ∨ i = 24 ∨ i = 25 ∨ i = 26 ∨ i = 27 ∨ i = 28 ∨ i = 29 ∨ i = 30 ∨ i = 31 ∨ i = 32 ∨ i = 33 ∨ i = 34 ∨ i = 35 ∨ i = 36 ∨ i = 37 ∨ i = 38 ∨ i = 39 ∨ i = 40 ∨ i = 41 ∨ i = 42 ∨ i = 43 ∨ i = 44 ∨ i = 45 ∨ i = 46 ∨ i = 47 ∨ i = 48 := by simp only [List.length_cons, List.length_nil, Nat.zero_add, Nat.reduceAdd] at hi; omega
        · clear hi
          refine step_of rfl rfl rfl ?_
          intro u G w hf S
          simp only [resOf, spec, RSpec.resAt, z0, z1, z2, z3, z4, z5, z6, z7, ptrBlk] at S ⊢
          simp only [does]
          go_simp
          try first | exact S | exact ⟨vv, S⟩ | exact vv
        · clear hi
          refine step_of rfl rfl rfl ?_
          intro u G w hf S
          have f0 : u 0 = (.int .i64 0) := hf 0 (by simp)
          simp only [resOf, spec, RSpec.resAt, z0, z1, z2, z3, z4, z5, z6, z7, ptrBlk] at S ⊢
          simp only [f0]
          simp only [does]
          go_simp
          try first | exact S | exact ⟨vv, S⟩ | exact vv
        · clear hi
          refine step_of rfl rfl rfl ?_
          intro u G w hf S
          have f1 : u 1 = .bool false := hf 1 (by simp)
          simp only [resOf, spec, RSpec.resAt, z0, z1, z2, z3, z4, z5, z6, z7, ptrBlk] at S ⊢
          simp only [f1]
          simp only [does]
          go_simp
          try first | exact S | exact ⟨vv, S⟩ | exact vv
        · clear hi
          refine step_of_g rfl rfl ?_
          intro u G w hf S
          have f2 : u 2 = (.bool false) := hf 2 (by simp)
          simp only [resOf, spec, RSpec.resAt, z0, z1, z2, z3, z4, z5, z6, z7, ptrBlk] at S ⊢
          simp only [f2]
          refine ⟨rfl, ?_⟩
          simp only [does]
          go_simp
          try first | exact S | exact ⟨vv, S⟩ | exact vv
        · clear hi
          refine step_of_g rfl rfl ?_
          intro u G w hf S
          have f2 : u 2 = (.bool false) := hf 2 (by simp)
          have f3 : u 3 = (.int .i64 0) := hf 3 (by simp)
          simp only [resOf, spec, RSpec.resAt, z0, z1, z2, z3, z4, z5, z6, z7, ptrBlk] at S ⊢
          simp only [f2, f3]
          refine ⟨rfl, ?_⟩
          simp only [does]
          go_simp
          try first | exact S | exact ⟨vv, S⟩ | exact vv
        · clear hi
          refine step_of rfl rfl rfl ?_
          intro u G w hf S
          have f2 : u 2 = (.bool false) := hf 2 (by simp)
          have f4 : u 4 = .bool false := hf 4 (by simp)
          simp only [resOf, spec, RSpec.resAt, z0, z1, z2, z3, z4, z5, z6, z7, ptrBlk] at S ⊢
          simp only [f2, f4]
          simp only [does]
          go_simp
          try first | exact S | exact ⟨vv, S⟩ | exact vv
        · clear hi
          refine step_of rfl rfl rfl ?_
          intro u G w hf S
          have f5 : u 5 = .bool false := hf 5 (by simp)
          simp only [resOf, spec, RSpec.resAt, z0, z1, z2, z3, z4, z5, z6, z7, ptrBlk] at S ⊢
          simp only [f5]
          simp only [does]
          go_simp
          try first | exact S | exact ⟨vv, S⟩ | exact vv
        · clear hi
          refine step_of_g rfl rfl ?_
          intro u G w hf S
          have f6 : u 6 = (.bool false) := hf 6 (by simp)
          simp only [resOf, spec, RSpec.resAt, z0, z1, z2, z3, z4, z5, z6, z7, ptrBlk] at S ⊢
          simp only [f6]
          refine ⟨rfl, ?_⟩
          refine does_load 69 (.tmp 10) g10 rfl _ _ _ (S.get (r := blk g10 _) pk) _ Tryd.underlying69 rfl 40 kR lN ?_; exact ⟨rfl, S⟩
        · clear hi
          refine step_of_g rfl rfl ?_
          intro u G w hf S
          have f6 : u 6 = (.bool false) := hf 6 (by simp)
          simp only [resOf, spec, RSpec.resAt, z0, z1, z2, z3, z4, z5, z6, z7, ptrBlk] at S ⊢
          simp only [f6]
          refine ⟨rfl, ?_⟩
          refine does_load 69 (.tmp 3) g3 rfl _ _ _ (S.get (r := blk g3 _) pk) _ Tryd.underlying69 rfl 40 kR lN ?_; exact ⟨rfl, S⟩
        · clear hi
          refine step_of_g rfl rfl ?_
          intro u G w hf S
          have f6 : u 6 = (.bool false) := hf 6 (by simp)
          have f7 : u 7 = .agg (rqL r).toArray := hf 7 (by simp)
          have f8 : u 8 = .agg (rqL r).toArray := hf 8 (by simp)
          simp only [resOf, spec, RSpec.resAt, z0, z1, z2, z3, z4, z5, z6, z7, ptrBlk] at S ⊢
          simp only [f6, f7, f8]
          refine ⟨rfl, ?_⟩
          simp only [does]
          go_simp
          try first | exact S | exact ⟨vv, S⟩ | exact vv
        · clear hi
          refine step_of rfl rfl rfl ?_
          intro u G w hf S
          have f6 : u 6 = (.bool false) := hf 6 (by simp)
          have f9 : u 9 = .bool false := hf 9 (by simp)
          simp only [resOf, spec, RSpec.resAt, z0, z1, z2, z3, z4, z5, z6, z7, ptrBlk] at S ⊢
          simp only [f6, f9]
          simp only [does]
          go_simp
          try first | exact S | exact ⟨vv, S⟩ | exact vv
        · clear hi
          refine step_of rfl rfl rfl ?_
          intro u G w hf S
          have f10 : u 10 = .bool false := hf 10 (by simp)
          simp only [resOf, spec, RSpec.resAt, z0, z1, z2, z3, z4, z5, z6, z7, ptrBlk] at S ⊢
          simp only [f10]
          simp only [does]
          go_simp
          try first | exact S | exact ⟨vv, S⟩ | exact vv
        · clear hi
          refine step_of_g rfl rfl ?_
          intro u G w hf S
          have f11 : u 11 = (.bool false) := hf 11 (by simp)
          simp only [resOf, spec, RSpec.resAt, z0, z1, z2, z3, z4, z5, z6, z7, ptrBlk] at S ⊢
          simp only [f11]
          refine ⟨rfl, ?_⟩
          simp only [does]
          go_simp
          try first | exact S | exact ⟨vv, S⟩ | exact vv
        · clear hi
          refine step_of_g rfl rfl ?_
          intro u G w hf S
          have f11 : u 11 = (.bool false) := hf 11 (by simp)
          have f12 : u 12 = (.slice (some ⟨gx, 0, none⟩) X.length cx) := hf 12 (by simp)
          simp only [resOf, spec, RSpec.resAt, z0, z1, z2, z3, z4, z5, z6, z7, ptrBlk] at S ⊢
          simp only [f11, f12]
          refine ⟨rfl, ?_⟩
          simp only [does]
          go_simp
          try first | exact S | exact ⟨vv, S⟩ | exact vv
        · clear hi
          refine step_of_g rfl rfl ?_
          intro u G w hf S
          have f11 : u 11 = (.bool false) := hf 11 (by simp)
          have f13 : u 13 = .int .i64 (X.length : Int) := hf 13 (by simp)
          simp only [resOf, spec, RSpec.resAt, z0, z1, z2, z3, z4, z5, z6, z7, ptrBlk] at S ⊢
          simp only [f11, f13]
          refine ⟨rfl, ?_⟩
          simp only [does]
          go_simp
          try first | exact S | exact ⟨vv, S⟩ | exact vv
        · clear hi
          refine step_of rfl rfl rfl ?_
          intro u G w hf S
          have f11 : u 11 = (.bool false) := hf 11 (by simp)
          have f14 : u 14 = .bool false := hf 14 (by simp)
          simp only [resOf, spec, RSpec.resAt, z0, z1, z2, z3, z4, z5, z6, z7, ptrBlk] at S ⊢
          simp only [f11, f14]
          simp only [does]
          go_simp
          try first | exact S | exact ⟨vv, S⟩ | exact vv
        · clear hi
          refine step_of rfl rfl rfl ?_
          intro u G w hf S
          have f15 : u 15 = .bool false := hf 15 (by simp)
          simp only [resOf, spec, RSpec.resAt, z0, z1, z2, z3, z4, z5, z6, z7, ptrBlk] at S ⊢
          simp only [f15]
          simp only [does]
          go_simp
          try first | exact S | exact ⟨vv, S⟩ | exact vv
        · clear hi
          refine step_of_g rfl rfl ?_
          intro u G w hf S
          have f16 : u 16 = (.bool false) := hf 16 (by simp)
          simp only [resOf, spec, RSpec.resAt, z0, z1, z2, z3, z4, z5, z6, z7, ptrBlk] at S ⊢
          simp only [f16]
          refine ⟨rfl, ?_⟩
          simp only [does]
          go_simp
          try first | exact S | exact ⟨vv, S⟩ | exact vv
        · clear hi
          refine step_of_g rfl rfl ?_
          intro u G w hf S
          have f16 : u 16 = (.bool false) := hf 16 (by simp)
          have f17 : u 17 = (.slice (some ⟨gx, 0, none⟩) X.length cx) := hf 17 (by simp)
          simp only [resOf, spec, RSpec.resAt, z0, z1, z2, z3, z4, z5, z6, z7, ptrBlk] at S ⊢
          simp only [f16, f17]
          refine ⟨rfl, ?_⟩
          simp only [does]
          go_simp
          try first | exact S | exact ⟨vv, S⟩ | exact vv
        · clear hi
          refine step_of_g rfl rfl ?_
          intro u G w hf S
          have f16 : u 16 = (.bool false) := hf 16 (by simp)
          have f18 : u 18 = .pointer (some ⟨gx, 0, none⟩) := hf 18 (by simp)
          simp only [resOf, spec, RSpec.resAt, z0, z1, z2, z3, z4, z5, z6, z7, ptrBlk] at S ⊢
          simp only [f16, f18]
          refine ⟨rfl, ?_⟩
          refine does_load1 5 (.tmp 49) _ _ rfl (KC0.out _ _ w (S.bs (v := .slice (some ⟨gx, 0, none⟩) X.length cx) pk)) _ Tryd.underlying5 rfl ?_; exact ⟨rfl, S⟩
        · clear hi
          refine step_of_g rfl rfl ?_
          intro u G w hf S
          have f16 : u 16 = (.bool false) := hf 16 (by simp)
          have f19 : u 19 = by8 x0 := hf 19 (by simp)
          simp only [resOf, spec, RSpec.resAt, z0, z1, z2, z3, z4, z5, z6, z7, ptrBlk] at S ⊢
          simp only [f16, f19]
          refine ⟨rfl, ?_⟩
          simp only [does]
          go_simp
          try first | exact S | exact ⟨vv, S⟩ | exact vv
        · clear hi
          refine step_of_g rfl rfl ?_
          intro u G w hf S
          have f16 : u 16 = (.bool false) := hf 16 (by simp)
          have f20 : u 20 = .int .i64 (x0.toNat : Int) := hf 20 (by simp)
          simp only [resOf, spec, RSpec.resAt, z0, z1, z2, z3, z4, z5, z6, z7, ptrBlk] at S ⊢
          simp only [f16, f20]
          refine ⟨rfl, ?_⟩
          simp only [does]
          go_simp
          try first | exact S | exact ⟨vv, S⟩ | exact vv
        · clear hi
          refine step_of_g rfl rfl ?_
          intro u G w hf S
          have f16 : u 16 = (.bool false) := hf 16 (by simp)
          simp only [resOf, spec, RSpec.resAt, z0, z1, z2, z3, z4, z5, z6, z7, ptrBlk] at S ⊢
          simp only [f16]
          refine ⟨rfl, ?_⟩
          simp only [does]
          go_simp
          try first | exact S | exact ⟨vv, S⟩ | exact vv
        · clear hi
          refine step_of_g rfl rfl ?_
          intro u G w hf S
          have f16 : u 16 = (.bool false) := hf 16 (by simp)
          have f22 : u 22 = (.slice (some ⟨gx, 0, none⟩) X.length cx) := hf 22 (by simp)
          simp only [resOf, spec, RSpec.resAt, z0, z1, z2, z3, z4, z5, z6, z7, ptrBlk] at S ⊢
          simp only [f16, f22]
          refine ⟨rfl, ?_⟩
          simp only [does]
          go_simp
          try first | exact S | exact ⟨vv, S⟩ | exact vv
        · clear hi
          refine step_of_g rfl rfl ?_
          intro u G w hf S
          have f16 : u 16 = (.bool false) := hf 16 (by simp)
          have f23 : u 23 = .pointer (some ⟨gx, 1, none⟩) := hf 23 (by simp)
          simp only [resOf, spec, RSpec.resAt, z0, z1, z2, z3, z4, z5, z6, z7, ptrBlk] at S ⊢
          simp only [f16, f23]
          refine ⟨rfl, ?_⟩
          refine does_load1 5 (.tmp 54) _ _ rfl (KC1.out _ _ w (S.bs (v := .slice (some ⟨gx, 0, none⟩) X.length cx) pk)) _ Tryd.underlying5 rfl ?_; exact ⟨rfl, S⟩
        · clear hi
          refine step_of_g rfl rfl ?_
          intro u G w hf S
          have f16 : u 16 = (.bool false) := hf 16 (by simp)
          have f24 : u 24 = by8 x1 := hf 24 (by simp)
          simp only [resOf, spec, RSpec.resAt, z0, z1, z2, z3, z4, z5, z6, z7, ptrBlk] at S ⊢
          simp only [f16, f24]
          refine ⟨rfl, ?_⟩
          simp only [does]
          go_simp
          try first | exact S | exact ⟨vv, S⟩ | exact vv
        · clear hi
          refine step_of_g rfl rfl ?_
          intro u G w hf S
          have f16 : u 16 = (.bool false) := hf 16 (by simp)
          have f21 : u 21 = .int .i64 (256 * (x0.toNat : Int)) := hf 21 (by simp)
          have f25 : u 25 = .int .i64 (x1.toNat : Int) := hf 25 (by simp)
          simp only [resOf, spec, RSpec.resAt, z0, z1, z2, z3, z4, z5, z6, z7, ptrBlk] at S ⊢
          simp only [f16, f21, f25]
          refine ⟨rfl, ?_⟩
          simp only [does]
          go_simp
          try first | exact S | exact ⟨vv, S⟩ | exact vv
        · clear hi
          refine step_of_g rfl rfl ?_
          intro u G w hf S
          have f16 : u 16 = (.bool false) := hf 16 (by simp)
          simp only [resOf, spec, RSpec.resAt, z0, z1, z2, z3, z4, z5, z6, z7, ptrBlk] at S ⊢
          simp only [f16]
          refine ⟨rfl, ?_⟩
          simp only [does]
          go_simp
          try first | exact S | exact ⟨vv, S⟩ | exact vv
        · clear hi
          refine step_of_g rfl rfl ?_
          intro u G w hf S
          have f16 : u 16 = (.bool false) := hf 16 (by simp)
          have f27 : u 27 = (.slice (some ⟨gx, 0, none⟩) X.length cx) := hf 27 (by simp)
          simp only [resOf, spec, RSpec.resAt, z0, z1, z2, z3, z4, z5, z6, z7, ptrBlk] at S ⊢
          simp only [f16, f27]
          refine ⟨rfl, ?_⟩
          simp only [does]
          go_simp
          try first | exact S | exact ⟨vv, S⟩ | exact vv
        · clear hi
          refine step_of_g rfl rfl ?_
          intro u G w hf S
          have f16 : u 16 = (.bool false) := hf 16 (by simp)
          have f26 : u 26 = .int .i64 (X.length : Int) := hf 26 (by simp)
          have f28 : u 28 = .int .i64 (X.length : Int) := hf 28 (by simp)
          simp only [resOf, spec, RSpec.resAt, z0, z1, z2, z3, z4, z5, z6, z7, ptrBlk] at S ⊢
          simp only [f16, f26, f28]
          refine ⟨rfl, ?_⟩
          simp only [does]
          go_simp
          try first | exact S | exact ⟨vv, S⟩ | exact vv
        · clear hi
          refine step_of rfl rfl rfl ?_
          intro u G w hf S
          have f16 : u 16 = (.bool false) := hf 16 (by simp)
          have f29 : u 29 = .bool false := hf 29 (by simp)
          simp only [resOf, spec, RSpec.resAt, z0, z1, z2, z3, z4, z5, z6, z7, ptrBlk] at S ⊢
          simp only [f16, f29]
          simp only [does]
          go_simp
          try first | exact S | exact ⟨vv, S⟩ | exact vv
        · clear hi
          refine step_of rfl rfl rfl ?_
          intro u G w hf S
          have f30 : u 30 = .bool false := hf 30 (by simp)
          simp only [resOf, spec, RSpec.resAt, z0, z1, z2, z3, z4, z5, z6, z7, ptrBlk] at S ⊢
          simp only [f30]
          simp only [does]
          go_simp
          try first | exact S | exact ⟨vv, S⟩ | exact vv
        · clear hi
          refine step_of_g rfl rfl ?_
          intro u G w hf S
          have f31 : u 31 = (.bool false) := hf 31 (by simp)
          simp only [resOf, spec, RSpec.resAt, z0, z1, z2, z3, z4, z5, z6, z7, ptrBlk] at S ⊢
          simp only [f31]
          refine ⟨rfl, ?_⟩
          simp only [does]
          go_simp
          try first | exact S | exact ⟨vv, S⟩ | exact vv
        · clear hi
          refine step_of_g rfl rfl ?_
          intro u G w hf S
          have f31 : u 31 = (.bool false) := hf 31 (by simp)
          have f32 : u 32 = (.slice (some ⟨gx, 0, none⟩) X.length cx) := hf 32 (by simp)
          simp only [resOf, spec, RSpec.resAt, z0, z1, z2, z3, z4, z5, z6, z7, ptrBlk] at S ⊢
          simp only [f31, f32]
          refine ⟨rfl, ?_⟩
          simp only [does]
          go_simp
          try first | exact S | exact ⟨vv, S⟩ | exact vv
        · clear hi
          refine step_of_g rfl rfl ?_
          intro u G w hf S
          have f31 : u 31 = (.bool false) := hf 31 (by simp)
          have f33 : u 33 = .pointer (some ⟨gx, 2, none⟩) := hf 33 (by simp)
          simp only [resOf, spec, RSpec.resAt, z0, z1, z2, z3, z4, z5, z6, z7, ptrBlk] at S ⊢
          simp only [f31, f33]
          refine ⟨rfl, ?_⟩
          refine does_load1 5 (.tmp 64) _ _ rfl (KC2.out _ _ w (S.bs (v := .slice (some ⟨gx, 0, none⟩) X.length cx) pk)) _ Tryd.underlying5 rfl ?_; exact ⟨rfl, S⟩
        · clear hi
          refine step_of_g rfl rfl ?_
          intro u G w hf S
          have f31 : u 31 = (.bool false) := hf 31 (by simp)
          simp only [resOf, spec, RSpec.resAt, z0, z1, z2, z3, z4, z5, z6, z7, ptrBlk] at S ⊢
          simp only [f31]
          refine ⟨rfl, ?_⟩
          simp only [does]
          go_simp
          try first | exact S | exact ⟨vv, S⟩ | exact vv
        · clear hi
          refine step_of_g rfl rfl ?_
          intro u G w hf S
          have f31 : u 31 = (.bool false) := hf 31 (by simp)
          have f35 : u 35 = .pointer (some ⟨g3, 0, none⟩) := hf 35 (by simp)
          simp only [resOf, spec, RSpec.resAt, z0, z1, z2, z3, z4, z5, z6, z7, ptrBlk] at S ⊢
          simp only [f31, f35]
          refine ⟨rfl, ?_⟩
          refine does_load1 5 (.tmp 66) _ _ rfl (S.cell (g := g3) pk co) _ Tryd.underlying5 rfl ?_; exact ⟨rfl, S⟩
        · clear hi
          refine step_of_g rfl rfl ?_
          intro u G w hf S
          have f31 : u 31 = (.bool false) := hf 31 (by simp)
          have f34 : u 34 = by8 r.kind := hf 34 (by simp)
          have f36 : u 36 = by8 r.kind := hf 36 (by simp)
          simp only [resOf, spec, RSpec.resAt, z0, z1, z2, z3, z4, z5, z6, z7, ptrBlk] at S ⊢
          simp only [f31, f34, f36]
          refine ⟨rfl, ?_⟩
          simp only [does]
          go_simp
          try first | exact S | exact ⟨vv, S⟩ | exact vv
        · clear hi
          refine step_of rfl rfl rfl ?_
          intro u G w hf S
          have f31 : u 31 = (.bool false) := hf 31 (by simp)
          have f37 : u 37 = .bool false := hf 37 (by simp)
          simp only [resOf, spec, RSpec.resAt, z0, z1, z2, z3, z4, z5, z6, z7, ptrBlk] at S ⊢
          simp only [f31, f37]
          simp only [does]
          go_simp
          try first | exact S | exact ⟨vv, S⟩ | exact vv
        · clear hi
          refine step_of rfl rfl rfl ?_
          intro u G w hf S
          have f38 : u 38 = .bool false := hf 38 (by simp)
          simp only [resOf, spec, RSpec.resAt, z0, z1, z2, z3, z4, z5, z6, z7, ptrBlk] at S ⊢
          simp only [f38]
          simp only [does]
          go_simp
          try first | exact S | exact ⟨vv, S⟩ | exact vv
        · clear hi
          refine step_of_g rfl rfl ?_
          intro u G w hf S
          have f39 : u 39 = (.bool false) := hf 39 (by simp)
          simp only [resOf, spec, RSpec.resAt, z0, z1, z2, z3, z4, z5, z6, z7, ptrBlk] at S ⊢
          simp only [f39]
          refine ⟨rfl, ?_⟩
          simp only [does]
          go_simp
          try first | exact S | exact ⟨vv, S⟩ | exact vv
        · clear hi
          refine step_of_g rfl rfl ?_
          intro u G w hf S
          have f39 : u 39 = (.bool false) := hf 39 (by simp)
          have f40 : u 40 = (.slice (some ⟨gx, 0, none⟩) X.length cx) := hf 40 (by simp)
          simp only [resOf, spec, RSpec.resAt, z0, z1, z2, z3, z4, z5, z6, z7, ptrBlk] at S ⊢
          simp only [f39, f40]
          refine ⟨rfl, ?_⟩
          refine does_cutLH 25 5 1 (.tmp 71) _ _ (some ⟨gx, 0, none⟩) X.length cx _ _ _ _ 3 49 rfl rfl rfl rfl rfl (by decide) (by have := L49.out; have := HCX.out; omega) Tryd.underlying25 kR ?_; exact ⟨rfl, S⟩
        · clear hi
          refine step_of_g rfl rfl ?_
          intro u G w hf S
          have f39 : u 39 = (.bool false) := hf 39 (by simp)
          have f41 : u 41 = .slice (cutA (some ⟨gx, 0, none⟩) cx 3 1) 46 (cx - 3) := hf 41 (by simp)
          simp only [resOf, spec, RSpec.resAt, z0, z1, z2, z3, z4, z5, z6, z7, ptrBlk] at S ⊢
          simp only [f39, f41]
          refine ⟨rfl, ?_⟩
          refine does_conv 25 9 5 (.tmp 72) _ _ rfl Tryd.underlying25 Tryd.underlying5 Tryd.underlying9 (KE.out _ _ w (S.bs (v := .slice (some ⟨gx, 0, none⟩) X.length cx) pk)) ?_; exact ⟨rfl, S⟩
        · clear hi
          refine step_of_g rfl rfl ?_
          intro u G w hf S
          have f39 : u 39 = (.bool false) := hf 39 (by simp)
          simp only [resOf, spec, RSpec.resAt, z0, z1, z2, z3, z4, z5, z6, z7, ptrBlk] at S ⊢
          simp only [f39]
          refine ⟨rfl, ?_⟩
          simp only [does]
          go_simp
          try first | exact S | exact ⟨vv, S⟩ | exact vv
        · clear hi
          refine step_of_g rfl rfl ?_
          intro u G w hf S
          have f39 : u 39 = (.bool false) := hf 39 (by simp)
          have f43 : u 43 = .pointer (some ⟨g3, 1, none⟩) := hf 43 (by simp)
          simp only [resOf, spec, RSpec.resAt, z0, z1, z2, z3, z4, z5, z6, z7, ptrBlk] at S ⊢
          simp only [f39, f43]
          refine ⟨rfl, ?_⟩
          refine does_loadP S 67 (.tmp 74) _ _ rfl _ _ _ pk 36 _ pT lN _ Tryd.underlying67 rfl kR ?_; exact ⟨rfl, S⟩
        · clear hi
          refine step_of_g rfl rfl ?_
          intro u G w hf S
          have f39 : u 39 = (.bool false) := hf 39 (by simp)
          have f44 : u 44 = .agg (tokL r.tok).toArray := hf 44 (by simp)
          simp only [resOf, spec, RSpec.resAt, z0, z1, z2, z3, z4, z5, z6, z7, ptrBlk] at S ⊢
          simp only [f39, f44]
          refine ⟨rfl, ?_⟩
          refine does_fn (args := [(.agg (tokL r.tok).toArray)]) Tryd.func35 kR kR (PE.out w) rfl ?_
          rintro e w1 ⟨y, rfl, T⟩
          exact ⟨_, rfl, ⟨_, rfl⟩, S.call T⟩
        · clear hi
          refine step_of_g rfl rfl ?_
          intro u G w hf S
          have f39 : u 39 = (.bool false) := hf 39 (by simp)
          have f45 : ∃ y, u 45 = y := hf 45 (by simp)
          obtain ⟨y76, f45⟩ := f45
          simp only [resOf, spec, RSpec.resAt, z0, z1, z2, z3, z4, z5, z6, z7, ptrBlk] at S ⊢
          simp only [f39, f45] at S ⊢
          try simp only [ptrBlk] at S
          refine ⟨rfl, ?_⟩
          refine does_conv 25 9 5 (.tmp 76) y76 _ rfl Tryd.underlying25 Tryd.underlying5 Tryd.underlying9 (S.bs (v := y76) (xs := E) pk) ?_; exact ⟨rfl, S⟩
        · clear hi
          refine step_of_g rfl rfl ?_
          intro u G w hf S
          have f39 : u 39 = (.bool false) := hf 39 (by simp)
          have f42 : u 42 = .string (strB E) := hf 42 (by simp)
          have f45 : ∃ y, u 45 = y := hf 45 (by simp)
          obtain ⟨y76, f45⟩ := f45
          have f46 : u 46 = .string (strB E) := hf 46 (by simp)
          simp only [resOf, spec, RSpec.resAt, z0, z1, z2, z3, z4, z5, z6, z7, ptrBlk] at S ⊢
          simp only [f39, f42, f45, f46]
          refine ⟨rfl, ?_⟩
          simp only [does]
          go_simp
          try first | exact S | exact ⟨vv, S⟩ | exact vv
        · clear hi
          refine step_of rfl rfl rfl ?_
          intro u G w hf S
          have f39 : u 39 = (.bool false) := hf 39 (by simp)
          have f45 : ∃ y, u 45 = y := hf 45 (by simp)
          obtain ⟨y76, f45⟩ := f45
          have f47 : u 47 = .bool false := hf 47 (by simp)
          simp only [resOf, spec, RSpec.resAt, z0, z1, z2, z3, z4, z5, z6, z7, ptrBlk] at S ⊢
          simp only [f39, f45, f47]
          simp only [does]
          go_simp
          try first | exact S | exact ⟨vv, S⟩ | exact vv
      case fin1 =>
        intro u w hf S
        have f0 : u 0 = (.int .i64 0) := hf 0 (by simp)
        have f1 : u 1 = .bool false := hf 1 (by simp)
        have f2 : u 2 = (.bool false) := hf 2 (by simp)
        have f3 : u 3 = (.int .i64 0) := hf 3 (by simp)
        have f4 : u 4 = .bool false := hf 4 (by simp)
        have f5 : u 5 = .bool false := hf 5 (by simp)
        have f6 : u 6 = (.bool false) := hf 6 (by simp)
        have f7 : u 7 = .agg (rqL r).toArray := hf 7 (by simp)
        have f8 : u 8 = .agg (rqL r).toArray := hf 8 (by simp)
        have f9 : u 9 = .bool false := hf 9 (by simp)
        have f10 : u 10 = .bool false := hf 10 (by simp)
        have f11 : u 11 = (.bool false) := hf 11 (by simp)
        have f12 : u 12 = (.slice (some ⟨gx, 0, none⟩) X.length cx) := hf 12 (by simp)
        have f13 : u 13 = .int .i64 (X.length : Int) := hf 13 (by simp)
        have f14 : u 14 = .bool false := hf 14 (by simp)
        have f15 : u 15 = .bool false := hf 15 (by simp)
        have f16 : u 16 = (.bool false) := hf 16 (by simp)
        have f17 : u 17 = (.slice (some ⟨gx, 0, none⟩) X.length cx) := hf 17 (by simp)
        have f18 : u 18 = .pointer (some ⟨gx, 0, none⟩) := hf 18 (by simp)
        have f19 : u 19 = by8 x0 := hf 19 (by simp)
        have f20 : u 20 = .int .i64 (x0.toNat : Int) := hf 20 (by simp)
        have f21 : u 21 = .int .i64 (256 * (x0.toNat : Int)) := hf 21 (by simp)
        have f22 : u 22 = (.slice (some ⟨gx, 0, none⟩) X.length cx) := hf 22 (by simp)
        have f23 : u 23 = .pointer (some ⟨gx, 1, none⟩) := hf 23 (by simp)
        have f24 : u 24 = by8 x1 := hf 24 (by simp)
        have f25 : u 25 = .int .i64 (x1.toNat : Int) := hf 25 (by simp)
        have f26 : u 26 = .int .i64 (X.length : Int) := hf 26 (by simp)
        have f27 : u 27 = (.slice (some ⟨gx, 0, none⟩) X.length cx) := hf 27 (by simp)
        have f28 : u 28 = .int .i64 (X.length : Int) := hf 28 (by simp)
        have f29 : u 29 = .bool false := hf 29 (by simp)
        have f30 : u 30 = .bool false := hf 30 (by simp)
        have f31 : u 31 = (.bool false) := hf 31 (by simp)
        have f32 : u 32 = (.slice (some ⟨gx, 0, none⟩) X.length cx) := hf 32 (by simp)
        have f33 : u 33 = .pointer (some ⟨gx, 2, none⟩) := hf 33 (by simp)
        have f34 : u 34 = by8 r.kind := hf 34 (by simp)
        have f35 : u 35 = .pointer (some ⟨g3, 0, none⟩) := hf 35 (by simp)
        have f36 : u 36 = by8 r.kind := hf 36 (by simp)
        have f37 : u 37 = .bool false := hf 37 (by simp)
        have f38 : u 38 = .bool false := hf 38 (by simp)
        have f39 : u 39 = (.bool false) := hf 39 (by simp)
        have f40 : u 40 = (.slice (some ⟨gx, 0, none⟩) X.length cx) := hf 40 (by simp)
        have f41 : u 41 = .slice (cutA (some ⟨gx, 0, none⟩) cx 3 1) 46 (cx - 3) := hf 41 (by simp)
        have f42 : u 42 = .string (strB E) := hf 42 (by simp)
        have f43 : u 43 = .pointer (some ⟨g3, 1, none⟩) := hf 43 (by simp)
        have f44 : u 44 = .agg (tokL r.tok).toArray := hf 44 (by simp)
        have f45 : ∃ y, u 45 = y := hf 45 (by simp)
        obtain ⟨y76, f45⟩ := f45
        have f46 : u 46 = .string (strB E) := hf 46 (by simp)
        have f47 : u 47 = .bool false := hf 47 (by simp)
        have f48 : u 48 = .bool false := hf 48 (by simp)
        simp only [resOf, spec, RSpec.resAt, z0, z1, z2, z3, z4, z5, z6, z7, ptrBlk] at S
        clear hf
        simp only [List.length_cons, List.length_nil, Nat.zero_add, Nat.reduceAdd, List.drop_succ_cons, List.drop_zero, f0, f1, f2, f3, f4, f5, f6, f7, f8, f9, f10, f11, f12, f13, f14, f15, f16, f17, f18, f19, f20, f21, f22, f23, f24, f25, f26, f27, f28, f29, f30, f31, f32, f33, f34, f35, f36, f37, f38, f39, f40, f41, f42, f43, f44, f45, f46, f47, f48]
        try simp only [f0, f1, f2, f3, f4, f5, f6, f7, f8, f9, f10, f11, f12, f13, f14, f15, f16, f17, f18, f19, f20, f21, f22, f23, f24, f25, f26, f27, f28, f29, f30, f31, f32, f33, f34, f35, f36, f37, f38, f39, f40, f41, f42, f43, f44, f45, f46, f47, f48, ptrBlk] at S
        clear f0 f1 f2 f3 f4 f5 f6 f7 f8 f9 f10 f11 f12 f13 f14 f15 f16 f17 f18 f19 f20 f21 f22 f23 f24 f25 f26 f27 f28 f29 f30 f31 f32 f33 f34 f35 f36 f37 f38 f39 f40 f41 f42 f43 f44 f45 f46 f47 f48
        clear hne eg iL i256 iw0 iw1 n0 n1 n2 n1I n2I
        go_upto_if 84 with (first | ((with_reducible refine iD 3 (.box 69 (.tmp 0)) ?_); refine step_boxA (dst := some 3) S 69 (.tmp 0) _ rfl gw ?_; clear S; intro g3 w S) | ((with_reducible refine iO _ (.load 69 _) ?_); first | (refine step_load S 69 _ _ rfl _ _ _ pk _ Tryd.underlying69 rfl 40 kR lN gw ?_) | (refine step_loadO 69 _ _ rfl _ _ _ (S.old_heap (Hid.out (by assumption))) _ Tryd.underlying69 rfl 40 kR lN gw ?_) | (refine step_loadR 69 _ _ _ rfl _ (S.old_range hy) _ Tryd.underlying69 rfl 40 kR lN _ rfl gw ?_)) | ((with_reducible refine iD 10 (.alloc 69) ?_); refine step_alloc (dst := some 10) S 69 (.agg ((rqL rqZ).toArray)) ((rqL rqZ).toArray) kR rfl gw ?_; clear S; intro g10 w S) | ((with_reducible refine iO none (.store 69 (.tmp 10) (.tmp 29)) ?_); refine step_store S 69 (.tmp 10) (.tmp 29) _ _ rfl rfl _ _ pk 40 kR lN lN on1 gw ?_; clear S; intro w S) | ((with_reducible refine iO _ (.load 5 _) ?_); refine step_load1 5 _ _ _ rfl (cL) _ Tryd.underlying5 rfl gw ?_) | ((with_reducible refine iO _ (.slice 25 _ _ _ _) ?_); refine step_cutLH 25 5 1 _ _ _ _ _ _ _ _ _ _ 3 49 rfl rfl rfl (by first | rfl | omega) (by first | rfl | omega) (by first | (first | omega | assumption | (exact Hid.out (by assumption)) | (simp only [List.length_append, List.length_cons, List.length_nil]; omega)) | decide) (by first | (first | omega | assumption | (exact Hid.out (by assumption)) | (simp only [List.length_append, List.length_cons, List.length_nil]; omega)) | decide) Tryd.underlying25 kR gw ?_) | ((with_reducible refine iO _ (.convert 25 9 _) ?_); refine step_conv 25 9 5 _ _ _ rfl Tryd.underlying25 Tryd.underlying5 Tryd.underlying9 bS gw ?_) | ((with_reducible refine iO _ (.load 67 _) ?_); first | (refine step_loadR 67 _ _ _ rfl _ (S.old_range hy) _ Tryd.underlying67 rfl 36 kR lN _ rfl gw ?_) | (refine step_loadP S 67 _ _ _ rfl _ _ _ pk 36 _ pT lN _ Tryd.underlying67 rfl kR gw ?_)) | ((with_reducible refine iO _ (.slice 25 _ _ _ _) ?_); refine step_cutH 25 5 1 _ _ _ _ _ _ _ _ rfl rfl (by first | rfl | omega) (by first | (first | omega | assumption | (exact Hid.out (by assumption)) | (simp only [List.length_append, List.length_cons, List.length_nil]; omega)) | decide) Tryd.underlying25 kR gw ?_) | ((with_reducible refine iD 12 (.alloc 69) ?_); refine step_alloc (dst := some 12) S 69 (.agg ((rqL rqZ).toArray)) ((rqL rqZ).toArray) kR rfl gw ?_; clear S; intro g12 w S) | ((with_reducible refine iO none (.store 69 (.tmp 12) (.tmp 90)) ?_); refine step_store S 69 (.tmp 12) (.tmp 90) _ _ rfl rfl _ _ pk 40 kR lN lN on1 gw ?_; clear S; intro w S) | ((with_reducible refine iD 14 (.alloc 69) ?_); refine step_alloc (dst := some 14) S 69 (.agg ((rqL rqZ).toArray)) ((rqL rqZ).toArray) kR rfl gw ?_; clear S; intro g14 w S) | ((with_reducible refine iO none (.store 69 (.tmp 14) (.tmp 108)) ?_); refine step_store S 69 (.tmp 14) (.tmp 108) _ _ rfl rfl _ _ pk 40 kR lN lN on1 gw ?_; clear S; intro w S) | fail)
        by_cases hlt : n < X.length
        · have hltI : (n : Int) < (X.length : Int) := by omega
          have q4 := Q4.out hlt
          have pt := fun v w h => P2.out v (X.take n) w h (by rw [List.length_take]; omega)
          have hle : n ≤ X.length := by omega
          clear Q4
          by_cases h3 : n < 3
          · rw [if_pos h3] at q4
            rw [q4] at pt
            have h3I : (n : Int) < 3 := by omega
            clear q4 h3
            have PT := Lib.hid pt; have HLE := Lib.hid hle; clear pt hle
            clear hlt
            go_wp2_with (first | ((with_reducible refine iD 88 (.slice 25 (.tmp 86) _ _ _) ?_); refine step_cutH 25 5 1 (.tmp 86) _ (some ⟨gx, 0, none⟩) X.length cx .u8 _ n rfl rfl rfl (Nat.le_trans HLE.out HCX.out) Tryd.underlying25 kR gw ?_) | ((with_reducible refine iD 3 (.box 69 (.tmp 0)) ?_); refine step_boxA (dst := some 3) S 69 (.tmp 0) _ rfl gw ?_; clear S; intro g3 w S) | ((with_reducible refine iO _ (.load 69 _) ?_); first | (refine step_load S 69 _ _ rfl _ _ _ pk _ Tryd.underlying69 rfl 40 kR lN gw ?_) | (refine step_loadO 69 _ _ rfl _ _ _ (S.old_heap (Hid.out (by assumption))) _ Tryd.underlying69 rfl 40 kR lN gw ?_) | (refine step_loadR 69 _ _ _ rfl _ (S.old_range hy) _ Tryd.underlying69 rfl 40 kR lN _ rfl gw ?_)) | (go_at_call 34; (with_reducible refine (PT.out _ _ ((S.bs (v := .slice (some ⟨gx, 0, none⟩) X.length cx) (xs := X) pk).cutH n HLE.out rfl)).mono ?_); rintro e w1 ⟨rfl, T⟩; replace S := S.call T; clear T; (try simp only [z4, z5] at S)) | ((with_reducible refine iD 10 (.alloc 69) ?_); refine step_alloc (dst := some 10) S 69 (.agg ((rqL rqZ).toArray)) ((rqL rqZ).toArray) kR rfl gw ?_; clear S; intro g10 w S) | ((with_reducible refine iO none (.store 69 (.tmp 10) (.tmp 29)) ?_); refine step_store S 69 (.tmp 10) (.tmp 29) _ _ rfl rfl _ _ pk 40 kR lN lN on1 gw ?_; clear S; intro w S) | ((with_reducible refine iO _ (.load 5 _) ?_); refine step_load1 5 _ _ _ rfl (cL) _ Tryd.underlying5 rfl gw ?_) | ((with_reducible refine iO _ (.slice 25 _ _ _ _) ?_); refine step_cutLH 25 5 1 _ _ _ _ _ _ _ _ _ _ 3 49 rfl rfl rfl (by first | rfl | omega) (by first | rfl | omega) (by first | (first | omega | assumption | (exact Hid.out (by assumption)) | (simp only [List.length_append, List.length_cons, List.length_nil]; omega)) | decide) (by first | (first | omega | assumption | (exact Hid.out (by assumption)) | (simp only [List.length_append, List.length_cons, List.length_nil]; omega)) | decide) Tryd.underlying25 kR gw ?_) | ((with_reducible refine iO _ (.convert 25 9 _) ?_); refine step_conv 25 9 5 _ _ _ rfl Tryd.underlying25 Tryd.underlying5 Tryd.underlying9 bS gw ?_) | ((with_reducible refine iO _ (.load 67 _) ?_); first | (refine step_loadR 67 _ _ _ rfl _ (S.old_range hy) _ Tryd.underlying67 rfl 36 kR lN _ rfl gw ?_) | (refine step_loadP S 67 _ _ _ rfl _ _ _ pk 36 _ pT lN _ Tryd.underlying67 rfl kR gw ?_)) | ((with_reducible refine iD 12 (.alloc 69) ?_); refine step_alloc (dst := some 12) S 69 (.agg ((rqL rqZ).toArray)) ((rqL rqZ).toArray) kR rfl gw ?_; clear S; intro g12 w S) | ((with_reducible refine iO none (.store 69 (.tmp 12) (.tmp 90)) ?_); refine step_store S 69 (.tmp 12) (.tmp 90) _ _ rfl rfl _ _ pk 40 kR lN lN on1 gw ?_; clear S; intro w S) | ((with_reducible refine iD 14 (.alloc 69) ?_); refine step_alloc (dst := some 14) S 69 (.agg ((rqL rqZ).toArray)) ((rqL rqZ).toArray) kR rfl gw ?_; clear S; intro g14 w S) | ((with_reducible refine iO none (.store 69 (.tmp 14) (.tmp 108)) ?_); refine step_store S 69 (.tmp 14) (.tmp 108) _ _ rfl rfl _ _ pk 40 kR lN lN on1 gw ?_; clear S; intro w S) | fail)
            go_meet
            case rel => exact S.sub (by repeat (first | exact Sub.nil _ | refine Sub.cons pk ?_))
          · rw [if_neg h3] at q4
            rw [q4] at pt
            have h3I : ¬ (n : Int) < 3 := by omega
            clear q4 h3
            have PT := Lib.hid pt; have HLE := Lib.hid hle; clear pt hle
            clear hlt
            go_wp2_with (first | ((with_reducible refine iD 88 (.slice 25 (.tmp 86) _ _ _) ?_); refine step_cutH 25 5 1 (.tmp 86) _ (some ⟨gx, 0, none⟩) X.length cx .u8 _ n rfl rfl rfl (Nat.le_trans HLE.out HCX.out) Tryd.underlying25 kR gw ?_) | ((with_reducible refine iD 3 (.box 69 (.tmp 0)) ?_); refine step_boxA (dst := some 3) S 69 (.tmp 0) _ rfl gw ?_; clear S; intro g3 w S) | ((with_reducible refine iO _ (.load 69 _) ?_); first | (refine step_load S 69 _ _ rfl _ _ _ pk _ Tryd.underlying69 rfl 40 kR lN gw ?_) | (refine step_loadO 69 _ _ rfl _ _ _ (S.old_heap (Hid.out (by assumption))) _ Tryd.underlying69 rfl 40 kR lN gw ?_) | (refine step_loadR 69 _ _ _ rfl _ (S.old_range hy) _ Tryd.underlying69 rfl 40 kR lN _ rfl gw ?_)) | (go_at_call 34; (with_reducible refine (PT.out _ _ ((S.bs (v := .slice (some ⟨gx, 0, none⟩) X.length cx) (xs := X) pk).cutH n HLE.out rfl)).mono ?_); rintro e w1 ⟨rfl, T⟩; replace S := S.call T; clear T; (try simp only [z4, z5] at S)) | ((with_reducible refine iD 10 (.alloc 69) ?_); refine step_alloc (dst := some 10) S 69 (.agg ((rqL rqZ).toArray)) ((rqL rqZ).toArray) kR rfl gw ?_; clear S; intro g10 w S) | ((with_reducible refine iO none (.store 69 (.tmp 10) (.tmp 29)) ?_); refine step_store S 69 (.tmp 10) (.tmp 29) _ _ rfl rfl _ _ pk 40 kR lN lN on1 gw ?_; clear S; intro w S) | ((with_reducible refine iO _ (.load 5 _) ?_); refine step_load1 5 _ _ _ rfl (cL) _ Tryd.underlying5 rfl gw ?_) | ((with_reducible refine iO _ (.slice 25 _ _ _ _) ?_); refine step_cutLH 25 5 1 _ _ _ _ _ _ _ _ _ _ 3 49 rfl rfl rfl (by first | rfl | omega) (by first | rfl | omega) (by first | (first | omega | assumption | (exact Hid.out (by assumption)) | (simp only [List.length_append, List.length_cons, List.length_nil]; omega)) | decide) (by first | (first | omega | assumption | (exact Hid.out (by assumption)) | (simp only [List.length_append, List.length_cons, List.length_nil]; omega)) | decide) Tryd.underlying25 kR gw ?_) | ((with_reducible refine iO _ (.convert 25 9 _) ?_); refine step_conv 25 9 5 _ _ _ rfl Tryd.underlying25 Tryd.underlying5 Tryd.underlying9 bS gw ?_) | ((with_reducible refine iO _ (.load 67 _) ?_); first | (refine step_loadR 67 _ _ _ rfl _ (S.old_range hy) _ Tryd.underlying67 rfl 36 kR lN _ rfl gw ?_) | (refine step_loadP S 67 _ _ _ rfl _ _ _ pk 36 _ pT lN _ Tryd.underlying67 rfl kR gw ?_)) | ((with_reducible refine iD 12 (.alloc 69) ?_); refine step_alloc (dst := some 12) S 69 (.agg ((rqL rqZ).toArray)) ((rqL rqZ).toArray) kR rfl gw ?_; clear S; intro g12 w S) | ((with_reducible refine iO none (.store 69 (.tmp 12) (.tmp 90)) ?_); refine step_store S 69 (.tmp 12) (.tmp 90) _ _ rfl rfl _ _ pk 40 kR lN lN on1 gw ?_; clear S; intro w S) | ((with_reducible refine iD 14 (.alloc 69) ?_); refine step_alloc (dst := some 14) S 69 (.agg ((rqL rqZ).toArray)) ((rqL rqZ).toArray) kR rfl gw ?_; clear S; intro g14 w S) | ((with_reducible refine iO none (.store 69 (.tmp 14) (.tmp 108)) ?_); refine step_store S 69 (.tmp 14) (.tmp 108) _ _ rfl rfl _ _ pk 40 kR lN lN on1 gw ?_; clear S; intro w S) | fail)
            go_meet
            case rel => exact S.sub (by repeat (first | exact Sub.nil _ | refine Sub.cons pk ?_))
        · have hltI : ¬ (n : Int) < (X.length : Int) := by omega
          clear hlt Q4
          go_wp2
          go_meet
          case rel => exact S.sub (by repeat (first | exact Sub.nil _ | refine Sub.cons pk ?_))
  case rest =>
    clear S
    have S := hcut
    clear hcut P1 PV
    have pb := fun v w h => P2.out v b w h (by have := HL.out; omega)
    obtain ⟨R, hR⟩ : ∃ R, R = dcR b := ⟨_, rfl⟩
    have hbk := rb_back b
    have her := rb_err b
    rw [← hR] at pb hbk
    obtain ⟨DE, hDE⟩ : ∃ E, E = dcE b := ⟨_, rfl⟩
    rw [← hDE] at pb hbk her
    clear hR hDE P2
    by_cases h0 : DE = 0
    · subst h0
      obtain ⟨hv, he⟩ := hbk rfl
      have p3 := P3.out R
      have p4 := P4.out R
      rw [show rqE R = 0 from if_pos hv] at p3 p4
      rw [show encRE R = b from (if_pos hv).trans he] at p4
      clear hbk her hv he
      have PB := Lib.hid pb; have P3 := Lib.hid p3; have P4 := Lib.hid p4; clear pb p3 p4
      clear P5
      go_wp2_with (first | ((with_reducible refine iD 3 (.box 69 (.tmp 0)) ?_); refine step_boxA (dst := some 3) S 69 (.tmp 0) _ rfl gw ?_; clear S; intro g3 w S) | ((with_reducible refine iO _ (.load 69 _) ?_); first | (refine step_load S 69 _ _ rfl _ _ _ pk _ Tryd.underlying69 rfl 40 kR lN gw ?_) | (refine step_loadO 69 _ _ rfl _ _ _ (S.old_heap (Hid.out (by assumption))) _ Tryd.underlying69 rfl 40 kR lN gw ?_) | (refine step_loadR 69 _ _ _ rfl _ (S.old_range hy) _ Tryd.underlying69 rfl 40 kR lN _ rfl gw ?_)) | (go_at_call 32; (with_reducible refine (P4.out _).mono ?_); rintro e w1 ⟨v123, rfl, T⟩; replace S := S.call T; clear T; (try simp only [z4, z5] at S)) | (go_at_call 34; (with_reducible refine (PB.out _ _ (S.oldB H.out)).mono ?_); rintro e w1 ⟨rfl, T⟩; replace S := S.call T; clear T; (try simp only [z4, z5] at S)) | ((with_reducible refine iD 10 (.alloc 69) ?_); refine step_alloc (dst := some 10) S 69 (.agg ((rqL rqZ).toArray)) ((rqL rqZ).toArray) kR rfl gw ?_; clear S; intro g10 w S) | ((with_reducible refine iO none (.store 69 (.tmp 10) (.tmp 29)) ?_); refine step_store S 69 (.tmp 10) (.tmp 29) _ _ rfl rfl _ _ pk 40 kR lN lN on1 gw ?_; clear S; intro w S) | ((with_reducible refine iO _ (.load 5 _) ?_); refine step_load1 5 _ _ _ rfl (cL) _ Tryd.underlying5 rfl gw ?_) | ((with_reducible refine iO _ (.slice 25 _ _ _ _) ?_); refine step_cutLH 25 5 1 _ _ _ _ _ _ _ _ _ _ 3 49 rfl rfl rfl (by first | rfl | omega) (by first | rfl | omega) (by first | (first | omega | assumption | (exact Hid.out (by assumption)) | (simp only [List.length_append, List.length_cons, List.length_nil]; omega)) | decide) (by first | (first | omega | assumption | (exact Hid.out (by assumption)) | (simp only [List.length_append, List.length_cons, List.length_nil]; omega)) | decide) Tryd.underlying25 kR gw ?_) | ((with_reducible refine iO _ (.convert 25 9 _) ?_); refine step_conv 25 9 5 _ _ _ rfl Tryd.underlying25 Tryd.underlying5 Tryd.underlying9 bS gw ?_) | ((with_reducible refine iO _ (.load 67 _) ?_); first | (refine step_loadR 67 _ _ _ rfl _ (S.old_range hy) _ Tryd.underlying67 rfl 36 kR lN _ rfl gw ?_) | (refine step_loadP S 67 _ _ _ rfl _ _ _ pk 36 _ pT lN _ Tryd.underlying67 rfl kR gw ?_)) | ((with_reducible refine iO _ (.slice 25 _ _ _ _) ?_); refine step_cutH 25 5 1 _ _ _ _ _ _ _ _ rfl rfl (by first | rfl | omega) (by first | (first | omega | assumption | (exact Hid.out (by assumption)) | (simp only [List.length_append, List.length_cons, List.length_nil]; omega)) | decide) Tryd.underlying25 kR gw ?_) | ((with_reducible refine iD 12 (.alloc 69) ?_); refine step_alloc (dst := some 12) S 69 (.agg ((rqL rqZ).toArray)) ((rqL rqZ).toArray) kR rfl gw ?_; clear S; intro g12 w S) | ((with_reducible refine iO none (.store 69 (.tmp 12) (.tmp 90)) ?_); refine step_store S 69 (.tmp 12) (.tmp 90) _ _ rfl rfl _ _ pk 40 kR lN lN on1 gw ?_; clear S; intro w S) | ((with_reducible refine iD 14 (.alloc 69) ?_); refine step_alloc (dst := some 14) S 69 (.agg ((rqL rqZ).toArray)) ((rqL rqZ).toArray) kR rfl gw ?_; clear S; intro g14 w S) | ((with_reducible refine iO none (.store 69 (.tmp 14) (.tmp 108)) ?_); refine step_store S 69 (.tmp 14) (.tmp 108) _ _ rfl rfl _ _ pk 40 kR lN lN on1 gw ?_; clear S; intro w S) | (go_at_call 36; (with_reducible refine (P3.out _).mono ?_); rintro e w1 ⟨rfl, T⟩; replace S := S.call T; clear T; (try simp only [z4, z5] at S)) | fail)
      go_ret
      exact ⟨rfl, S.nil⟩
    · have her2 := her h0
      clear hbk her P3 P4 P5
      have PB := Lib.hid pb; clear pb
      rcases her2 with rfl | rfl
      · clear h0
        go_wp2_with (first | ((with_reducible refine iD 3 (.box 69 (.tmp 0)) ?_); refine step_boxA (dst := some 3) S 69 (.tmp 0) _ rfl gw ?_; clear S; intro g3 w S) | ((with_reducible refine iO _ (.load 69 _) ?_); first | (refine step_load S 69 _ _ rfl _ _ _ pk _ Tryd.underlying69 rfl 40 kR lN gw ?_) | (refine step_loadO 69 _ _ rfl _ _ _ (S.old_heap (Hid.out (by assumption))) _ Tryd.underlying69 rfl 40 kR lN gw ?_) | (refine step_loadR 69 _ _ _ rfl _ (S.old_range hy) _ Tryd.underlying69 rfl 40 kR lN _ rfl gw ?_)) | (go_at_call 34; (with_reducible refine (PB.out _ _ (S.oldB H.out)).mono ?_); rintro e w1 ⟨rfl, T⟩; replace S := S.call T; clear T; (try simp only [z4, z5] at S)) | ((with_reducible refine iD 10 (.alloc 69) ?_); refine step_alloc (dst := some 10) S 69 (.agg ((rqL rqZ).toArray)) ((rqL rqZ).toArray) kR rfl gw ?_; clear S; intro g10 w S) | ((with_reducible refine iO none (.store 69 (.tmp 10) (.tmp 29)) ?_); refine step_store S 69 (.tmp 10) (.tmp 29) _ _ rfl rfl _ _ pk 40 kR lN lN on1 gw ?_; clear S; intro w S) | ((with_reducible refine iO _ (.load 5 _) ?_); refine step_load1 5 _ _ _ rfl (cL) _ Tryd.underlying5 rfl gw ?_) | ((with_reducible refine iO _ (.slice 25 _ _ _ _) ?_); refine step_cutLH 25 5 1 _ _ _ _ _ _ _ _ _ _ 3 49 rfl rfl rfl (by first | rfl | omega) (by first | rfl | omega) (by first | (first | omega | assumption | (exact Hid.out (by assumption)) | (simp only [List.length_append, List.length_cons, List.length_nil]; omega)) | decide) (by first | (first | omega | assumption | (exact Hid.out (by assumption)) | (simp only [List.length_append, List.length_cons, List.length_nil]; omega)) | decide) Tryd.underlying25 kR gw ?_) | ((with_reducible refine iO _ (.convert 25 9 _) ?_); refine step_conv 25 9 5 _ _ _ rfl Tryd.underlying25 Tryd.underlying5 Tryd.underlying9 bS gw ?_) | ((with_reducible refine iO _ (.load 67 _) ?_); first | (refine step_loadR 67 _ _ _ rfl _ (S.old_range hy) _ Tryd.underlying67 rfl 36 kR lN _ rfl gw ?_) | (refine step_loadP S 67 _ _ _ rfl _ _ _ pk 36 _ pT lN _ Tryd.underlying67 rfl kR gw ?_)) | ((with_reducible refine iO _ (.slice 25 _ _ _ _) ?_); refine step_cutH 25 5 1 _ _ _ _ _ _ _ _ rfl rfl (by first | rfl | omega) (by first | (first | omega | assumption | (exact Hid.out (by assumption)) | (simp only [List.length_append, List.length_cons, List.length_nil]; omega)) | decide) Tryd.underlying25 kR gw ?_) | ((with_reducible refine iD 12 (.alloc 69) ?_); refine step_alloc (dst := some 12) S 69 (.agg ((rqL rqZ).toArray)) ((rqL rqZ).toArray) kR rfl gw ?_; clear S; intro g12 w S) | ((with_reducible refine iO none (.store 69 (.tmp 12) (.tmp 90)) ?_); refine step_store S 69 (.tmp 12) (.tmp 90) _ _ rfl rfl _ _ pk 40 kR lN lN on1 gw ?_; clear S; intro w S) | ((with_reducible refine iD 14 (.alloc 69) ?_); refine step_alloc (dst := some 14) S 69 (.agg ((rqL rqZ).toArray)) ((rqL rqZ).toArray) kR rfl gw ?_; clear S; intro g14 w S) | ((with_reducible refine iO none (.store 69 (.tmp 14) (.tmp 108)) ?_); refine step_store S 69 (.tmp 14) (.tmp 108) _ _ rfl rfl _ _ pk 40 kR lN lN on1 gw ?_; clear S; intro w S) | fail)
        go_ret
        exact ⟨rfl, S.nil⟩
      · clear h0
        go_wp2_with (first | ((with_reducible refine iD 3 (.box 69 (.tmp 0)) ?_); refine step_boxA (dst := some 3) S 69 (.tmp 0) _ rfl gw ?_; clear S; intro g3 w S) | ((with_reducible refine iO _ (.load 69 _) ?_); first | (refine step_load S 69 _ _ rfl _ _ _ pk _ Tryd.underlying69 rfl 40 kR lN gw ?_) | (refine step_loadO 69 _ _ rfl _ _ _ (S.old_heap (Hid.out (by assumption))) _ Tryd.underlying69 rfl 40 kR lN gw ?_) | (refine step_loadR 69 _ _ _ rfl _ (S.old_range hy) _ Tryd.underlying69 rfl 40 kR lN _ rfl gw ?_)) | (go_at_call 34; (with_reducible refine (PB.out _ _ (S.oldB H.out)).mono ?_); rintro e w1 ⟨rfl, T⟩; replace S := S.call T; clear T; (try simp only [z4, z5] at S)) | ((with_reducible refine iD 10 (.alloc 69) ?_); refine step_alloc (dst := some 10) S 69 (.agg ((rqL rqZ).toArray)) ((rqL rqZ).toArray) kR rfl gw ?_; clear S; intro g10 w S) | ((with_reducible refine iO none (.store 69 (.tmp 10) (.tmp 29)) ?_); refine step_store S 69 (.tmp 10) (.tmp 29) _ _ rfl rfl _ _ pk 40 kR lN lN on1 gw ?_; clear S; intro w S) | ((with_reducible refine iO _ (.load 5 _) ?_); refine step_load1 5 _ _ _ rfl (cL) _ Tryd.underlying5 rfl gw ?_) | ((with_reducible refine iO _ (.slice 25 _ _ _ _) ?_); refine step_cutLH 25 5 1 _ _ _ _ _ _ _ _ _ _ 3 49 rfl rfl rfl (by first | rfl | omega) (by first | rfl | omega) (by first | (first | omega | assumption | (exact Hid.out (by assumption)) | (simp only [List.length_append, List.length_cons, List.length_nil]; omega)) | decide) (by first | (first | omega | assumption | (exact Hid.out (by assumption)) | (simp only [List.length_append, List.length_cons, List.length_nil]; omega)) | decide) Tryd.underlying25 kR gw ?_) | ((with_reducible refine iO _ (.convert 25 9 _) ?_); refine step_conv 25 9 5 _ _ _ rfl Tryd.underlying25 Tryd.underlying5 Tryd.underlying9 bS gw ?_) | ((with_reducible refine iO _ (.load 67 _) ?_); first | (refine step_loadR 67 _ _ _ rfl _ (S.old_range hy) _ Tryd.underlying67 rfl 36 kR lN _ rfl gw ?_) | (refine step_loadP S 67 _ _ _ rfl _ _ _ pk 36 _ pT lN _ Tryd.underlying67 rfl kR gw ?_)) | ((with_reducible refine iO _ (.slice 25 _ _ _ _) ?_); refine step_cutH 25 5 1 _ _ _ _ _ _ _ _ rfl rfl (by first | rfl | omega) (by first | (first | omega | assumption | (exact Hid.out (by assumption)) | (simp only [List.length_append, List.length_cons, List.length_nil]; omega)) | decide) Tryd.underlying25 kR gw ?_) | ((with_reducible refine iD 12 (.alloc 69) ?_); refine step_alloc (dst := some 12) S 69 (.agg ((rqL rqZ).toArray)) ((rqL rqZ).toArray) kR rfl gw ?_; clear S; intro g12 w S) | ((with_reducible refine iO none (.store 69 (.tmp 12) (.tmp 90)) ?_); refine step_store S 69 (.tmp 12) (.tmp 90) _ _ rfl rfl _ _ pk 40 kR lN lN on1 gw ?_; clear S; intro w S) | ((with_reducible refine iD 14 (.alloc 69) ?_); refine step_alloc (dst := some 14) S 69 (.agg ((rqL rqZ).toArray)) ((rqL rqZ).toArray) kR rfl gw ?_; clear S; intro g14 w S) | ((with_reducible refine iO none (.store 69 (.tmp 14) (.tmp 108)) ?_); refine step_store S 69 (.tmp 14) (.tmp 108) _ _ rfl rfl _ _ pk 40 kR lN lN on1 gw ?_; clear S; intro w S) | fail)
        go_ret
        exact ⟨rfl, S.nil⟩
end Go.Proofs.YtfhkmmagpnojmaaDoor
