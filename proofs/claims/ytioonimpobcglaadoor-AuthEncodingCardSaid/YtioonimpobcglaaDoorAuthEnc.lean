/- AuthEncoding: decoding and encoding are inverse; its walk. No condition but the tables. -/
import Derived.Test.YtioonimpobcglaaDoorBd
import Derived.Test.YtioonimpobcglaaDoorAlv
import Derived.Test.YtioonimpobcglaaDoorTokD
set_option linter.unusedSimpArgs false
set_option linter.unusedVariables false
namespace Go.Proofs.YtioonimpobcglaaDoor
open Go.RowKit

theorem numB_add' (q : Nat) : ∀ (s n : Nat), numB (q * 256 ^ s + n) s = numB n s
  | 0, n => rfl
  | s + 1, n => by
    have h1 : q * 256 ^ (s + 1) + n = (q * 256) * 256 ^ s + n := by rw [Nat.pow_succ, Nat.mul_comm (256 ^ s) 256, Nat.mul_assoc]
    unfold numB
    rw [h1, numB_add' (q * 256) s n]
    congr 1
    rw [Nat.add_comm, Nat.add_mul_div_right _ _ (Nat.pos_of_ne_zero (by simp))]
    apply UInt8.toNat_inj.1
    rw [UInt8.toNat_ofNat', UInt8.toNat_ofNat']
    omega

theorem numB_val (ys : List UInt8) : numB (val ys) ys.length = ys := by
  induction ys with
  | nil => rfl
  | cons c ys ih =>
    have hlt := val_lt ys
    rw [val_cons]
    show UInt8.ofNat ((c.toNat * 256 ^ ys.length + val ys) / 256 ^ ys.length) :: numB (c.toNat * 256 ^ ys.length + val ys) ys.length = _
    rw [numB_add', ih, Nat.add_comm, Nat.add_mul_div_right _ _ (Nat.pos_of_ne_zero (by simp)), Nat.div_eq_of_lt hlt, Nat.zero_add]
    congr 1
    apply UInt8.toNat_inj.1
    rw [UInt8.toNat_ofNat']
    have := c.toNat_lt
    omega

theorem numB_val' (ys : List UInt8) (n : Nat) (h : ys.length = n) : numB (val ys) n = ys := by subst h; exact numB_val ys

theorem enc_parts (t : Tok) : encT t = t.tenant :: t.role :: (numB t.expiry.toNat 8 ++ (numB t.serial.toNat 4 ++ t.tag)) := by simp [encT, headT]

theorem decT_encT (t : Tok) : decT (encT t) = t := by
  unfold decT
  rw [dif_pos (encT_length t)]
  have e := enc_parts t
  have d2 : (encT t).drop 2 = numB t.expiry.toNat 8 ++ (numB t.serial.toNat 4 ++ t.tag) := by rw [e]; rfl
  have d10 : (encT t).drop 10 = numB t.serial.toNat 4 ++ t.tag := by
    rw [show (10 : Nat) = 2 + 8 from rfl, ← List.drop_drop, d2, List.drop_left' (numB_length _ _)]
  have d14 : (encT t).drop 14 = t.tag := by
    rw [show (14 : Nat) = 10 + 4 from rfl, ← List.drop_drop, d10, List.drop_left' (numB_length _ _)]
  have g0 : (encT t)[0]? = some t.tenant := by rw [e]; rfl
  have g1 : (encT t)[1]? = some t.role := by rw [e]; rfl
  apply Tok.ext'
  · exact (List.getElem?_eq_some_iff.1 g0).2
  · exact (List.getElem?_eq_some_iff.1 g1).2
  · show UInt64.ofNat (val (((encT t).drop 2).take 8)) = _
    rw [d2, List.take_left' (numB_length _ _), val_numB]
    apply UInt64.toNat_inj.1
    rw [UInt64.toNat_ofNat']
    have := t.expiry.toNat_lt
    omega
  · show UInt32.ofNat (val (((encT t).drop 10).take 4)) = _
    rw [d10, List.take_left' (numB_length _ _), val_numB]
    apply UInt32.toNat_inj.1
    rw [UInt32.toNat_ofNat']
    have := t.serial.toNat_lt
    omega
  · exact d14

theorem encT_decT (b : List UInt8) (h : b.length = 46) : encT (decT b) = b := by
  unfold decT
  rw [dif_pos h, enc_parts]
  match b, h with
  | x :: y :: r, h =>
    have hr : r.length = 44 := by simp at h; omega
    show x :: y :: (numB (UInt64.ofNat (val (r.take 8))).toNat 8 ++ (numB (UInt32.ofNat (val ((r.drop 8).take 4))).toNat 4 ++ r.drop 12)) = _
    have l8 : (r.take 8).length = 8 := by simp; omega
    have l4 : ((r.drop 8).take 4).length = 4 := by simp; omega
    have v8 := val_lt (r.take 8)
    have v4 := val_lt ((r.drop 8).take 4)
    rw [l8] at v8
    rw [l4] at v4
    rw [UInt64.toNat_ofNat', UInt32.toNat_ofNat', Nat.mod_eq_of_lt (by omega), Nat.mod_eq_of_lt (by omega), numB_val' _ 8 l8, numB_val' _ 4 l4]
    congr 2
    rw [show r.drop 12 = (r.drop 8).drop 4 by rw [List.drop_drop], List.take_append_drop, List.take_append_drop]

set_option maxRecDepth 100000 in
set_option maxHeartbeats 8000000 in
theorem authEncoding_walk (v1 : Value) (xs : List UInt8) (t : Tok) (w0 : World) (h1 : Bs w0 v1 xs) (hK : KT w0) (hP : PT w0) :
    Calls Tryd.prog 14 #[.agg (tokL t).toArray, v1] w0 fun e w' => e = .returned (.bool true) ∧ Has w0 w' [] := by
  have S := Has.start w0
  have p1 := fun w hK hP => alive_s w hK hP
  obtain ⟨a1, c1, rfl, k1, k2⟩ := Sl.shape h1
  unfold maxLen at k2
  have q1 := fun w => enc_s t w
  have q2 := fun v w h => dec_s v (encT t) w h
  rw [decT_encT t, show decE (encT t) = 0 from if_pos (encT_length t)] at q2
  have hel := encT_length t
  generalize encT t = X at q1 q2 hel
  have q3 := fun w h => dec_s (.slice a1 xs.length c1) xs w h
  have eg := eqGuardT
  have hn1 := fun w => neqT t t w
  simp only [decide_true, Bool.not_true] at hn1
  by_cases hl : xs.length = 46
  · rw [show decE xs = 0 from if_pos hl] at q3
    have q4 := fun w => enc_s (decT xs) w
    rw [encT_decT xs hl] at q4
    generalize decT xs = T1 at q3 q4
    have n1 : ((xs.length : Int) != 46) = false := by rw [hl]; rfl
    clear hl
    have H1 := Lib.hid h1; have HK := Lib.hid hK; have HP := Lib.hid hP; have P1 := Lib.hid p1; have Q1 := Lib.hid q1; have Q2 := Lib.hid q2; have Q3 := Lib.hid q3; have Q4 := Lib.hid q4; have HEL := Lib.hid hel; clear h1 hK hP p1 q1 q2 q3 q4 hel
    go_enter Tryd.func14, Tryd.ntmps14
    go_wp2_with (first | ((with_reducible show wpList _ _ _ (⟨some 2, .box 27 (.tmp 0), _, _, _, _⟩ :: _) _ _); refine step_boxA (dst := some 2) S 27 (.tmp 0) _ rfl gw ?_; clear S; intro g2 w S) | (go_at_call 31; (with_reducible refine (P1.out _ (S.kt (Hid.out (by assumption))) (S.pt HP.out)).mono ?_); rintro e w1 ⟨rfl, T⟩; replace S := S.call T; clear T; (try simp only [List.nil_append, List.cons_append] at S)) | ((with_reducible show wpList _ _ _ (⟨_, .load 27 _, _, _, _, _⟩ :: _) _ _); first | (refine step_load S 27 _ _ rfl _ _ _ pk _ Tryd.underlying27 rfl 36 (by kernel_rfl) (by first | rfl | (first | rfl | assumption | (exact Hid.out (by assumption)) | (exact tokL_size _) | (rw [arr8_size]; first | rfl | assumption | (exact Hid.out (by assumption)) | exact tokL_size _ | exact List.length_replicate ..) | (simp [arr8_size]; done))) gw ?_) | (refine step_loadO 27 _ _ rfl _ _ _ (S.old_heap (Hid.out (by assumption))) _ Tryd.underlying27 rfl 36 (by kernel_rfl) (by first | rfl | (first | rfl | assumption | (exact Hid.out (by assumption)) | (exact tokL_size _) | (rw [arr8_size]; first | rfl | assumption | (exact Hid.out (by assumption)) | exact tokL_size _ | exact List.length_replicate ..) | (simp [arr8_size]; done))) gw ?_) | (refine step_loadR 27 _ _ _ rfl _ (S.old_range hy) _ Tryd.underlying27 rfl 36 (by kernel_rfl) (by first | rfl | (first | rfl | assumption | (exact Hid.out (by assumption)) | (exact tokL_size _) | (rw [arr8_size]; first | rfl | assumption | (exact Hid.out (by assumption)) | exact tokL_size _ | exact List.length_replicate ..) | (simp [arr8_size]; done))) _ rfl gw ?_)) | (go_at_call 16; (with_reducible refine (Q1.out _).mono ?_); rintro e w1 ⟨v6, rfl, T⟩; replace S := S.call T; clear T; (try simp only [List.nil_append, List.cons_append] at S); obtain ⟨a6, c6, hv6, hc6, hm6⟩ := Sl.shape (S.bs (v := v6) (xs := X) pk); rw [HEL.out] at hv6 hc6; subst hv6) | (go_at_call 18; (with_reducible refine (Q2.out _ _ (S.bs (xs := X) pk)).mono ?_); rintro e w1 ⟨rfl, T⟩; replace S := S.call T; clear T; (try simp only [List.nil_append, List.cons_append] at S)) | (go_at_call 18; (with_reducible refine (Q3.out _ (S.oldB H1.out)).mono ?_); rintro e w1 ⟨rfl, T⟩; replace S := S.call T; clear T; (try simp only [List.nil_append, List.cons_append] at S)) | ((with_reducible show wpList _ _ _ (⟨some 7, .alloc 27, _, _, _, _⟩ :: _) _ _); refine step_alloc (dst := some 7) S 27 (.agg ((tokL tokZ).toArray)) ((tokL tokZ).toArray) (by kernel_rfl) rfl gw ?_; clear S; intro g7 w S) | ((with_reducible show wpList _ _ _ (⟨none, .store 27 (.tmp 7) (.tmp 17), _, _, _, _⟩ :: _) _ _); refine step_store S 27 (.tmp 7) (.tmp 17) _ _ rfl rfl _ _ pk 36 (by kernel_rfl) (by first | rfl | (first | rfl | assumption | (exact Hid.out (by assumption)) | (exact tokL_size _) | (rw [arr8_size]; first | rfl | assumption | (exact Hid.out (by assumption)) | exact tokL_size _ | exact List.length_replicate ..) | (simp [arr8_size]; done))) (by first | rfl | (first | rfl | assumption | (exact Hid.out (by assumption)) | (exact tokL_size _) | (rw [arr8_size]; first | rfl | assumption | (exact Hid.out (by assumption)) | exact tokL_size _ | exact List.length_replicate ..) | (simp [arr8_size]; done))) on1 gw ?_; clear S; intro w S) | ((with_reducible show wpList _ _ _ (⟨some 9, .alloc 27, _, _, _, _⟩ :: _) _ _); refine step_alloc (dst := some 9) S 27 (.agg ((tokL tokZ).toArray)) ((tokL tokZ).toArray) (by kernel_rfl) rfl gw ?_; clear S; intro g9 w S) | ((with_reducible show wpList _ _ _ (⟨none, .store 27 (.tmp 9) (.tmp 34), _, _, _, _⟩ :: _) _ _); refine step_store S 27 (.tmp 9) (.tmp 34) _ _ rfl rfl _ _ pk 36 (by kernel_rfl) (by first | rfl | (first | rfl | assumption | (exact Hid.out (by assumption)) | (exact tokL_size _) | (rw [arr8_size]; first | rfl | assumption | (exact Hid.out (by assumption)) | exact tokL_size _ | exact List.length_replicate ..) | (simp [arr8_size]; done))) (by first | rfl | (first | rfl | assumption | (exact Hid.out (by assumption)) | (exact tokL_size _) | (rw [arr8_size]; first | rfl | assumption | (exact Hid.out (by assumption)) | exact tokL_size _ | exact List.length_replicate ..) | (simp [arr8_size]; done))) on1 gw ?_; clear S; intro w S) | ((with_reducible show wpList _ _ _ (⟨some 46, .build 27 _, _, _, _, _⟩ :: _) _ _); refine step_buildZ 27 (.agg ((tokL tokZ).toArray)) (fun w => by kernel_rfl) gw ?_) | ((with_reducible show wpList _ _ _ (⟨_, .convert 22 9 _, _, _, _, _⟩ :: _) _ _); refine step_conv 22 9 5 _ _ _ rfl Tryd.underlying22 Tryd.underlying5 Tryd.underlying9 (by first | assumption | exact S.oldB (Hid.out (by assumption)) | exact Bs.mk0 _ _ | exact S.bs pk | exact S.bsr pk) gw ?_) | fail)
    refine wp_rely S [⟨[], [], [], fun _ v => v = (.bool true), fun _ v => []⟩, ⟨[0], [], [], fun _ v => v = ((.bool true)), fun _ v => []⟩, ⟨[0, 1], [], [], fun _ v => v = (.int .i64 0), fun _ v => []⟩, ⟨[0, 1, 2], [], [], fun _ v => v = .bool true, fun _ v => []⟩, ⟨[0, 1, 2, 3], [], [], fun _ v => v = .bool true, fun _ v => []⟩, ⟨[0, 1, 2, 3, 4], [], [], fun _ v => v = (.bool true), fun _ v => []⟩, ⟨[0, 1, 2, 3, 4, 5], [], [], fun _ v => v = .agg (tokL T1).toArray, fun _ v => []⟩, ⟨[0, 1, 2, 3, 4, 5, 6], [], [], fun _ v => True, fun _ v => [row8 v xs]⟩, ⟨[0, 1, 2, 3, 4, 5, 6, 7], [], [7], fun _ v => v = .string (strB xs), fun _ v => []⟩, ⟨[0, 1, 2, 3, 4, 5], [], [], fun _ v => v = (.slice a1 xs.length c1), fun _ v => []⟩, ⟨[0, 1, 2, 3, 4, 5, 9], [], [], fun _ v => v = .string (strB xs), fun _ v => []⟩, ⟨[0, 1, 2, 3, 4, 5, 6, 7, 8, 9, 10], [], [], fun _ v => v = .bool true, fun _ v => []⟩, ⟨[0, 1, 2, 3, 4, 5, 6, 7, 8, 9, 10, 11], [], [], fun _ v => v = .bool true, fun _ v => []⟩, ⟨[0, 1, 2, 3, 4, 5, 6, 7, 8, 9, 10, 11, 12], [], [], fun _ v => v = (.bool true), fun _ v => []⟩] ?A1 ?hA1 (by kernel_rfl) (by kernel_rfl) (by kernel_rfl) [0, 1, 2, 3, 4, 5, 6, 7, 8, 9, 10, 11, 12, 13] (by kernel_rfl) ?hok1 ?fin1
    case hA1 => intro u; simp only [putAll, List.length_cons, List.length_nil, Nat.zero_add, Nat.reduceAdd, dstAt, List.getElem?_toArray, List.getElem?_cons_zero, List.getElem?_cons_succ, Option.bind_some, Act.put, List.setIfInBounds_toArray, List.set_cons_zero, List.set_cons_succ]; rfl
    case hok1 =>
      intro i hi
      obtain rfl | rfl | rfl | rfl | rfl | rfl | rfl | rfl | rfl | rfl | rfl | rfl | rfl | rfl : i = 0 ∨ i = 1 ∨ i = 2 ∨ i = 3 ∨ i = 4 ∨ i = 5 ∨ i = 6 ∨ i = 7 ∨ i = 8 ∨ i = 9 ∨ i = 10 ∨ i = 11 ∨ i = 12 ∨ i = 13 := by simp only [List.length_cons, List.length_nil, Nat.zero_add, Nat.reduceAdd] at hi; omega
      · clear hi
        refine step_of rfl rfl rfl ?_
        intro u G w hf S
        simp only [resOf, spec, RSpec.resAt, z0, z1, z2, z3, z4, z5, z6, z7, ptrBlk] at S ⊢
        simp only [does]
        go_simp
        try first | exact S | exact ⟨vv, S⟩ | exact vv
      · clear hi
        refine step_of rfl rfl rfl ?_
        intro u G w hf S
        have f0 : u 0 = (.bool true) := hf 0 (by simp)
        simp only [resOf, spec, RSpec.resAt, z0, z1, z2, z3, z4, z5, z6, z7, ptrBlk] at S ⊢
        simp only [f0]
        simp only [does]
        go_simp
        try first | exact S | exact ⟨vv, S⟩ | exact vv
      · clear hi
        refine step_of_g rfl rfl ?_
        intro u G w hf S
        have f0 : u 0 = (.bool true) := hf 0 (by simp)
        have f1 : u 1 = ((.bool true)) := hf 1 (by simp)
        simp only [resOf, spec, RSpec.resAt, z0, z1, z2, z3, z4, z5, z6, z7, ptrBlk] at S ⊢
        simp only [f0, f1]
        refine ⟨rfl, ?_⟩
        simp only [does]
        go_simp
        try first | exact S | exact ⟨vv, S⟩ | exact vv
      · clear hi
        refine step_of_g rfl rfl ?_
        intro u G w hf S
        have f0 : u 0 = (.bool true) := hf 0 (by simp)
        have f1 : u 1 = ((.bool true)) := hf 1 (by simp)
        have f2 : u 2 = (.int .i64 0) := hf 2 (by simp)
        simp only [resOf, spec, RSpec.resAt, z0, z1, z2, z3, z4, z5, z6, z7, ptrBlk] at S ⊢
        simp only [f0, f1, f2]
        refine ⟨rfl, ?_⟩
        simp only [does]
        go_simp
        try first | exact S | exact ⟨vv, S⟩ | exact vv
      · clear hi
        refine step_of rfl rfl rfl ?_
        intro u G w hf S
        have f0 : u 0 = (.bool true) := hf 0 (by simp)
        have f1 : u 1 = ((.bool true)) := hf 1 (by simp)
        have f2 : u 2 = (.int .i64 0) := hf 2 (by simp)
        have f3 : u 3 = .bool true := hf 3 (by simp)
        simp only [resOf, spec, RSpec.resAt, z0, z1, z2, z3, z4, z5, z6, z7, ptrBlk] at S ⊢
        simp only [f0, f1, f2, f3]
        simp only [does]
        go_simp
        try first | exact S | exact ⟨vv, S⟩ | exact vv
      · clear hi
        refine step_of rfl rfl rfl ?_
        intro u G w hf S
        have f0 : u 0 = (.bool true) := hf 0 (by simp)
        have f1 : u 1 = ((.bool true)) := hf 1 (by simp)
        have f2 : u 2 = (.int .i64 0) := hf 2 (by simp)
        have f3 : u 3 = .bool true := hf 3 (by simp)
        have f4 : u 4 = .bool true := hf 4 (by simp)
        simp only [resOf, spec, RSpec.resAt, z0, z1, z2, z3, z4, z5, z6, z7, ptrBlk] at S ⊢
        simp only [f0, f1, f2, f3, f4]
        simp only [does]
        go_simp
        try first | exact S | exact ⟨vv, S⟩ | exact vv
      · clear hi
        refine step_of_g rfl rfl ?_
        intro u G w hf S
        have f0 : u 0 = (.bool true) := hf 0 (by simp)
        have f1 : u 1 = ((.bool true)) := hf 1 (by simp)
        have f2 : u 2 = (.int .i64 0) := hf 2 (by simp)
        have f3 : u 3 = .bool true := hf 3 (by simp)
        have f4 : u 4 = .bool true := hf 4 (by simp)
        have f5 : u 5 = (.bool true) := hf 5 (by simp)
        simp only [resOf, spec, RSpec.resAt, z0, z1, z2, z3, z4, z5, z6, z7, ptrBlk] at S ⊢
        simp only [f0, f1, f2, f3, f4, f5]
        refine ⟨rfl, ?_⟩
        refine does_load 27 (.tmp 9) g9 rfl _ _ _ (S.get (r := blk g9 _) pk) _ Tryd.underlying27 rfl 36 (by kernel_rfl) (by first | rfl | (first | rfl | assumption | (exact Hid.out (by assumption)) | (exact tokL_size _) | (rw [arr8_size]; first | rfl | assumption | (exact Hid.out (by assumption)) | exact tokL_size _ | exact List.length_replicate ..) | (simp [arr8_size]; done))) ?_; exact ⟨rfl, S⟩
      · clear hi
        refine step_of_g rfl rfl ?_
        intro u G w hf S
        have f0 : u 0 = (.bool true) := hf 0 (by simp)
        have f1 : u 1 = ((.bool true)) := hf 1 (by simp)
        have f2 : u 2 = (.int .i64 0) := hf 2 (by simp)
        have f3 : u 3 = .bool true := hf 3 (by simp)
        have f4 : u 4 = .bool true := hf 4 (by simp)
        have f5 : u 5 = (.bool true) := hf 5 (by simp)
        have f6 : u 6 = .agg (tokL T1).toArray := hf 6 (by simp)
        simp only [resOf, spec, RSpec.resAt, z0, z1, z2, z3, z4, z5, z6, z7, ptrBlk] at S ⊢
        simp only [f0, f1, f2, f3, f4, f5, f6]
        refine ⟨rfl, ?_⟩
        refine does_fn (args := [(.agg (tokL T1).toArray)]) Tryd.func16 (by kernel_rfl) (by kernel_rfl) (Q4.out w) rfl ?_
        rintro e w1 ⟨v, rfl, T⟩
        exact ⟨_, rfl, trivial, S.call T⟩
      · clear hi
        refine step_of_g rfl rfl ?_
        intro u G w hf S
        have f0 : u 0 = (.bool true) := hf 0 (by simp)
        have f1 : u 1 = ((.bool true)) := hf 1 (by simp)
        have f2 : u 2 = (.int .i64 0) := hf 2 (by simp)
        have f3 : u 3 = .bool true := hf 3 (by simp)
        have f4 : u 4 = .bool true := hf 4 (by simp)
        have f5 : u 5 = (.bool true) := hf 5 (by simp)
        have f6 : u 6 = .agg (tokL T1).toArray := hf 6 (by simp)
        simp only [resOf, spec, RSpec.resAt, z0, z1, z2, z3, z4, z5, z6, z7, ptrBlk] at S ⊢
        simp only [f0, f1, f2, f3, f4, f5, f6] at S ⊢
        try simp only [ptrBlk] at S
        refine ⟨rfl, ?_⟩
        refine does_conv 22 9 5 (.tmp 56) _ _ rfl Tryd.underlying22 Tryd.underlying5 Tryd.underlying9 (S.bs (v := u 7) pk) ?_; exact ⟨rfl, S⟩
      · clear hi
        refine step_of_g rfl rfl ?_
        intro u G w hf S
        have f0 : u 0 = (.bool true) := hf 0 (by simp)
        have f1 : u 1 = ((.bool true)) := hf 1 (by simp)
        have f2 : u 2 = (.int .i64 0) := hf 2 (by simp)
        have f3 : u 3 = .bool true := hf 3 (by simp)
        have f4 : u 4 = .bool true := hf 4 (by simp)
        have f5 : u 5 = (.bool true) := hf 5 (by simp)
        simp only [resOf, spec, RSpec.resAt, z0, z1, z2, z3, z4, z5, z6, z7, ptrBlk] at S ⊢
        simp only [f0, f1, f2, f3, f4, f5]
        refine ⟨rfl, ?_⟩
        simp only [does]
        go_simp
        try first | exact S | exact ⟨vv, S⟩ | exact vv
      · clear hi
        refine step_of_g rfl rfl ?_
        intro u G w hf S
        have f0 : u 0 = (.bool true) := hf 0 (by simp)
        have f1 : u 1 = ((.bool true)) := hf 1 (by simp)
        have f2 : u 2 = (.int .i64 0) := hf 2 (by simp)
        have f3 : u 3 = .bool true := hf 3 (by simp)
        have f4 : u 4 = .bool true := hf 4 (by simp)
        have f5 : u 5 = (.bool true) := hf 5 (by simp)
        have f9 : u 9 = (.slice a1 xs.length c1) := hf 9 (by simp)
        simp only [resOf, spec, RSpec.resAt, z0, z1, z2, z3, z4, z5, z6, z7, ptrBlk] at S ⊢
        simp only [f0, f1, f2, f3, f4, f5, f9]
        refine ⟨rfl, ?_⟩
        refine does_conv 22 9 5 (.tmp 58) _ _ rfl Tryd.underlying22 Tryd.underlying5 Tryd.underlying9 (S.oldB H1.out) ?_; exact ⟨rfl, S⟩
      · clear hi
        refine step_of_g rfl rfl ?_
        intro u G w hf S
        have f0 : u 0 = (.bool true) := hf 0 (by simp)
        have f1 : u 1 = ((.bool true)) := hf 1 (by simp)
        have f2 : u 2 = (.int .i64 0) := hf 2 (by simp)
        have f3 : u 3 = .bool true := hf 3 (by simp)
        have f4 : u 4 = .bool true := hf 4 (by simp)
        have f5 : u 5 = (.bool true) := hf 5 (by simp)
        have f6 : u 6 = .agg (tokL T1).toArray := hf 6 (by simp)
        have f8 : u 8 = .string (strB xs) := hf 8 (by simp)
        have f9 : u 9 = (.slice a1 xs.length c1) := hf 9 (by simp)
        have f10 : u 10 = .string (strB xs) := hf 10 (by simp)
        simp only [resOf, spec, RSpec.resAt, z0, z1, z2, z3, z4, z5, z6, z7, ptrBlk] at S ⊢
        simp only [f0, f1, f2, f3, f4, f5, f6, f8, f9, f10]
        refine ⟨rfl, ?_⟩
        simp only [does]
        go_simp
        try first | exact S | exact ⟨vv, S⟩ | exact vv
      · clear hi
        refine step_of rfl rfl rfl ?_
        intro u G w hf S
        have f0 : u 0 = (.bool true) := hf 0 (by simp)
        have f1 : u 1 = ((.bool true)) := hf 1 (by simp)
        have f2 : u 2 = (.int .i64 0) := hf 2 (by simp)
        have f3 : u 3 = .bool true := hf 3 (by simp)
        have f4 : u 4 = .bool true := hf 4 (by simp)
        have f5 : u 5 = (.bool true) := hf 5 (by simp)
        have f6 : u 6 = .agg (tokL T1).toArray := hf 6 (by simp)
        have f8 : u 8 = .string (strB xs) := hf 8 (by simp)
        have f9 : u 9 = (.slice a1 xs.length c1) := hf 9 (by simp)
        have f10 : u 10 = .string (strB xs) := hf 10 (by simp)
        have f11 : u 11 = .bool true := hf 11 (by simp)
        simp only [resOf, spec, RSpec.resAt, z0, z1, z2, z3, z4, z5, z6, z7, ptrBlk] at S ⊢
        simp only [f0, f1, f2, f3, f4, f5, f6, f8, f9, f10, f11]
        simp only [does]
        go_simp
        try first | exact S | exact ⟨vv, S⟩ | exact vv
      · clear hi
        refine step_of rfl rfl rfl ?_
        intro u G w hf S
        have f0 : u 0 = (.bool true) := hf 0 (by simp)
        have f1 : u 1 = ((.bool true)) := hf 1 (by simp)
        have f2 : u 2 = (.int .i64 0) := hf 2 (by simp)
        have f3 : u 3 = .bool true := hf 3 (by simp)
        have f4 : u 4 = .bool true := hf 4 (by simp)
        have f5 : u 5 = (.bool true) := hf 5 (by simp)
        have f6 : u 6 = .agg (tokL T1).toArray := hf 6 (by simp)
        have f8 : u 8 = .string (strB xs) := hf 8 (by simp)
        have f9 : u 9 = (.slice a1 xs.length c1) := hf 9 (by simp)
        have f10 : u 10 = .string (strB xs) := hf 10 (by simp)
        have f11 : u 11 = .bool true := hf 11 (by simp)
        have f12 : u 12 = .bool true := hf 12 (by simp)
        simp only [resOf, spec, RSpec.resAt, z0, z1, z2, z3, z4, z5, z6, z7, ptrBlk] at S ⊢
        simp only [f0, f1, f2, f3, f4, f5, f6, f8, f9, f10, f11, f12]
        simp only [does]
        go_simp
        try first | exact S | exact ⟨vv, S⟩ | exact vv
    case fin1 =>
      intro u w hf S
      have f0 : u 0 = (.bool true) := hf 0 (by simp)
      have f1 : u 1 = ((.bool true)) := hf 1 (by simp)
      have f2 : u 2 = (.int .i64 0) := hf 2 (by simp)
      have f3 : u 3 = .bool true := hf 3 (by simp)
      have f4 : u 4 = .bool true := hf 4 (by simp)
      have f5 : u 5 = (.bool true) := hf 5 (by simp)
      have f6 : u 6 = .agg (tokL T1).toArray := hf 6 (by simp)
      have f8 : u 8 = .string (strB xs) := hf 8 (by simp)
      have f9 : u 9 = (.slice a1 xs.length c1) := hf 9 (by simp)
      have f10 : u 10 = .string (strB xs) := hf 10 (by simp)
      have f11 : u 11 = .bool true := hf 11 (by simp)
      have f12 : u 12 = .bool true := hf 12 (by simp)
      have f13 : u 13 = (.bool true) := hf 13 (by simp)
      simp only [resOf, spec, RSpec.resAt, z0, z1, z2, z3, z4, z5, z6, z7, ptrBlk] at S
      clear hf
      simp only [List.length_cons, List.length_nil, Nat.zero_add, Nat.reduceAdd, List.drop_succ_cons, List.drop_zero, f0, f1, f2, f3, f4, f5, f6, f8, f9, f10, f11, f12, f13]
      try simp only [f0, f1, f2, f3, f4, f5, f6, f8, f9, f10, f11, f12, f13, ptrBlk] at S
      clear f0 f1 f2 f3 f4 f5 f6 f8 f9 f10 f11 f12 f13
      generalize u 7 = v56 at S ⊢
      go_wp2_with (first | ((with_reducible show wpList _ _ _ (⟨some 2, .box 27 (.tmp 0), _, _, _, _⟩ :: _) _ _); refine step_boxA (dst := some 2) S 27 (.tmp 0) _ rfl gw ?_; clear S; intro g2 w S) | ((with_reducible show wpList _ _ _ (⟨_, .load 27 _, _, _, _, _⟩ :: _) _ _); first | (refine step_load S 27 _ _ rfl _ _ _ pk _ Tryd.underlying27 rfl 36 (by kernel_rfl) (by first | rfl | (first | rfl | assumption | (exact Hid.out (by assumption)) | (exact tokL_size _) | (rw [arr8_size]; first | rfl | assumption | (exact Hid.out (by assumption)) | exact tokL_size _ | exact List.length_replicate ..) | (simp [arr8_size]; done))) gw ?_) | (refine step_loadO 27 _ _ rfl _ _ _ (S.old_heap (Hid.out (by assumption))) _ Tryd.underlying27 rfl 36 (by kernel_rfl) (by first | rfl | (first | rfl | assumption | (exact Hid.out (by assumption)) | (exact tokL_size _) | (rw [arr8_size]; first | rfl | assumption | (exact Hid.out (by assumption)) | exact tokL_size _ | exact List.length_replicate ..) | (simp [arr8_size]; done))) gw ?_) | (refine step_loadR 27 _ _ _ rfl _ (S.old_range hy) _ Tryd.underlying27 rfl 36 (by kernel_rfl) (by first | rfl | (first | rfl | assumption | (exact Hid.out (by assumption)) | (exact tokL_size _) | (rw [arr8_size]; first | rfl | assumption | (exact Hid.out (by assumption)) | exact tokL_size _ | exact List.length_replicate ..) | (simp [arr8_size]; done))) _ rfl gw ?_)) | ((with_reducible show wpList _ _ _ (⟨some 7, .alloc 27, _, _, _, _⟩ :: _) _ _); refine step_alloc (dst := some 7) S 27 (.agg ((tokL tokZ).toArray)) ((tokL tokZ).toArray) (by kernel_rfl) rfl gw ?_; clear S; intro g7 w S) | ((with_reducible show wpList _ _ _ (⟨none, .store 27 (.tmp 7) (.tmp 17), _, _, _, _⟩ :: _) _ _); refine step_store S 27 (.tmp 7) (.tmp 17) _ _ rfl rfl _ _ pk 36 (by kernel_rfl) (by first | rfl | (first | rfl | assumption | (exact Hid.out (by assumption)) | (exact tokL_size _) | (rw [arr8_size]; first | rfl | assumption | (exact Hid.out (by assumption)) | exact tokL_size _ | exact List.length_replicate ..) | (simp [arr8_size]; done))) (by first | rfl | (first | rfl | assumption | (exact Hid.out (by assumption)) | (exact tokL_size _) | (rw [arr8_size]; first | rfl | assumption | (exact Hid.out (by assumption)) | exact tokL_size _ | exact List.length_replicate ..) | (simp [arr8_size]; done))) on1 gw ?_; clear S; intro w S) | ((with_reducible show wpList _ _ _ (⟨some 9, .alloc 27, _, _, _, _⟩ :: _) _ _); refine step_alloc (dst := some 9) S 27 (.agg ((tokL tokZ).toArray)) ((tokL tokZ).toArray) (by kernel_rfl) rfl gw ?_; clear S; intro g9 w S) | ((with_reducible show wpList _ _ _ (⟨none, .store 27 (.tmp 9) (.tmp 34), _, _, _, _⟩ :: _) _ _); refine step_store S 27 (.tmp 9) (.tmp 34) _ _ rfl rfl _ _ pk 36 (by kernel_rfl) (by first | rfl | (first | rfl | assumption | (exact Hid.out (by assumption)) | (exact tokL_size _) | (rw [arr8_size]; first | rfl | assumption | (exact Hid.out (by assumption)) | exact tokL_size _ | exact List.length_replicate ..) | (simp [arr8_size]; done))) (by first | rfl | (first | rfl | assumption | (exact Hid.out (by assumption)) | (exact tokL_size _) | (rw [arr8_size]; first | rfl | assumption | (exact Hid.out (by assumption)) | exact tokL_size _ | exact List.length_replicate ..) | (simp [arr8_size]; done))) on1 gw ?_; clear S; intro w S) | ((with_reducible show wpList _ _ _ (⟨some 46, .build 27 _, _, _, _, _⟩ :: _) _ _); refine step_buildZ 27 (.agg ((tokL tokZ).toArray)) (fun w => by kernel_rfl) gw ?_) | ((with_reducible show wpList _ _ _ (⟨_, .convert 22 9 _, _, _, _, _⟩ :: _) _ _); refine step_conv 22 9 5 _ _ _ rfl Tryd.underlying22 Tryd.underlying5 Tryd.underlying9 (by first | assumption | exact S.oldB (Hid.out (by assumption)) | exact Bs.mk0 _ _ | exact S.bs pk | exact S.bsr pk) gw ?_) | fail)
      go_ret
      exact ⟨rfl, S.nil⟩
  · rw [show decE xs = 11 from if_neg hl, show decT xs = tokZ from dif_neg hl] at q3
    have hn2 := fun w => eqlT tokZ tokZ w
    simp only [decide_true] at hn2
    have n1 : ((xs.length : Int) != 46) = true := by simpa using (show ¬ (xs.length : Int) = 46 by omega)
    clear hl
    have H1 := Lib.hid h1; have HK := Lib.hid hK; have HP := Lib.hid hP; have P1 := Lib.hid p1; have Q1 := Lib.hid q1; have Q2 := Lib.hid q2; have Q3 := Lib.hid q3; have HEL := Lib.hid hel; clear h1 hK hP p1 q1 q2 q3 hel
    go_enter Tryd.func14, Tryd.ntmps14
    go_wp2_with (first | ((with_reducible show wpList _ _ _ (⟨some 2, .box 27 (.tmp 0), _, _, _, _⟩ :: _) _ _); refine step_boxA (dst := some 2) S 27 (.tmp 0) _ rfl gw ?_; clear S; intro g2 w S) | (go_at_call 31; (with_reducible refine (P1.out _ (S.kt (Hid.out (by assumption))) (S.pt HP.out)).mono ?_); rintro e w1 ⟨rfl, T⟩; replace S := S.call T; clear T; (try simp only [List.nil_append, List.cons_append] at S)) | ((with_reducible show wpList _ _ _ (⟨_, .load 27 _, _, _, _, _⟩ :: _) _ _); first | (refine step_load S 27 _ _ rfl _ _ _ pk _ Tryd.underlying27 rfl 36 (by kernel_rfl) (by first | rfl | (first | rfl | assumption | (exact Hid.out (by assumption)) | (exact tokL_size _) | (rw [arr8_size]; first | rfl | assumption | (exact Hid.out (by assumption)) | exact tokL_size _ | exact List.length_replicate ..) | (simp [arr8_size]; done))) gw ?_) | (refine step_loadO 27 _ _ rfl _ _ _ (S.old_heap (Hid.out (by assumption))) _ Tryd.underlying27 rfl 36 (by kernel_rfl) (by first | rfl | (first | rfl | assumption | (exact Hid.out (by assumption)) | (exact tokL_size _) | (rw [arr8_size]; first | rfl | assumption | (exact Hid.out (by assumption)) | exact tokL_size _ | exact List.length_replicate ..) | (simp [arr8_size]; done))) gw ?_) | (refine step_loadR 27 _ _ _ rfl _ (S.old_range hy) _ Tryd.underlying27 rfl 36 (by kernel_rfl) (by first | rfl | (first | rfl | assumption | (exact Hid.out (by assumption)) | (exact tokL_size _) | (rw [arr8_size]; first | rfl | assumption | (exact Hid.out (by assumption)) | exact tokL_size _ | exact List.length_replicate ..) | (simp [arr8_size]; done))) _ rfl gw ?_)) | (go_at_call 16; (with_reducible refine (Q1.out _).mono ?_); rintro e w1 ⟨v6, rfl, T⟩; replace S := S.call T; clear T; (try simp only [List.nil_append, List.cons_append] at S); obtain ⟨a6, c6, hv6, hc6, hm6⟩ := Sl.shape (S.bs (v := v6) (xs := X) pk); rw [HEL.out] at hv6 hc6; subst hv6) | (go_at_call 18; (with_reducible refine (Q2.out _ _ (S.bs (xs := X) pk)).mono ?_); rintro e w1 ⟨rfl, T⟩; replace S := S.call T; clear T; (try simp only [List.nil_append, List.cons_append] at S)) | (go_at_call 18; (with_reducible refine (Q3.out _ (S.oldB H1.out)).mono ?_); rintro e w1 ⟨rfl, T⟩; replace S := S.call T; clear T; (try simp only [List.nil_append, List.cons_append] at S)) | ((with_reducible show wpList _ _ _ (⟨some 7, .alloc 27, _, _, _, _⟩ :: _) _ _); refine step_alloc (dst := some 7) S 27 (.agg ((tokL tokZ).toArray)) ((tokL tokZ).toArray) (by kernel_rfl) rfl gw ?_; clear S; intro g7 w S) | ((with_reducible show wpList _ _ _ (⟨none, .store 27 (.tmp 7) (.tmp 17), _, _, _, _⟩ :: _) _ _); refine step_store S 27 (.tmp 7) (.tmp 17) _ _ rfl rfl _ _ pk 36 (by kernel_rfl) (by first | rfl | (first | rfl | assumption | (exact Hid.out (by assumption)) | (exact tokL_size _) | (rw [arr8_size]; first | rfl | assumption | (exact Hid.out (by assumption)) | exact tokL_size _ | exact List.length_replicate ..) | (simp [arr8_size]; done))) (by first | rfl | (first | rfl | assumption | (exact Hid.out (by assumption)) | (exact tokL_size _) | (rw [arr8_size]; first | rfl | assumption | (exact Hid.out (by assumption)) | exact tokL_size _ | exact List.length_replicate ..) | (simp [arr8_size]; done))) on1 gw ?_; clear S; intro w S) | ((with_reducible show wpList _ _ _ (⟨some 9, .alloc 27, _, _, _, _⟩ :: _) _ _); refine step_alloc (dst := some 9) S 27 (.agg ((tokL tokZ).toArray)) ((tokL tokZ).toArray) (by kernel_rfl) rfl gw ?_; clear S; intro g9 w S) | ((with_reducible show wpList _ _ _ (⟨none, .store 27 (.tmp 9) (.tmp 34), _, _, _, _⟩ :: _) _ _); refine step_store S 27 (.tmp 9) (.tmp 34) _ _ rfl rfl _ _ pk 36 (by kernel_rfl) (by first | rfl | (first | rfl | assumption | (exact Hid.out (by assumption)) | (exact tokL_size _) | (rw [arr8_size]; first | rfl | assumption | (exact Hid.out (by assumption)) | exact tokL_size _ | exact List.length_replicate ..) | (simp [arr8_size]; done))) (by first | rfl | (first | rfl | assumption | (exact Hid.out (by assumption)) | (exact tokL_size _) | (rw [arr8_size]; first | rfl | assumption | (exact Hid.out (by assumption)) | exact tokL_size _ | exact List.length_replicate ..) | (simp [arr8_size]; done))) on1 gw ?_; clear S; intro w S) | ((with_reducible show wpList _ _ _ (⟨some 46, .build 27 _, _, _, _, _⟩ :: _) _ _); refine step_buildZ 27 (.agg ((tokL tokZ).toArray)) (fun w => by kernel_rfl) gw ?_) | ((with_reducible show wpList _ _ _ (⟨_, .convert 22 9 _, _, _, _, _⟩ :: _) _ _); refine step_conv 22 9 5 _ _ _ rfl Tryd.underlying22 Tryd.underlying5 Tryd.underlying9 (by first | assumption | exact S.oldB (Hid.out (by assumption)) | exact Bs.mk0 _ _ | exact S.bs pk | exact S.bsr pk) gw ?_) | fail)
    go_ret
    exact ⟨rfl, S.nil⟩
end Go.Proofs.YtioonimpobcglaaDoor
