/- Authorize of the specification; AuthDecides. No condition but the tables and the reach. -/
import Derived.Test.YtioonimpobcglaaDoorBd
import Derived.Test.YtioonimpobcglaaDoorAuthz
import Derived.Test.YtioonimpobcglaaDoorTokS
import Derived.Test.YtioonimpobcglaaDoorPerm
import Derived.Test.YtioonimpobcglaaDoorBf
set_option linter.unusedSimpArgs false
set_option linter.unusedVariables false
namespace Go.Proofs.YtioonimpobcglaaDoor
open Go.RowKit

theorem entR_lt' (l : List Mnt) (n : Nat) (x : Mnt) (h : entR l n = some x) : 1 ≤ n ∧ n ≤ l.length ∧ l[n - 1]? = some x := by
  unfold entR at h
  split at h
  · cases h
  · exact ⟨by omega, by have := (List.getElem?_eq_some_iff.1 h).1; omega, h⟩

theorem auzT_2 (key : List UInt8) (tenant : Int) (t : Tok) (kind now : Nat) (o : Option Mnt) (h : ¬ (0 ≤ tenant ∧ tenant < 3 ∧ 1 ≤ kind ∧ kind ≤ 6 ∧ now ≤ 4611686018427387904 ∧ vkB key = true)) : auzT key tenant t kind now o = 2 := by
  unfold auzT; rw [if_pos h]

set_option maxRecDepth 100000 in
set_option maxHeartbeats 8000000 in
theorem refAuz_args (v0 v1 : Value) (l : List Mnt) (key : List UInt8) (tenant : Int) (t : Tok) (kind now : Nat) (w0 : World) (h1 : Rg w0 v0 l) (h2 : Bs w0 v1 key) (hc : chkR l = 0)
    (h : ¬ (0 ≤ tenant ∧ tenant < 3 ∧ 1 ≤ kind ∧ kind ≤ 6 ∧ now ≤ 4611686018427387904 ∧ vkB key = true)) :
    Calls Tryd.prog 30 #[v0, v1, .int .i64 tenant, .agg (tokL t).toArray, .int .u8 (kind : Int), .int .u64 (now : Int)] w0 fun e w' => e = .returned (.int .i64 2) ∧ Has w0 w' [] := by
  have S := Has.start w0
  obtain ⟨a0, c0, rfl, k1, k2⟩ := Sl.shape h1
  obtain ⟨a1, c1, rfl, k3, k4⟩ := Sl.shape h2
  unfold maxLen at k2 k4
  have p1 := fun v w h => refCheck_r v l w h
  have p2 := fun v w h => validKey_s v key w h
  rw [hc] at p1
  clear hc
  cases hv : vkB key with
  | true =>
    rw [hv] at h p2
    have hb : tenant < 0 ∨ 2 < tenant ∨ kind < 1 ∨ 6 < kind ∨ 4611686018427387904 < now := by
      by_cases h' : tenant < 0 ∨ 2 < tenant ∨ kind < 1 ∨ 6 < kind ∨ 4611686018427387904 < now
      · exact h'
      · exfalso; exact h ⟨by omega, by omega, by omega, by omega, by omega, rfl⟩
    have HBAD := Lib.hid hb
    clear h hv hb
    have H1 := Lib.hid h1; have H2 := Lib.hid h2; have P1 := Lib.hid p1; have P2 := Lib.hid p2; clear h1 h2 p1 p2
    go_enter Tryd.func30, Tryd.ntmps30
    go_wp2_with (first | ((with_reducible show wpList _ _ _ (⟨some 9, .box 27 (.tmp 3), _, _, _, _⟩ :: _) _ _); refine step_boxA (dst := some 9) S 27 (.tmp 3) _ rfl gw ?_; clear S; intro g9 w S) | (go_at_call 42; (with_reducible refine (P1.out _ _ (by first | assumption | exact S.old (Hid.out (by assumption)) | exact S.sl pk | exact S.sl_rd pk)).mono ?_); rintro e w1 ⟨rfl, T⟩; replace S := S.call T; clear T; (try simp only [List.nil_append, List.cons_append] at S)) | (go_at_call 49; (with_reducible refine (P2.out _ _ (S.oldB H2.out)).mono ?_); rintro e w1 ⟨rfl, T⟩; replace S := S.call T; clear T; (try simp only [List.nil_append, List.cons_append] at S)) | fail)
    all_goals first
      | (go_ret; exact ⟨rfl, S.nil⟩)
      | (exfalso; have := HBAD.out; omega)
  | false =>
    rw [hv] at p2
    clear h hv
    have H1 := Lib.hid h1; have H2 := Lib.hid h2; have P1 := Lib.hid p1; have P2 := Lib.hid p2; clear h1 h2 p1 p2
    go_enter Tryd.func30, Tryd.ntmps30
    go_wp2_with (first | ((with_reducible show wpList _ _ _ (⟨some 9, .box 27 (.tmp 3), _, _, _, _⟩ :: _) _ _); refine step_boxA (dst := some 9) S 27 (.tmp 3) _ rfl gw ?_; clear S; intro g9 w S) | (go_at_call 42; (with_reducible refine (P1.out _ _ (by first | assumption | exact S.old (Hid.out (by assumption)) | exact S.sl pk | exact S.sl_rd pk)).mono ?_); rintro e w1 ⟨rfl, T⟩; replace S := S.call T; clear T; (try simp only [List.nil_append, List.cons_append] at S)) | (go_at_call 49; (with_reducible refine (P2.out _ _ (S.oldB H2.out)).mono ?_); rintro e w1 ⟨rfl, T⟩; replace S := S.call T; clear T; (try simp only [List.nil_append, List.cons_append] at S)) | fail)
    all_goals (go_ret; exact ⟨rfl, S.nil⟩)

set_option maxRecDepth 100000 in
set_option maxHeartbeats 16000000 in
theorem refAuz_body (v0 v1 : Value) (l : List Mnt) (key : List UInt8) (tenant : Int) (t : Tok) (kind now : Nat) (w0 : World) (h1 : Rg w0 v0 l) (h2 : Bs w0 v1 key) (hc : chkR l = 0)
    (ht : -9223372036854775808 ≤ tenant ∧ tenant ≤ 9223372036854775807) (hkk : kind < 256) (ha : 0 ≤ tenant ∧ tenant < 3 ∧ 1 ≤ kind ∧ kind ≤ 6 ∧ now ≤ 4611686018427387904) (hv : vkB key = true) (E : Int) (hE : auzT key tenant t kind now (entR l t.serial.toNat) = E) :
    Calls Tryd.prog 30 #[v0, v1, .int .i64 tenant, .agg (tokL t).toArray, .int .u8 (kind : Int), .int .u64 (now : Int)] w0 fun e w' => e = .returned (.int .i64 E) ∧ Has w0 w' [] := by
  have S := Has.start w0
  have hlen := chkR_len l hc
  have hn4 : t.serial.toNat < 4294967296 := t.serial.toNat_lt
  have ht4 : t.tenant.toNat < 256 := t.tenant.toNat_lt
  have p1 := fun v w h => refCheck_r v l w h
  have p2 := fun v w h => validKey_s v key w h
  have p3 := fun v w h => signed_s v key t w h hv
  have eg := eqGuardT
  obtain ⟨T2, hT2⟩ : ∃ T2, T2 = sgT key t := ⟨_, rfl⟩
  rw [← hT2] at p3
  have he := fun w => neqT T2 t w
  unfold auzT at hE
  rw [if_neg (not_not_intro ⟨ha.1, ha.2.1, ha.2.2.1, ha.2.2.2.1, ha.2.2.2.2, hv⟩), ← hT2] at hE
  rw [hc] at p1
  rw [hv] at p2
  obtain ⟨j1, j2, j3, j4, j5⟩ := ha
  have i1 : ¬ tenant < 0 := by omega
  have i2 : ¬ (2 : Int) < tenant := by omega
  have i3 : ¬ (kind : Int) < 1 := by omega
  have i4 : ¬ (6 : Int) < (kind : Int) := by omega
  have i5 : ¬ (4611686018427387904 : Int) < (now : Int) := by omega
  clear j1 j2 j3 j4 j5 hc hT2
  have hw := IntWalk.i64_in (t.tenant.toNat : Int) (by omega)
  obtain ⟨a1, c1, rfl, k3, k4⟩ := Sl.shape h2
  unfold maxLen at k4
  by_cases hs : T2 = t
  · rw [if_neg (not_not_intro hs)] at hE
    rw [hs] at he p3
    simp only [decide_true, Bool.not_true] at he
    clear hs T2
    by_cases hte : (t.tenant.toNat : Int) = tenant
    · rw [if_neg (not_not_intro hte)] at hE
      have hte2 : ((t.tenant.toNat : Int) != tenant) = false := by rw [hte]; simp
      clear hte
      cases hent : entR l t.serial.toNat with
      | none =>
        rw [hent] at hE
        dsimp only at hE
        subst hE
        have hx : t.serial.toNat < 1 ∨ l.length < t.serial.toNat := by
          unfold entR at hent
          split at hent
          · omega
          · have := List.getElem?_eq_none_iff.1 hent; omega
        obtain ⟨a0, c0, rfl, k1, k2⟩ := Sl.shape h1
        unfold maxLen at k2
        have HX := Lib.hid hx
        clear hent hx
        have H1 := Lib.hid h1; have H2 := Lib.hid h2; have P1 := Lib.hid p1; have P2 := Lib.hid p2; have P3 := Lib.hid p3; clear h1 h2 p1 p2 p3
        go_enter Tryd.func30, Tryd.ntmps30
        go_wp2_with (first | ((with_reducible show wpList _ _ _ (⟨some 9, .box 27 (.tmp 3), _, _, _, _⟩ :: _) _ _); refine step_boxA (dst := some 9) S 27 (.tmp 3) _ rfl gw ?_; clear S; intro g9 w S) | (go_at_call 42; (with_reducible refine (P1.out _ _ (by first | assumption | exact S.old (Hid.out (by assumption)) | exact S.sl pk | exact S.sl_rd pk)).mono ?_); rintro e w1 ⟨rfl, T⟩; replace S := S.call T; clear T; (try simp only [List.nil_append, List.cons_append] at S)) | (go_at_call 49; (with_reducible refine (P2.out _ _ (S.oldB H2.out)).mono ?_); rintro e w1 ⟨rfl, T⟩; replace S := S.call T; clear T; (try simp only [List.nil_append, List.cons_append] at S)) | fail)
        refine wp_rely S [⟨[], [], [], fun _ v => v = (.slice a1 key.length c1), fun _ v => []⟩, ⟨[], [], [], fun _ v => v = .agg (tokL t).toArray, fun _ v => []⟩, ⟨[0, 1], [], [], fun _ v => v = .agg (tokL t).toArray, fun _ v => []⟩, ⟨[], [], [], fun _ v => v = .agg (tokL t).toArray, fun _ v => []⟩, ⟨[0, 1, 2, 3], [], [], fun _ v => v = .bool false, fun _ v => []⟩] ?A1 ?hA1 (by kernel_rfl) (by kernel_rfl) (by kernel_rfl) [0, 1, 2, 3, 4] (by kernel_rfl) ?hok1 ?fin1
        case hA1 => intro u; simp only [putAll, List.length_cons, List.length_nil, Nat.zero_add, Nat.reduceAdd, dstAt, List.getElem?_toArray, List.getElem?_cons_zero, List.getElem?_cons_succ, Option.bind_some, Act.put, List.setIfInBounds_toArray, List.set_cons_zero, List.set_cons_succ]; rfl
        case hok1 =>
          intro i hi
          obtain rfl | rfl | rfl | rfl | rfl : i = 0 ∨ i = 1 ∨ i = 2 ∨ i = 3 ∨ i = 4 := by simp only [List.length_cons, List.length_nil, Nat.zero_add, Nat.reduceAdd] at hi; omega
          · clear hi
            refine step_of rfl rfl rfl ?_
            intro u G w hf S
            simp only [resOf, spec, RSpec.resAt, z0, z1, z2, z3, z4, z5, z6, z7, ptrBlk] at S ⊢
            simp only [does]
            go_simp
            try first | exact S | exact ⟨vv, S⟩ | exact vv
          · clear hi
            refine step_of rfl rfl rfl ?_
            intro u G w hf S
            simp only [resOf, spec, RSpec.resAt, z0, z1, z2, z3, z4, z5, z6, z7, ptrBlk] at S ⊢
            refine does_load 27 (.tmp 9) g9 rfl _ _ _ (S.get (r := blk g9 _) pk) _ Tryd.underlying27 rfl 36 (by kernel_rfl) (by first | rfl | (first | rfl | assumption | (exact Hid.out (by assumption)) | (exact tokL_size _) | (rw [arr8_size]; first | rfl | assumption | (exact Hid.out (by assumption)) | exact tokL_size _ | exact List.length_replicate ..) | (simp [arr8_size]; done))) ?_; exact ⟨rfl, S⟩
          · clear hi
            refine step_of rfl rfl rfl ?_
            intro u G w hf S
            have f0 : u 0 = (.slice a1 key.length c1) := hf 0 (by simp)
            have f1 : u 1 = .agg (tokL t).toArray := hf 1 (by simp)
            simp only [resOf, spec, RSpec.resAt, z0, z1, z2, z3, z4, z5, z6, z7, ptrBlk] at S ⊢
            simp only [f0, f1]
            refine does_fn (args := [((.slice a1 key.length c1)), (.agg (tokL t).toArray)]) Tryd.func50 (by kernel_rfl) (by kernel_rfl) (P3.out _ w (S.oldB H2.out)) rfl ?_
            rintro e w1 ⟨rfl, T⟩
            exact ⟨_, rfl, rfl, S.call T⟩
          · clear hi
            refine step_of rfl rfl rfl ?_
            intro u G w hf S
            simp only [resOf, spec, RSpec.resAt, z0, z1, z2, z3, z4, z5, z6, z7, ptrBlk] at S ⊢
            refine does_load 27 (.tmp 9) g9 rfl _ _ _ (S.get (r := blk g9 _) pk) _ Tryd.underlying27 rfl 36 (by kernel_rfl) (by first | rfl | (first | rfl | assumption | (exact Hid.out (by assumption)) | (exact tokL_size _) | (rw [arr8_size]; first | rfl | assumption | (exact Hid.out (by assumption)) | exact tokL_size _ | exact List.length_replicate ..) | (simp [arr8_size]; done))) ?_; exact ⟨rfl, S⟩
          · clear hi
            refine step_of rfl rfl rfl ?_
            intro u G w hf S
            have f0 : u 0 = (.slice a1 key.length c1) := hf 0 (by simp)
            have f1 : u 1 = .agg (tokL t).toArray := hf 1 (by simp)
            have f2 : u 2 = .agg (tokL t).toArray := hf 2 (by simp)
            have f3 : u 3 = .agg (tokL t).toArray := hf 3 (by simp)
            simp only [resOf, spec, RSpec.resAt, z0, z1, z2, z3, z4, z5, z6, z7, ptrBlk] at S ⊢
            simp only [f0, f1, f2, f3]
            simp only [does]
            go_simp
            try first | exact S | exact ⟨vv, S⟩ | exact vv
        case fin1 =>
          intro u w hf S
          have f0 : u 0 = (.slice a1 key.length c1) := hf 0 (by simp)
          have f1 : u 1 = .agg (tokL t).toArray := hf 1 (by simp)
          have f2 : u 2 = .agg (tokL t).toArray := hf 2 (by simp)
          have f3 : u 3 = .agg (tokL t).toArray := hf 3 (by simp)
          have f4 : u 4 = .bool false := hf 4 (by simp)
          simp only [resOf, spec, RSpec.resAt, z0, z1, z2, z3, z4, z5, z6, z7, ptrBlk] at S
          clear hf
          simp only [List.length_cons, List.length_nil, Nat.zero_add, Nat.reduceAdd, List.drop_succ_cons, List.drop_zero, f0, f1, f2, f3, f4]
          clear f0 f1 f2 f3 f4
          go_wp2_with (first | ((with_reducible show wpList _ _ _ (⟨some 9, .box 27 (.tmp 3), _, _, _, _⟩ :: _) _ _); refine step_boxA (dst := some 9) S 27 (.tmp 3) _ rfl gw ?_; clear S; intro g9 w S) | ((with_reducible show wpList _ _ _ (⟨_, .load 27 _, _, _, _, _⟩ :: _) _ _); first | (refine step_load S 27 _ _ rfl _ _ _ pk _ Tryd.underlying27 rfl 36 (by kernel_rfl) (by first | rfl | (first | rfl | assumption | (exact Hid.out (by assumption)) | (exact tokL_size _) | (rw [arr8_size]; first | rfl | assumption | (exact Hid.out (by assumption)) | exact tokL_size _ | exact List.length_replicate ..) | (simp [arr8_size]; done))) gw ?_) | (refine step_loadO 27 _ _ rfl _ _ _ (S.old_heap (Hid.out (by assumption))) _ Tryd.underlying27 rfl 36 (by kernel_rfl) (by first | rfl | (first | rfl | assumption | (exact Hid.out (by assumption)) | (exact tokL_size _) | (rw [arr8_size]; first | rfl | assumption | (exact Hid.out (by assumption)) | exact tokL_size _ | exact List.length_replicate ..) | (simp [arr8_size]; done))) gw ?_) | (refine step_loadR 27 _ _ _ rfl _ (S.old_range hy) _ Tryd.underlying27 rfl 36 (by kernel_rfl) (by first | rfl | (first | rfl | assumption | (exact Hid.out (by assumption)) | (exact tokL_size _) | (rw [arr8_size]; first | rfl | assumption | (exact Hid.out (by assumption)) | exact tokL_size _ | exact List.length_replicate ..) | (simp [arr8_size]; done))) _ rfl gw ?_)) | ((with_reducible show wpList _ _ _ (⟨_, .load 5 _, _, _, _, _⟩ :: _) _ _); first | (refine step_load1 5 _ _ _ rfl (S.cell pk co) _ Tryd.underlying5 rfl gw ?_) | (refine step_load1 5 _ _ _ rfl (S.row_cell pk _ _ hyr) _ Tryd.underlying5 rfl gw ?_) | (refine step_load1 5 _ _ _ rfl (S.row_cellS pk _ _ hy) _ Tryd.underlying5 rfl gw ?_) | (refine step_load1 5 _ _ _ rfl (S.old_cell hy) _ Tryd.underlying5 rfl gw ?_)) | ((with_reducible show wpList _ _ _ (⟨_, .load 24 _, _, _, _, _⟩ :: _) _ _); first | (refine step_load1 24 _ _ _ rfl (S.cell pk co) _ Tryd.underlying24 rfl gw ?_) | (refine step_load1 24 _ _ _ rfl (S.row_cell pk _ _ hyr) _ Tryd.underlying24 rfl gw ?_) | (refine step_load1 24 _ _ _ rfl (S.row_cellS pk _ _ hy) _ Tryd.underlying24 rfl gw ?_) | (refine step_load1 24 _ _ _ rfl (S.old_cell hy) _ Tryd.underlying24 rfl gw ?_)) | ((with_reducible show wpList _ _ _ (⟨_, .load 58 _, _, _, _, _⟩ :: _) _ _); first | (refine step_loadR 58 _ _ _ rfl _ (S.old_range hy) _ Tryd.underlying58 rfl 3 (by kernel_rfl) (by first | rfl | (first | rfl | assumption | (exact Hid.out (by assumption)) | (exact tokL_size _) | (rw [arr8_size]; first | rfl | assumption | (exact Hid.out (by assumption)) | exact tokL_size _ | exact List.length_replicate ..) | (simp [arr8_size]; done))) _ rfl gw ?_) | (refine step_loadP S 58 _ _ _ rfl _ _ _ pk 3 _ (by (first | exact cellsH_st .. | assumption | rfl)) (by first | rfl | (first | rfl | assumption | (exact Hid.out (by assumption)) | (exact tokL_size _) | (rw [arr8_size]; first | rfl | assumption | (exact Hid.out (by assumption)) | exact tokL_size _ | exact List.length_replicate ..) | (simp [arr8_size]; done))) _ Tryd.underlying58 rfl (by kernel_rfl) gw ?_)) | ((with_reducible show wpList _ _ _ (⟨some 14, .alloc 58, _, _, _, _⟩ :: _) _ _); refine step_alloc (dst := some 14) S 58 (.agg ((mintL mintZ).toArray)) ((mintL mintZ).toArray) (by kernel_rfl) rfl gw ?_; clear S; intro g14 w S) | ((with_reducible show wpList _ _ _ (⟨none, .store 58 (.tmp 14) (.tmp 70), _, _, _, _⟩ :: _) _ _); refine step_store S 58 (.tmp 14) (.tmp 70) _ _ rfl rfl _ _ pk 3 (by kernel_rfl) (by first | rfl | (first | rfl | assumption | (exact Hid.out (by assumption)) | (exact tokL_size _) | (rw [arr8_size]; first | rfl | assumption | (exact Hid.out (by assumption)) | exact tokL_size _ | exact List.length_replicate ..) | (simp [arr8_size]; done))) (by first | rfl | (first | rfl | assumption | (exact Hid.out (by assumption)) | (exact tokL_size _) | (rw [arr8_size]; first | rfl | assumption | (exact Hid.out (by assumption)) | exact tokL_size _ | exact List.length_replicate ..) | (simp [arr8_size]; done))) on1 gw ?_; clear S; intro w S) | ((with_reducible show wpList _ _ _ (⟨_, .load 23 _, _, _, _, _⟩ :: _) _ _); first | (refine step_load1 23 _ _ _ rfl (S.cell pk co) _ Tryd.underlying23 rfl gw ?_) | (refine step_load1 23 _ _ _ rfl (S.row_cell pk _ _ hyr) _ Tryd.underlying23 rfl gw ?_) | (refine step_load1 23 _ _ _ rfl (S.row_cellS pk _ _ hy) _ Tryd.underlying23 rfl gw ?_) | (refine step_load1 23 _ _ _ rfl (S.old_cell hy) _ Tryd.underlying23 rfl gw ?_)) | ((with_reducible show wpList _ _ _ (⟨_, .load 4 _, _, _, _, _⟩ :: _) _ _); first | (refine step_load1 4 _ _ _ rfl (S.cell pk co) _ Tryd.underlying4 rfl gw ?_) | (refine step_load1 4 _ _ _ rfl (S.row_cell pk _ _ hyr) _ Tryd.underlying4 rfl gw ?_) | (refine step_load1 4 _ _ _ rfl (S.row_cellS pk _ _ hy) _ Tryd.underlying4 rfl gw ?_) | (refine step_load1 4 _ _ _ rfl (S.old_cell hy) _ Tryd.underlying4 rfl gw ?_)) | (go_at_call 28; (with_reducible refine (P4.out _).mono ?_); rintro e w1 ⟨rfl, T⟩; replace S := S.call T; clear T; (try simp only [List.nil_append, List.cons_append] at S)) | fail)
          all_goals first
            | (go_ret; exact ⟨rfl, S.nil⟩)
            | (exfalso; have := HX.out; omega)
      | some x =>
        rw [hent] at hE
        dsimp only at hE
        obtain ⟨e1, e2, hk⟩ := entR_lt' l _ x hent
        obtain ⟨k, hkk2⟩ : ∃ k, t.serial.toNat = k + 1 := ⟨t.serial.toNat - 1, by omega⟩
        rw [hkk2, Nat.add_sub_cancel] at hk
        have f1 : ¬ (t.serial.toNat : Int) < 1 := by omega
        have f2 : ¬ (l.length : Int) < (t.serial.toNat : Int) := by omega
        have f3 : IntKind.u32.wrap ((t.serial.toNat : Int) - 1) = (k : Int) := by rw [IntKind.wrap_u32]; omega
        have f4 : (k : Int) < (l.length : Int) := by omega
        have p4 := fun w => refPermits_s x.role.toNat kind w (by have := x.role.toNat_lt; omega) hkk
        obtain ⟨a0, c0, rfl, k1, k2⟩ := Sl.shape h1
        unfold maxLen at k2
        obtain ⟨b, off, rfl, hr, _⟩ := Rg.cells h1 k x hk
        generalize prmB x.role.toNat kind = PB at p4 hE
        clear e1 e2 hk hkk2 hent
        by_cases hre : x.role = t.role ∧ x.expiry = t.expiry
        · rw [if_neg (not_not_intro hre)] at hE
          have g1 : ((x.role.toNat : Int) != (t.role.toNat : Int)) = false := by rw [hre.1]; simp
          have g2 : ((x.expiry.toNat : Int) != (t.expiry.toNat : Int)) = false := by rw [hre.2]; simp
          clear hre
          cases hrv : x.revoked with
          | true =>
            rw [hrv, if_pos rfl] at hE
            subst hE
            have HX := Lib.hid trivial
            have H1 := Lib.hid h1; have H2 := Lib.hid h2; have P1 := Lib.hid p1; have P2 := Lib.hid p2; have P3 := Lib.hid p3; have P4 := Lib.hid p4; have HR := Lib.hid hr; clear h1 h2 p1 p2 p3 p4 hr
            go_enter Tryd.func30, Tryd.ntmps30
            go_wp2_with (first | ((with_reducible show wpList _ _ _ (⟨some 9, .box 27 (.tmp 3), _, _, _, _⟩ :: _) _ _); refine step_boxA (dst := some 9) S 27 (.tmp 3) _ rfl gw ?_; clear S; intro g9 w S) | (go_at_call 42; (with_reducible refine (P1.out _ _ (by first | assumption | exact S.old (Hid.out (by assumption)) | exact S.sl pk | exact S.sl_rd pk)).mono ?_); rintro e w1 ⟨rfl, T⟩; replace S := S.call T; clear T; (try simp only [List.nil_append, List.cons_append] at S)) | (go_at_call 49; (with_reducible refine (P2.out _ _ (S.oldB H2.out)).mono ?_); rintro e w1 ⟨rfl, T⟩; replace S := S.call T; clear T; (try simp only [List.nil_append, List.cons_append] at S)) | fail)
            refine wp_rely S [⟨[], [], [], fun _ v => v = (.slice a1 key.length c1), fun _ v => []⟩, ⟨[], [], [], fun _ v => v = .agg (tokL t).toArray, fun _ v => []⟩, ⟨[0, 1], [], [], fun _ v => v = .agg (tokL t).toArray, fun _ v => []⟩, ⟨[], [], [], fun _ v => v = .agg (tokL t).toArray, fun _ v => []⟩, ⟨[0, 1, 2, 3], [], [], fun _ v => v = .bool false, fun _ v => []⟩] ?A2 ?hA2 (by kernel_rfl) (by kernel_rfl) (by kernel_rfl) [0, 1, 2, 3, 4] (by kernel_rfl) ?hok2 ?fin2
            case hA2 => intro u; simp only [putAll, List.length_cons, List.length_nil, Nat.zero_add, Nat.reduceAdd, dstAt, List.getElem?_toArray, List.getElem?_cons_zero, List.getElem?_cons_succ, Option.bind_some, Act.put, List.setIfInBounds_toArray, List.set_cons_zero, List.set_cons_succ]; rfl
            case hok2 =>
              intro i hi
              obtain rfl | rfl | rfl | rfl | rfl : i = 0 ∨ i = 1 ∨ i = 2 ∨ i = 3 ∨ i = 4 := by simp only [List.length_cons, List.length_nil, Nat.zero_add, Nat.reduceAdd] at hi; omega
              · clear hi
                refine step_of rfl rfl rfl ?_
                intro u G w hf S
                simp only [resOf, spec, RSpec.resAt, z0, z1, z2, z3, z4, z5, z6, z7, ptrBlk] at S ⊢
                simp only [does]
                go_simp
                try first | exact S | exact ⟨vv, S⟩ | exact vv
              · clear hi
                refine step_of rfl rfl rfl ?_
                intro u G w hf S
                simp only [resOf, spec, RSpec.resAt, z0, z1, z2, z3, z4, z5, z6, z7, ptrBlk] at S ⊢
                refine does_load 27 (.tmp 9) g9 rfl _ _ _ (S.get (r := blk g9 _) pk) _ Tryd.underlying27 rfl 36 (by kernel_rfl) (by first | rfl | (first | rfl | assumption | (exact Hid.out (by assumption)) | (exact tokL_size _) | (rw [arr8_size]; first | rfl | assumption | (exact Hid.out (by assumption)) | exact tokL_size _ | exact List.length_replicate ..) | (simp [arr8_size]; done))) ?_; exact ⟨rfl, S⟩
              · clear hi
                refine step_of rfl rfl rfl ?_
                intro u G w hf S
                have f0 : u 0 = (.slice a1 key.length c1) := hf 0 (by simp)
                have f1 : u 1 = .agg (tokL t).toArray := hf 1 (by simp)
                simp only [resOf, spec, RSpec.resAt, z0, z1, z2, z3, z4, z5, z6, z7, ptrBlk] at S ⊢
                simp only [f0, f1]
                refine does_fn (args := [((.slice a1 key.length c1)), (.agg (tokL t).toArray)]) Tryd.func50 (by kernel_rfl) (by kernel_rfl) (P3.out _ w (S.oldB H2.out)) rfl ?_
                rintro e w1 ⟨rfl, T⟩
                exact ⟨_, rfl, rfl, S.call T⟩
              · clear hi
                refine step_of rfl rfl rfl ?_
                intro u G w hf S
                simp only [resOf, spec, RSpec.resAt, z0, z1, z2, z3, z4, z5, z6, z7, ptrBlk] at S ⊢
                refine does_load 27 (.tmp 9) g9 rfl _ _ _ (S.get (r := blk g9 _) pk) _ Tryd.underlying27 rfl 36 (by kernel_rfl) (by first | rfl | (first | rfl | assumption | (exact Hid.out (by assumption)) | (exact tokL_size _) | (rw [arr8_size]; first | rfl | assumption | (exact Hid.out (by assumption)) | exact tokL_size _ | exact List.length_replicate ..) | (simp [arr8_size]; done))) ?_; exact ⟨rfl, S⟩
              · clear hi
                refine step_of rfl rfl rfl ?_
                intro u G w hf S
                have f0 : u 0 = (.slice a1 key.length c1) := hf 0 (by simp)
                have f1 : u 1 = .agg (tokL t).toArray := hf 1 (by simp)
                have f2 : u 2 = .agg (tokL t).toArray := hf 2 (by simp)
                have f3 : u 3 = .agg (tokL t).toArray := hf 3 (by simp)
                simp only [resOf, spec, RSpec.resAt, z0, z1, z2, z3, z4, z5, z6, z7, ptrBlk] at S ⊢
                simp only [f0, f1, f2, f3]
                simp only [does]
                go_simp
                try first | exact S | exact ⟨vv, S⟩ | exact vv
            case fin2 =>
              intro u w hf S
              have f0 : u 0 = (.slice a1 key.length c1) := hf 0 (by simp)
              have f1 : u 1 = .agg (tokL t).toArray := hf 1 (by simp)
              have f2 : u 2 = .agg (tokL t).toArray := hf 2 (by simp)
              have f3 : u 3 = .agg (tokL t).toArray := hf 3 (by simp)
              have f4 : u 4 = .bool false := hf 4 (by simp)
              simp only [resOf, spec, RSpec.resAt, z0, z1, z2, z3, z4, z5, z6, z7, ptrBlk] at S
              clear hf
              simp only [List.length_cons, List.length_nil, Nat.zero_add, Nat.reduceAdd, List.drop_succ_cons, List.drop_zero, f0, f1, f2, f3, f4]
              clear f0 f1 f2 f3 f4
              go_wp2_with (first | ((with_reducible show wpList _ _ _ (⟨some 9, .box 27 (.tmp 3), _, _, _, _⟩ :: _) _ _); refine step_boxA (dst := some 9) S 27 (.tmp 3) _ rfl gw ?_; clear S; intro g9 w S) | ((with_reducible show wpList _ _ _ (⟨_, .load 27 _, _, _, _, _⟩ :: _) _ _); first | (refine step_load S 27 _ _ rfl _ _ _ pk _ Tryd.underlying27 rfl 36 (by kernel_rfl) (by first | rfl | (first | rfl | assumption | (exact Hid.out (by assumption)) | (exact tokL_size _) | (rw [arr8_size]; first | rfl | assumption | (exact Hid.out (by assumption)) | exact tokL_size _ | exact List.length_replicate ..) | (simp [arr8_size]; done))) gw ?_) | (refine step_loadO 27 _ _ rfl _ _ _ (S.old_heap (Hid.out (by assumption))) _ Tryd.underlying27 rfl 36 (by kernel_rfl) (by first | rfl | (first | rfl | assumption | (exact Hid.out (by assumption)) | (exact tokL_size _) | (rw [arr8_size]; first | rfl | assumption | (exact Hid.out (by assumption)) | exact tokL_size _ | exact List.length_replicate ..) | (simp [arr8_size]; done))) gw ?_) | (refine step_loadR 27 _ _ _ rfl _ (S.old_range hy) _ Tryd.underlying27 rfl 36 (by kernel_rfl) (by first | rfl | (first | rfl | assumption | (exact Hid.out (by assumption)) | (exact tokL_size _) | (rw [arr8_size]; first | rfl | assumption | (exact Hid.out (by assumption)) | exact tokL_size _ | exact List.length_replicate ..) | (simp [arr8_size]; done))) _ rfl gw ?_)) | ((with_reducible show wpList _ _ _ (⟨_, .load 5 _, _, _, _, _⟩ :: _) _ _); first | (refine step_load1 5 _ _ _ rfl (S.cell pk co) _ Tryd.underlying5 rfl gw ?_) | (refine step_load1 5 _ _ _ rfl (S.row_cell pk _ _ hyr) _ Tryd.underlying5 rfl gw ?_) | (refine step_load1 5 _ _ _ rfl (S.row_cellS pk _ _ hy) _ Tryd.underlying5 rfl gw ?_) | (refine step_load1 5 _ _ _ rfl (S.old_cell hy) _ Tryd.underlying5 rfl gw ?_)) | ((with_reducible show wpList _ _ _ (⟨_, .load 24 _, _, _, _, _⟩ :: _) _ _); first | (refine step_load1 24 _ _ _ rfl (S.cell pk co) _ Tryd.underlying24 rfl gw ?_) | (refine step_load1 24 _ _ _ rfl (S.row_cell pk _ _ hyr) _ Tryd.underlying24 rfl gw ?_) | (refine step_load1 24 _ _ _ rfl (S.row_cellS pk _ _ hy) _ Tryd.underlying24 rfl gw ?_) | (refine step_load1 24 _ _ _ rfl (S.old_cell hy) _ Tryd.underlying24 rfl gw ?_)) | ((with_reducible show wpList _ _ _ (⟨_, .load 58 _, _, _, _, _⟩ :: _) _ _); first | (refine step_loadR 58 _ _ _ rfl _ (S.old_range hy) _ Tryd.underlying58 rfl 3 (by kernel_rfl) (by first | rfl | (first | rfl | assumption | (exact Hid.out (by assumption)) | (exact tokL_size _) | (rw [arr8_size]; first | rfl | assumption | (exact Hid.out (by assumption)) | exact tokL_size _ | exact List.length_replicate ..) | (simp [arr8_size]; done))) _ rfl gw ?_) | (refine step_loadP S 58 _ _ _ rfl _ _ _ pk 3 _ (by (first | exact cellsH_st .. | assumption | rfl)) (by first | rfl | (first | rfl | assumption | (exact Hid.out (by assumption)) | (exact tokL_size _) | (rw [arr8_size]; first | rfl | assumption | (exact Hid.out (by assumption)) | exact tokL_size _ | exact List.length_replicate ..) | (simp [arr8_size]; done))) _ Tryd.underlying58 rfl (by kernel_rfl) gw ?_)) | ((with_reducible show wpList _ _ _ (⟨some 14, .alloc 58, _, _, _, _⟩ :: _) _ _); refine step_alloc (dst := some 14) S 58 (.agg ((mintL mintZ).toArray)) ((mintL mintZ).toArray) (by kernel_rfl) rfl gw ?_; clear S; intro g14 w S) | ((with_reducible show wpList _ _ _ (⟨none, .store 58 (.tmp 14) (.tmp 70), _, _, _, _⟩ :: _) _ _); refine step_store S 58 (.tmp 14) (.tmp 70) _ _ rfl rfl _ _ pk 3 (by kernel_rfl) (by first | rfl | (first | rfl | assumption | (exact Hid.out (by assumption)) | (exact tokL_size _) | (rw [arr8_size]; first | rfl | assumption | (exact Hid.out (by assumption)) | exact tokL_size _ | exact List.length_replicate ..) | (simp [arr8_size]; done))) (by first | rfl | (first | rfl | assumption | (exact Hid.out (by assumption)) | (exact tokL_size _) | (rw [arr8_size]; first | rfl | assumption | (exact Hid.out (by assumption)) | exact tokL_size _ | exact List.length_replicate ..) | (simp [arr8_size]; done))) on1 gw ?_; clear S; intro w S) | ((with_reducible show wpList _ _ _ (⟨_, .load 23 _, _, _, _, _⟩ :: _) _ _); first | (refine step_load1 23 _ _ _ rfl (S.cell pk co) _ Tryd.underlying23 rfl gw ?_) | (refine step_load1 23 _ _ _ rfl (S.row_cell pk _ _ hyr) _ Tryd.underlying23 rfl gw ?_) | (refine step_load1 23 _ _ _ rfl (S.row_cellS pk _ _ hy) _ Tryd.underlying23 rfl gw ?_) | (refine step_load1 23 _ _ _ rfl (S.old_cell hy) _ Tryd.underlying23 rfl gw ?_)) | ((with_reducible show wpList _ _ _ (⟨_, .load 4 _, _, _, _, _⟩ :: _) _ _); first | (refine step_load1 4 _ _ _ rfl (S.cell pk co) _ Tryd.underlying4 rfl gw ?_) | (refine step_load1 4 _ _ _ rfl (S.row_cell pk _ _ hyr) _ Tryd.underlying4 rfl gw ?_) | (refine step_load1 4 _ _ _ rfl (S.row_cellS pk _ _ hy) _ Tryd.underlying4 rfl gw ?_) | (refine step_load1 4 _ _ _ rfl (S.old_cell hy) _ Tryd.underlying4 rfl gw ?_)) | (go_at_call 28; (with_reducible refine (P4.out _).mono ?_); rintro e w1 ⟨rfl, T⟩; replace S := S.call T; clear T; (try simp only [List.nil_append, List.cons_append] at S)) | fail)
              all_goals first
                | (go_ret; exact ⟨rfl, S.nil⟩)
                | (exfalso; have q : x.revoked = false := (by assumption); rw [hrv] at q; cases q)
          | false =>
            rw [hrv, if_neg (by decide)] at hE
            by_cases hex : x.expiry.toNat ≤ now
            · rw [if_pos hex] at hE
              subst hE
              have g3 : (x.expiry.toNat : Int) ≤ (now : Int) := by omega
              clear hex
              have H1 := Lib.hid h1; have H2 := Lib.hid h2; have P1 := Lib.hid p1; have P2 := Lib.hid p2; have P3 := Lib.hid p3; have P4 := Lib.hid p4; have HR := Lib.hid hr; clear h1 h2 p1 p2 p3 p4 hr
              go_enter Tryd.func30, Tryd.ntmps30
              go_wp2_with (first | ((with_reducible show wpList _ _ _ (⟨some 9, .box 27 (.tmp 3), _, _, _, _⟩ :: _) _ _); refine step_boxA (dst := some 9) S 27 (.tmp 3) _ rfl gw ?_; clear S; intro g9 w S) | (go_at_call 42; (with_reducible refine (P1.out _ _ (by first | assumption | exact S.old (Hid.out (by assumption)) | exact S.sl pk | exact S.sl_rd pk)).mono ?_); rintro e w1 ⟨rfl, T⟩; replace S := S.call T; clear T; (try simp only [List.nil_append, List.cons_append] at S)) | (go_at_call 49; (with_reducible refine (P2.out _ _ (S.oldB H2.out)).mono ?_); rintro e w1 ⟨rfl, T⟩; replace S := S.call T; clear T; (try simp only [List.nil_append, List.cons_append] at S)) | fail)
              refine wp_rely S [⟨[], [], [], fun _ v => v = (.slice a1 key.length c1), fun _ v => []⟩, ⟨[], [], [], fun _ v => v = .agg (tokL t).toArray, fun _ v => []⟩, ⟨[0, 1], [], [], fun _ v => v = .agg (tokL t).toArray, fun _ v => []⟩, ⟨[], [], [], fun _ v => v = .agg (tokL t).toArray, fun _ v => []⟩, ⟨[0, 1, 2, 3], [], [], fun _ v => v = .bool false, fun _ v => []⟩] ?A3 ?hA3 (by kernel_rfl) (by kernel_rfl) (by kernel_rfl) [0, 1, 2, 3, 4] (by kernel_rfl) ?hok3 ?fin3
              case hA3 => intro u; simp only [putAll, List.length_cons, List.length_nil, Nat.zero_add, Nat.reduceAdd, dstAt, List.getElem?_toArray, List.getElem?_cons_zero, List.getElem?_cons_succ, Option.bind_some, Act.put, List.setIfInBounds_toArray, List.set_cons_zero, List.set_cons_succ]; rfl
              case hok3 =>
                intro i hi
                obtain rfl | rfl | rfl | rfl | rfl : i = 0 ∨ i = 1 ∨ i = 2 ∨ i = 3 ∨ i = 4 := by simp only [List.length_cons, List.length_nil, Nat.zero_add, Nat.reduceAdd] at hi; omega
                · clear hi
                  refine step_of rfl rfl rfl ?_
                  intro u G w hf S
                  simp only [resOf, spec, RSpec.resAt, z0, z1, z2, z3, z4, z5, z6, z7, ptrBlk] at S ⊢
                  simp only [does]
                  go_simp
                  try first | exact S | exact ⟨vv, S⟩ | exact vv
                · clear hi
                  refine step_of rfl rfl rfl ?_
                  intro u G w hf S
                  simp only [resOf, spec, RSpec.resAt, z0, z1, z2, z3, z4, z5, z6, z7, ptrBlk] at S ⊢
                  refine does_load 27 (.tmp 9) g9 rfl _ _ _ (S.get (r := blk g9 _) pk) _ Tryd.underlying27 rfl 36 (by kernel_rfl) (by first | rfl | (first | rfl | assumption | (exact Hid.out (by assumption)) | (exact tokL_size _) | (rw [arr8_size]; first | rfl | assumption | (exact Hid.out (by assumption)) | exact tokL_size _ | exact List.length_replicate ..) | (simp [arr8_size]; done))) ?_; exact ⟨rfl, S⟩
                · clear hi
                  refine step_of rfl rfl rfl ?_
                  intro u G w hf S
                  have f0 : u 0 = (.slice a1 key.length c1) := hf 0 (by simp)
                  have f1 : u 1 = .agg (tokL t).toArray := hf 1 (by simp)
                  simp only [resOf, spec, RSpec.resAt, z0, z1, z2, z3, z4, z5, z6, z7, ptrBlk] at S ⊢
                  simp only [f0, f1]
                  refine does_fn (args := [((.slice a1 key.length c1)), (.agg (tokL t).toArray)]) Tryd.func50 (by kernel_rfl) (by kernel_rfl) (P3.out _ w (S.oldB H2.out)) rfl ?_
                  rintro e w1 ⟨rfl, T⟩
                  exact ⟨_, rfl, rfl, S.call T⟩
                · clear hi
                  refine step_of rfl rfl rfl ?_
                  intro u G w hf S
                  simp only [resOf, spec, RSpec.resAt, z0, z1, z2, z3, z4, z5, z6, z7, ptrBlk] at S ⊢
                  refine does_load 27 (.tmp 9) g9 rfl _ _ _ (S.get (r := blk g9 _) pk) _ Tryd.underlying27 rfl 36 (by kernel_rfl) (by first | rfl | (first | rfl | assumption | (exact Hid.out (by assumption)) | (exact tokL_size _) | (rw [arr8_size]; first | rfl | assumption | (exact Hid.out (by assumption)) | exact tokL_size _ | exact List.length_replicate ..) | (simp [arr8_size]; done))) ?_; exact ⟨rfl, S⟩
                · clear hi
                  refine step_of rfl rfl rfl ?_
                  intro u G w hf S
                  have f0 : u 0 = (.slice a1 key.length c1) := hf 0 (by simp)
                  have f1 : u 1 = .agg (tokL t).toArray := hf 1 (by simp)
                  have f2 : u 2 = .agg (tokL t).toArray := hf 2 (by simp)
                  have f3 : u 3 = .agg (tokL t).toArray := hf 3 (by simp)
                  simp only [resOf, spec, RSpec.resAt, z0, z1, z2, z3, z4, z5, z6, z7, ptrBlk] at S ⊢
                  simp only [f0, f1, f2, f3]
                  simp only [does]
                  go_simp
                  try first | exact S | exact ⟨vv, S⟩ | exact vv
              case fin3 =>
                intro u w hf S
                have f0 : u 0 = (.slice a1 key.length c1) := hf 0 (by simp)
                have f1 : u 1 = .agg (tokL t).toArray := hf 1 (by simp)
                have f2 : u 2 = .agg (tokL t).toArray := hf 2 (by simp)
                have f3 : u 3 = .agg (tokL t).toArray := hf 3 (by simp)
                have f4 : u 4 = .bool false := hf 4 (by simp)
                simp only [resOf, spec, RSpec.resAt, z0, z1, z2, z3, z4, z5, z6, z7, ptrBlk] at S
                clear hf
                simp only [List.length_cons, List.length_nil, Nat.zero_add, Nat.reduceAdd, List.drop_succ_cons, List.drop_zero, f0, f1, f2, f3, f4]
                clear f0 f1 f2 f3 f4
                go_wp2_with (first | ((with_reducible show wpList _ _ _ (⟨some 9, .box 27 (.tmp 3), _, _, _, _⟩ :: _) _ _); refine step_boxA (dst := some 9) S 27 (.tmp 3) _ rfl gw ?_; clear S; intro g9 w S) | ((with_reducible show wpList _ _ _ (⟨_, .load 27 _, _, _, _, _⟩ :: _) _ _); first | (refine step_load S 27 _ _ rfl _ _ _ pk _ Tryd.underlying27 rfl 36 (by kernel_rfl) (by first | rfl | (first | rfl | assumption | (exact Hid.out (by assumption)) | (exact tokL_size _) | (rw [arr8_size]; first | rfl | assumption | (exact Hid.out (by assumption)) | exact tokL_size _ | exact List.length_replicate ..) | (simp [arr8_size]; done))) gw ?_) | (refine step_loadO 27 _ _ rfl _ _ _ (S.old_heap (Hid.out (by assumption))) _ Tryd.underlying27 rfl 36 (by kernel_rfl) (by first | rfl | (first | rfl | assumption | (exact Hid.out (by assumption)) | (exact tokL_size _) | (rw [arr8_size]; first | rfl | assumption | (exact Hid.out (by assumption)) | exact tokL_size _ | exact List.length_replicate ..) | (simp [arr8_size]; done))) gw ?_) | (refine step_loadR 27 _ _ _ rfl _ (S.old_range hy) _ Tryd.underlying27 rfl 36 (by kernel_rfl) (by first | rfl | (first | rfl | assumption | (exact Hid.out (by assumption)) | (exact tokL_size _) | (rw [arr8_size]; first | rfl | assumption | (exact Hid.out (by assumption)) | exact tokL_size _ | exact List.length_replicate ..) | (simp [arr8_size]; done))) _ rfl gw ?_)) | ((with_reducible show wpList _ _ _ (⟨_, .load 5 _, _, _, _, _⟩ :: _) _ _); first | (refine step_load1 5 _ _ _ rfl (S.cell pk co) _ Tryd.underlying5 rfl gw ?_) | (refine step_load1 5 _ _ _ rfl (S.row_cell pk _ _ hyr) _ Tryd.underlying5 rfl gw ?_) | (refine step_load1 5 _ _ _ rfl (S.row_cellS pk _ _ hy) _ Tryd.underlying5 rfl gw ?_) | (refine step_load1 5 _ _ _ rfl (S.old_cell hy) _ Tryd.underlying5 rfl gw ?_)) | ((with_reducible show wpList _ _ _ (⟨_, .load 24 _, _, _, _, _⟩ :: _) _ _); first | (refine step_load1 24 _ _ _ rfl (S.cell pk co) _ Tryd.underlying24 rfl gw ?_) | (refine step_load1 24 _ _ _ rfl (S.row_cell pk _ _ hyr) _ Tryd.underlying24 rfl gw ?_) | (refine step_load1 24 _ _ _ rfl (S.row_cellS pk _ _ hy) _ Tryd.underlying24 rfl gw ?_) | (refine step_load1 24 _ _ _ rfl (S.old_cell hy) _ Tryd.underlying24 rfl gw ?_)) | ((with_reducible show wpList _ _ _ (⟨_, .load 58 _, _, _, _, _⟩ :: _) _ _); first | (refine step_loadR 58 _ _ _ rfl _ (S.old_range hy) _ Tryd.underlying58 rfl 3 (by kernel_rfl) (by first | rfl | (first | rfl | assumption | (exact Hid.out (by assumption)) | (exact tokL_size _) | (rw [arr8_size]; first | rfl | assumption | (exact Hid.out (by assumption)) | exact tokL_size _ | exact List.length_replicate ..) | (simp [arr8_size]; done))) _ rfl gw ?_) | (refine step_loadP S 58 _ _ _ rfl _ _ _ pk 3 _ (by (first | exact cellsH_st .. | assumption | rfl)) (by first | rfl | (first | rfl | assumption | (exact Hid.out (by assumption)) | (exact tokL_size _) | (rw [arr8_size]; first | rfl | assumption | (exact Hid.out (by assumption)) | exact tokL_size _ | exact List.length_replicate ..) | (simp [arr8_size]; done))) _ Tryd.underlying58 rfl (by kernel_rfl) gw ?_)) | ((with_reducible show wpList _ _ _ (⟨some 14, .alloc 58, _, _, _, _⟩ :: _) _ _); refine step_alloc (dst := some 14) S 58 (.agg ((mintL mintZ).toArray)) ((mintL mintZ).toArray) (by kernel_rfl) rfl gw ?_; clear S; intro g14 w S) | ((with_reducible show wpList _ _ _ (⟨none, .store 58 (.tmp 14) (.tmp 70), _, _, _, _⟩ :: _) _ _); refine step_store S 58 (.tmp 14) (.tmp 70) _ _ rfl rfl _ _ pk 3 (by kernel_rfl) (by first | rfl | (first | rfl | assumption | (exact Hid.out (by assumption)) | (exact tokL_size _) | (rw [arr8_size]; first | rfl | assumption | (exact Hid.out (by assumption)) | exact tokL_size _ | exact List.length_replicate ..) | (simp [arr8_size]; done))) (by first | rfl | (first | rfl | assumption | (exact Hid.out (by assumption)) | (exact tokL_size _) | (rw [arr8_size]; first | rfl | assumption | (exact Hid.out (by assumption)) | exact tokL_size _ | exact List.length_replicate ..) | (simp [arr8_size]; done))) on1 gw ?_; clear S; intro w S) | ((with_reducible show wpList _ _ _ (⟨_, .load 23 _, _, _, _, _⟩ :: _) _ _); first | (refine step_load1 23 _ _ _ rfl (S.cell pk co) _ Tryd.underlying23 rfl gw ?_) | (refine step_load1 23 _ _ _ rfl (S.row_cell pk _ _ hyr) _ Tryd.underlying23 rfl gw ?_) | (refine step_load1 23 _ _ _ rfl (S.row_cellS pk _ _ hy) _ Tryd.underlying23 rfl gw ?_) | (refine step_load1 23 _ _ _ rfl (S.old_cell hy) _ Tryd.underlying23 rfl gw ?_)) | ((with_reducible show wpList _ _ _ (⟨_, .load 4 _, _, _, _, _⟩ :: _) _ _); first | (refine step_load1 4 _ _ _ rfl (S.cell pk co) _ Tryd.underlying4 rfl gw ?_) | (refine step_load1 4 _ _ _ rfl (S.row_cell pk _ _ hyr) _ Tryd.underlying4 rfl gw ?_) | (refine step_load1 4 _ _ _ rfl (S.row_cellS pk _ _ hy) _ Tryd.underlying4 rfl gw ?_) | (refine step_load1 4 _ _ _ rfl (S.old_cell hy) _ Tryd.underlying4 rfl gw ?_)) | (go_at_call 28; (with_reducible refine (P4.out _).mono ?_); rintro e w1 ⟨rfl, T⟩; replace S := S.call T; clear T; (try simp only [List.nil_append, List.cons_append] at S)) | fail)
                all_goals first
                  | (go_ret; exact ⟨rfl, S.nil⟩)
                  | (exfalso; have q : x.revoked = true := (by assumption); rw [hrv] at q; cases q)
            · rw [if_neg hex] at hE
              have g3 : ¬ (x.expiry.toNat : Int) ≤ (now : Int) := by omega
              clear hex
              cases PB with
              | false =>
                rw [if_pos rfl] at hE
                subst hE
                have H1 := Lib.hid h1; have H2 := Lib.hid h2; have P1 := Lib.hid p1; have P2 := Lib.hid p2; have P3 := Lib.hid p3; have P4 := Lib.hid p4; have HR := Lib.hid hr; clear h1 h2 p1 p2 p3 p4 hr
                go_enter Tryd.func30, Tryd.ntmps30
                go_wp2_with (first | ((with_reducible show wpList _ _ _ (⟨some 9, .box 27 (.tmp 3), _, _, _, _⟩ :: _) _ _); refine step_boxA (dst := some 9) S 27 (.tmp 3) _ rfl gw ?_; clear S; intro g9 w S) | (go_at_call 42; (with_reducible refine (P1.out _ _ (by first | assumption | exact S.old (Hid.out (by assumption)) | exact S.sl pk | exact S.sl_rd pk)).mono ?_); rintro e w1 ⟨rfl, T⟩; replace S := S.call T; clear T; (try simp only [List.nil_append, List.cons_append] at S)) | (go_at_call 49; (with_reducible refine (P2.out _ _ (S.oldB H2.out)).mono ?_); rintro e w1 ⟨rfl, T⟩; replace S := S.call T; clear T; (try simp only [List.nil_append, List.cons_append] at S)) | fail)
                refine wp_rely S [⟨[], [], [], fun _ v => v = (.slice a1 key.length c1), fun _ v => []⟩, ⟨[], [], [], fun _ v => v = .agg (tokL t).toArray, fun _ v => []⟩, ⟨[0, 1], [], [], fun _ v => v = .agg (tokL t).toArray, fun _ v => []⟩, ⟨[], [], [], fun _ v => v = .agg (tokL t).toArray, fun _ v => []⟩, ⟨[0, 1, 2, 3], [], [], fun _ v => v = .bool false, fun _ v => []⟩] ?A4 ?hA4 (by kernel_rfl) (by kernel_rfl) (by kernel_rfl) [0, 1, 2, 3, 4] (by kernel_rfl) ?hok4 ?fin4
                case hA4 => intro u; simp only [putAll, List.length_cons, List.length_nil, Nat.zero_add, Nat.reduceAdd, dstAt, List.getElem?_toArray, List.getElem?_cons_zero, List.getElem?_cons_succ, Option.bind_some, Act.put, List.setIfInBounds_toArray, List.set_cons_zero, List.set_cons_succ]; rfl
                case hok4 =>
                  intro i hi
                  obtain rfl | rfl | rfl | rfl | rfl : i = 0 ∨ i = 1 ∨ i = 2 ∨ i = 3 ∨ i = 4 := by simp only [List.length_cons, List.length_nil, Nat.zero_add, Nat.reduceAdd] at hi; omega
                  · clear hi
                    refine step_of rfl rfl rfl ?_
                    intro u G w hf S
                    simp only [resOf, spec, RSpec.resAt, z0, z1, z2, z3, z4, z5, z6, z7, ptrBlk] at S ⊢
                    simp only [does]
                    go_simp
                    try first | exact S | exact ⟨vv, S⟩ | exact vv
                  · clear hi
                    refine step_of rfl rfl rfl ?_
                    intro u G w hf S
                    simp only [resOf, spec, RSpec.resAt, z0, z1, z2, z3, z4, z5, z6, z7, ptrBlk] at S ⊢
                    refine does_load 27 (.tmp 9) g9 rfl _ _ _ (S.get (r := blk g9 _) pk) _ Tryd.underlying27 rfl 36 (by kernel_rfl) (by first | rfl | (first | rfl | assumption | (exact Hid.out (by assumption)) | (exact tokL_size _) | (rw [arr8_size]; first | rfl | assumption | (exact Hid.out (by assumption)) | exact tokL_size _ | exact List.length_replicate ..) | (simp [arr8_size]; done))) ?_; exact ⟨rfl, S⟩
                  · clear hi
                    refine step_of rfl rfl rfl ?_
                    intro u G w hf S
                    have f0 : u 0 = (.slice a1 key.length c1) := hf 0 (by simp)
                    have f1 : u 1 = .agg (tokL t).toArray := hf 1 (by simp)
                    simp only [resOf, spec, RSpec.resAt, z0, z1, z2, z3, z4, z5, z6, z7, ptrBlk] at S ⊢
                    simp only [f0, f1]
                    refine does_fn (args := [((.slice a1 key.length c1)), (.agg (tokL t).toArray)]) Tryd.func50 (by kernel_rfl) (by kernel_rfl) (P3.out _ w (S.oldB H2.out)) rfl ?_
                    rintro e w1 ⟨rfl, T⟩
                    exact ⟨_, rfl, rfl, S.call T⟩
                  · clear hi
                    refine step_of rfl rfl rfl ?_
                    intro u G w hf S
                    simp only [resOf, spec, RSpec.resAt, z0, z1, z2, z3, z4, z5, z6, z7, ptrBlk] at S ⊢
                    refine does_load 27 (.tmp 9) g9 rfl _ _ _ (S.get (r := blk g9 _) pk) _ Tryd.underlying27 rfl 36 (by kernel_rfl) (by first | rfl | (first | rfl | assumption | (exact Hid.out (by assumption)) | (exact tokL_size _) | (rw [arr8_size]; first | rfl | assumption | (exact Hid.out (by assumption)) | exact tokL_size _ | exact List.length_replicate ..) | (simp [arr8_size]; done))) ?_; exact ⟨rfl, S⟩
                  · clear hi
                    refine step_of rfl rfl rfl ?_
                    intro u G w hf S
                    have f0 : u 0 = (.slice a1 key.length c1) := hf 0 (by simp)
                    have f1 : u 1 = .agg (tokL t).toArray := hf 1 (by simp)
                    have f2 : u 2 = .agg (tokL t).toArray := hf 2 (by simp)
                    have f3 : u 3 = .agg (tokL t).toArray := hf 3 (by simp)
                    simp only [resOf, spec, RSpec.resAt, z0, z1, z2, z3, z4, z5, z6, z7, ptrBlk] at S ⊢
                    simp only [f0, f1, f2, f3]
                    simp only [does]
                    go_simp
                    try first | exact S | exact ⟨vv, S⟩ | exact vv
                case fin4 =>
                  intro u w hf S
                  have f0 : u 0 = (.slice a1 key.length c1) := hf 0 (by simp)
                  have f1 : u 1 = .agg (tokL t).toArray := hf 1 (by simp)
                  have f2 : u 2 = .agg (tokL t).toArray := hf 2 (by simp)
                  have f3 : u 3 = .agg (tokL t).toArray := hf 3 (by simp)
                  have f4 : u 4 = .bool false := hf 4 (by simp)
                  simp only [resOf, spec, RSpec.resAt, z0, z1, z2, z3, z4, z5, z6, z7, ptrBlk] at S
                  clear hf
                  simp only [List.length_cons, List.length_nil, Nat.zero_add, Nat.reduceAdd, List.drop_succ_cons, List.drop_zero, f0, f1, f2, f3, f4]
                  clear f0 f1 f2 f3 f4
                  go_wp2_with (first | ((with_reducible show wpList _ _ _ (⟨some 9, .box 27 (.tmp 3), _, _, _, _⟩ :: _) _ _); refine step_boxA (dst := some 9) S 27 (.tmp 3) _ rfl gw ?_; clear S; intro g9 w S) | ((with_reducible show wpList _ _ _ (⟨_, .load 27 _, _, _, _, _⟩ :: _) _ _); first | (refine step_load S 27 _ _ rfl _ _ _ pk _ Tryd.underlying27 rfl 36 (by kernel_rfl) (by first | rfl | (first | rfl | assumption | (exact Hid.out (by assumption)) | (exact tokL_size _) | (rw [arr8_size]; first | rfl | assumption | (exact Hid.out (by assumption)) | exact tokL_size _ | exact List.length_replicate ..) | (simp [arr8_size]; done))) gw ?_) | (refine step_loadO 27 _ _ rfl _ _ _ (S.old_heap (Hid.out (by assumption))) _ Tryd.underlying27 rfl 36 (by kernel_rfl) (by first | rfl | (first | rfl | assumption | (exact Hid.out (by assumption)) | (exact tokL_size _) | (rw [arr8_size]; first | rfl | assumption | (exact Hid.out (by assumption)) | exact tokL_size _ | exact List.length_replicate ..) | (simp [arr8_size]; done))) gw ?_) | (refine step_loadR 27 _ _ _ rfl _ (S.old_range hy) _ Tryd.underlying27 rfl 36 (by kernel_rfl) (by first | rfl | (first | rfl | assumption | (exact Hid.out (by assumption)) | (exact tokL_size _) | (rw [arr8_size]; first | rfl | assumption | (exact Hid.out (by assumption)) | exact tokL_size _ | exact List.length_replicate ..) | (simp [arr8_size]; done))) _ rfl gw ?_)) | ((with_reducible show wpList _ _ _ (⟨_, .load 5 _, _, _, _, _⟩ :: _) _ _); first | (refine step_load1 5 _ _ _ rfl (S.cell pk co) _ Tryd.underlying5 rfl gw ?_) | (refine step_load1 5 _ _ _ rfl (S.row_cell pk _ _ hyr) _ Tryd.underlying5 rfl gw ?_) | (refine step_load1 5 _ _ _ rfl (S.row_cellS pk _ _ hy) _ Tryd.underlying5 rfl gw ?_) | (refine step_load1 5 _ _ _ rfl (S.old_cell hy) _ Tryd.underlying5 rfl gw ?_)) | ((with_reducible show wpList _ _ _ (⟨_, .load 24 _, _, _, _, _⟩ :: _) _ _); first | (refine step_load1 24 _ _ _ rfl (S.cell pk co) _ Tryd.underlying24 rfl gw ?_) | (refine step_load1 24 _ _ _ rfl (S.row_cell pk _ _ hyr) _ Tryd.underlying24 rfl gw ?_) | (refine step_load1 24 _ _ _ rfl (S.row_cellS pk _ _ hy) _ Tryd.underlying24 rfl gw ?_) | (refine step_load1 24 _ _ _ rfl (S.old_cell hy) _ Tryd.underlying24 rfl gw ?_)) | ((with_reducible show wpList _ _ _ (⟨_, .load 58 _, _, _, _, _⟩ :: _) _ _); first | (refine step_loadR 58 _ _ _ rfl _ (S.old_range hy) _ Tryd.underlying58 rfl 3 (by kernel_rfl) (by first | rfl | (first | rfl | assumption | (exact Hid.out (by assumption)) | (exact tokL_size _) | (rw [arr8_size]; first | rfl | assumption | (exact Hid.out (by assumption)) | exact tokL_size _ | exact List.length_replicate ..) | (simp [arr8_size]; done))) _ rfl gw ?_) | (refine step_loadP S 58 _ _ _ rfl _ _ _ pk 3 _ (by (first | exact cellsH_st .. | assumption | rfl)) (by first | rfl | (first | rfl | assumption | (exact Hid.out (by assumption)) | (exact tokL_size _) | (rw [arr8_size]; first | rfl | assumption | (exact Hid.out (by assumption)) | exact tokL_size _ | exact List.length_replicate ..) | (simp [arr8_size]; done))) _ Tryd.underlying58 rfl (by kernel_rfl) gw ?_)) | ((with_reducible show wpList _ _ _ (⟨some 14, .alloc 58, _, _, _, _⟩ :: _) _ _); refine step_alloc (dst := some 14) S 58 (.agg ((mintL mintZ).toArray)) ((mintL mintZ).toArray) (by kernel_rfl) rfl gw ?_; clear S; intro g14 w S) | ((with_reducible show wpList _ _ _ (⟨none, .store 58 (.tmp 14) (.tmp 70), _, _, _, _⟩ :: _) _ _); refine step_store S 58 (.tmp 14) (.tmp 70) _ _ rfl rfl _ _ pk 3 (by kernel_rfl) (by first | rfl | (first | rfl | assumption | (exact Hid.out (by assumption)) | (exact tokL_size _) | (rw [arr8_size]; first | rfl | assumption | (exact Hid.out (by assumption)) | exact tokL_size _ | exact List.length_replicate ..) | (simp [arr8_size]; done))) (by first | rfl | (first | rfl | assumption | (exact Hid.out (by assumption)) | (exact tokL_size _) | (rw [arr8_size]; first | rfl | assumption | (exact Hid.out (by assumption)) | exact tokL_size _ | exact List.length_replicate ..) | (simp [arr8_size]; done))) on1 gw ?_; clear S; intro w S) | ((with_reducible show wpList _ _ _ (⟨_, .load 23 _, _, _, _, _⟩ :: _) _ _); first | (refine step_load1 23 _ _ _ rfl (S.cell pk co) _ Tryd.underlying23 rfl gw ?_) | (refine step_load1 23 _ _ _ rfl (S.row_cell pk _ _ hyr) _ Tryd.underlying23 rfl gw ?_) | (refine step_load1 23 _ _ _ rfl (S.row_cellS pk _ _ hy) _ Tryd.underlying23 rfl gw ?_) | (refine step_load1 23 _ _ _ rfl (S.old_cell hy) _ Tryd.underlying23 rfl gw ?_)) | ((with_reducible show wpList _ _ _ (⟨_, .load 4 _, _, _, _, _⟩ :: _) _ _); first | (refine step_load1 4 _ _ _ rfl (S.cell pk co) _ Tryd.underlying4 rfl gw ?_) | (refine step_load1 4 _ _ _ rfl (S.row_cell pk _ _ hyr) _ Tryd.underlying4 rfl gw ?_) | (refine step_load1 4 _ _ _ rfl (S.row_cellS pk _ _ hy) _ Tryd.underlying4 rfl gw ?_) | (refine step_load1 4 _ _ _ rfl (S.old_cell hy) _ Tryd.underlying4 rfl gw ?_)) | (go_at_call 28; (with_reducible refine (P4.out _).mono ?_); rintro e w1 ⟨rfl, T⟩; replace S := S.call T; clear T; (try simp only [List.nil_append, List.cons_append] at S)) | fail)
                  all_goals first
                    | (go_ret; exact ⟨rfl, S.nil⟩)
                    | (exfalso; have q : x.revoked = true := (by assumption); rw [hrv] at q; cases q)
              | true =>
                rw [if_neg (by decide)] at hE
                subst hE
                have H1 := Lib.hid h1; have H2 := Lib.hid h2; have P1 := Lib.hid p1; have P2 := Lib.hid p2; have P3 := Lib.hid p3; have P4 := Lib.hid p4; have HR := Lib.hid hr; clear h1 h2 p1 p2 p3 p4 hr
                go_enter Tryd.func30, Tryd.ntmps30
                go_wp2_with (first | ((with_reducible show wpList _ _ _ (⟨some 9, .box 27 (.tmp 3), _, _, _, _⟩ :: _) _ _); refine step_boxA (dst := some 9) S 27 (.tmp 3) _ rfl gw ?_; clear S; intro g9 w S) | (go_at_call 42; (with_reducible refine (P1.out _ _ (by first | assumption | exact S.old (Hid.out (by assumption)) | exact S.sl pk | exact S.sl_rd pk)).mono ?_); rintro e w1 ⟨rfl, T⟩; replace S := S.call T; clear T; (try simp only [List.nil_append, List.cons_append] at S)) | (go_at_call 49; (with_reducible refine (P2.out _ _ (S.oldB H2.out)).mono ?_); rintro e w1 ⟨rfl, T⟩; replace S := S.call T; clear T; (try simp only [List.nil_append, List.cons_append] at S)) | fail)
                refine wp_rely S [⟨[], [], [], fun _ v => v = (.slice a1 key.length c1), fun _ v => []⟩, ⟨[], [], [], fun _ v => v = .agg (tokL t).toArray, fun _ v => []⟩, ⟨[0, 1], [], [], fun _ v => v = .agg (tokL t).toArray, fun _ v => []⟩, ⟨[], [], [], fun _ v => v = .agg (tokL t).toArray, fun _ v => []⟩, ⟨[0, 1, 2, 3], [], [], fun _ v => v = .bool false, fun _ v => []⟩] ?A5 ?hA5 (by kernel_rfl) (by kernel_rfl) (by kernel_rfl) [0, 1, 2, 3, 4] (by kernel_rfl) ?hok5 ?fin5
                case hA5 => intro u; simp only [putAll, List.length_cons, List.length_nil, Nat.zero_add, Nat.reduceAdd, dstAt, List.getElem?_toArray, List.getElem?_cons_zero, List.getElem?_cons_succ, Option.bind_some, Act.put, List.setIfInBounds_toArray, List.set_cons_zero, List.set_cons_succ]; rfl
                case hok5 =>
                  intro i hi
                  obtain rfl | rfl | rfl | rfl | rfl : i = 0 ∨ i = 1 ∨ i = 2 ∨ i = 3 ∨ i = 4 := by simp only [List.length_cons, List.length_nil, Nat.zero_add, Nat.reduceAdd] at hi; omega
                  · clear hi
                    refine step_of rfl rfl rfl ?_
                    intro u G w hf S
                    simp only [resOf, spec, RSpec.resAt, z0, z1, z2, z3, z4, z5, z6, z7, ptrBlk] at S ⊢
                    simp only [does]
                    go_simp
                    try first | exact S | exact ⟨vv, S⟩ | exact vv
                  · clear hi
                    refine step_of rfl rfl rfl ?_
                    intro u G w hf S
                    simp only [resOf, spec, RSpec.resAt, z0, z1, z2, z3, z4, z5, z6, z7, ptrBlk] at S ⊢
                    refine does_load 27 (.tmp 9) g9 rfl _ _ _ (S.get (r := blk g9 _) pk) _ Tryd.underlying27 rfl 36 (by kernel_rfl) (by first | rfl | (first | rfl | assumption | (exact Hid.out (by assumption)) | (exact tokL_size _) | (rw [arr8_size]; first | rfl | assumption | (exact Hid.out (by assumption)) | exact tokL_size _ | exact List.length_replicate ..) | (simp [arr8_size]; done))) ?_; exact ⟨rfl, S⟩
                  · clear hi
                    refine step_of rfl rfl rfl ?_
                    intro u G w hf S
                    have f0 : u 0 = (.slice a1 key.length c1) := hf 0 (by simp)
                    have f1 : u 1 = .agg (tokL t).toArray := hf 1 (by simp)
                    simp only [resOf, spec, RSpec.resAt, z0, z1, z2, z3, z4, z5, z6, z7, ptrBlk] at S ⊢
                    simp only [f0, f1]
                    refine does_fn (args := [((.slice a1 key.length c1)), (.agg (tokL t).toArray)]) Tryd.func50 (by kernel_rfl) (by kernel_rfl) (P3.out _ w (S.oldB H2.out)) rfl ?_
                    rintro e w1 ⟨rfl, T⟩
                    exact ⟨_, rfl, rfl, S.call T⟩
                  · clear hi
                    refine step_of rfl rfl rfl ?_
                    intro u G w hf S
                    simp only [resOf, spec, RSpec.resAt, z0, z1, z2, z3, z4, z5, z6, z7, ptrBlk] at S ⊢
                    refine does_load 27 (.tmp 9) g9 rfl _ _ _ (S.get (r := blk g9 _) pk) _ Tryd.underlying27 rfl 36 (by kernel_rfl) (by first | rfl | (first | rfl | assumption | (exact Hid.out (by assumption)) | (exact tokL_size _) | (rw [arr8_size]; first | rfl | assumption | (exact Hid.out (by assumption)) | exact tokL_size _ | exact List.length_replicate ..) | (simp [arr8_size]; done))) ?_; exact ⟨rfl, S⟩
                  · clear hi
                    refine step_of rfl rfl rfl ?_
                    intro u G w hf S
                    have f0 : u 0 = (.slice a1 key.length c1) := hf 0 (by simp)
                    have f1 : u 1 = .agg (tokL t).toArray := hf 1 (by simp)
                    have f2 : u 2 = .agg (tokL t).toArray := hf 2 (by simp)
                    have f3 : u 3 = .agg (tokL t).toArray := hf 3 (by simp)
                    simp only [resOf, spec, RSpec.resAt, z0, z1, z2, z3, z4, z5, z6, z7, ptrBlk] at S ⊢
                    simp only [f0, f1, f2, f3]
                    simp only [does]
                    go_simp
                    try first | exact S | exact ⟨vv, S⟩ | exact vv
                case fin5 =>
                  intro u w hf S
                  have f0 : u 0 = (.slice a1 key.length c1) := hf 0 (by simp)
                  have f1 : u 1 = .agg (tokL t).toArray := hf 1 (by simp)
                  have f2 : u 2 = .agg (tokL t).toArray := hf 2 (by simp)
                  have f3 : u 3 = .agg (tokL t).toArray := hf 3 (by simp)
                  have f4 : u 4 = .bool false := hf 4 (by simp)
                  simp only [resOf, spec, RSpec.resAt, z0, z1, z2, z3, z4, z5, z6, z7, ptrBlk] at S
                  clear hf
                  simp only [List.length_cons, List.length_nil, Nat.zero_add, Nat.reduceAdd, List.drop_succ_cons, List.drop_zero, f0, f1, f2, f3, f4]
                  clear f0 f1 f2 f3 f4
                  go_wp2_with (first | ((with_reducible show wpList _ _ _ (⟨some 9, .box 27 (.tmp 3), _, _, _, _⟩ :: _) _ _); refine step_boxA (dst := some 9) S 27 (.tmp 3) _ rfl gw ?_; clear S; intro g9 w S) | ((with_reducible show wpList _ _ _ (⟨_, .load 27 _, _, _, _, _⟩ :: _) _ _); first | (refine step_load S 27 _ _ rfl _ _ _ pk _ Tryd.underlying27 rfl 36 (by kernel_rfl) (by first | rfl | (first | rfl | assumption | (exact Hid.out (by assumption)) | (exact tokL_size _) | (rw [arr8_size]; first | rfl | assumption | (exact Hid.out (by assumption)) | exact tokL_size _ | exact List.length_replicate ..) | (simp [arr8_size]; done))) gw ?_) | (refine step_loadO 27 _ _ rfl _ _ _ (S.old_heap (Hid.out (by assumption))) _ Tryd.underlying27 rfl 36 (by kernel_rfl) (by first | rfl | (first | rfl | assumption | (exact Hid.out (by assumption)) | (exact tokL_size _) | (rw [arr8_size]; first | rfl | assumption | (exact Hid.out (by assumption)) | exact tokL_size _ | exact List.length_replicate ..) | (simp [arr8_size]; done))) gw ?_) | (refine step_loadR 27 _ _ _ rfl _ (S.old_range hy) _ Tryd.underlying27 rfl 36 (by kernel_rfl) (by first | rfl | (first | rfl | assumption | (exact Hid.out (by assumption)) | (exact tokL_size _) | (rw [arr8_size]; first | rfl | assumption | (exact Hid.out (by assumption)) | exact tokL_size _ | exact List.length_replicate ..) | (simp [arr8_size]; done))) _ rfl gw ?_)) | ((with_reducible show wpList _ _ _ (⟨_, .load 5 _, _, _, _, _⟩ :: _) _ _); first | (refine step_load1 5 _ _ _ rfl (S.cell pk co) _ Tryd.underlying5 rfl gw ?_) | (refine step_load1 5 _ _ _ rfl (S.row_cell pk _ _ hyr) _ Tryd.underlying5 rfl gw ?_) | (refine step_load1 5 _ _ _ rfl (S.row_cellS pk _ _ hy) _ Tryd.underlying5 rfl gw ?_) | (refine step_load1 5 _ _ _ rfl (S.old_cell hy) _ Tryd.underlying5 rfl gw ?_)) | ((with_reducible show wpList _ _ _ (⟨_, .load 24 _, _, _, _, _⟩ :: _) _ _); first | (refine step_load1 24 _ _ _ rfl (S.cell pk co) _ Tryd.underlying24 rfl gw ?_) | (refine step_load1 24 _ _ _ rfl (S.row_cell pk _ _ hyr) _ Tryd.underlying24 rfl gw ?_) | (refine step_load1 24 _ _ _ rfl (S.row_cellS pk _ _ hy) _ Tryd.underlying24 rfl gw ?_) | (refine step_load1 24 _ _ _ rfl (S.old_cell hy) _ Tryd.underlying24 rfl gw ?_)) | ((with_reducible show wpList _ _ _ (⟨_, .load 58 _, _, _, _, _⟩ :: _) _ _); first | (refine step_loadR 58 _ _ _ rfl _ (S.old_range hy) _ Tryd.underlying58 rfl 3 (by kernel_rfl) (by first | rfl | (first | rfl | assumption | (exact Hid.out (by assumption)) | (exact tokL_size _) | (rw [arr8_size]; first | rfl | assumption | (exact Hid.out (by assumption)) | exact tokL_size _ | exact List.length_replicate ..) | (simp [arr8_size]; done))) _ rfl gw ?_) | (refine step_loadP S 58 _ _ _ rfl _ _ _ pk 3 _ (by (first | exact cellsH_st .. | assumption | rfl)) (by first | rfl | (first | rfl | assumption | (exact Hid.out (by assumption)) | (exact tokL_size _) | (rw [arr8_size]; first | rfl | assumption | (exact Hid.out (by assumption)) | exact tokL_size _ | exact List.length_replicate ..) | (simp [arr8_size]; done))) _ Tryd.underlying58 rfl (by kernel_rfl) gw ?_)) | ((with_reducible show wpList _ _ _ (⟨some 14, .alloc 58, _, _, _, _⟩ :: _) _ _); refine step_alloc (dst := some 14) S 58 (.agg ((mintL mintZ).toArray)) ((mintL mintZ).toArray) (by kernel_rfl) rfl gw ?_; clear S; intro g14 w S) | ((with_reducible show wpList _ _ _ (⟨none, .store 58 (.tmp 14) (.tmp 70), _, _, _, _⟩ :: _) _ _); refine step_store S 58 (.tmp 14) (.tmp 70) _ _ rfl rfl _ _ pk 3 (by kernel_rfl) (by first | rfl | (first | rfl | assumption | (exact Hid.out (by assumption)) | (exact tokL_size _) | (rw [arr8_size]; first | rfl | assumption | (exact Hid.out (by assumption)) | exact tokL_size _ | exact List.length_replicate ..) | (simp [arr8_size]; done))) (by first | rfl | (first | rfl | assumption | (exact Hid.out (by assumption)) | (exact tokL_size _) | (rw [arr8_size]; first | rfl | assumption | (exact Hid.out (by assumption)) | exact tokL_size _ | exact List.length_replicate ..) | (simp [arr8_size]; done))) on1 gw ?_; clear S; intro w S) | ((with_reducible show wpList _ _ _ (⟨_, .load 23 _, _, _, _, _⟩ :: _) _ _); first | (refine step_load1 23 _ _ _ rfl (S.cell pk co) _ Tryd.underlying23 rfl gw ?_) | (refine step_load1 23 _ _ _ rfl (S.row_cell pk _ _ hyr) _ Tryd.underlying23 rfl gw ?_) | (refine step_load1 23 _ _ _ rfl (S.row_cellS pk _ _ hy) _ Tryd.underlying23 rfl gw ?_) | (refine step_load1 23 _ _ _ rfl (S.old_cell hy) _ Tryd.underlying23 rfl gw ?_)) | ((with_reducible show wpList _ _ _ (⟨_, .load 4 _, _, _, _, _⟩ :: _) _ _); first | (refine step_load1 4 _ _ _ rfl (S.cell pk co) _ Tryd.underlying4 rfl gw ?_) | (refine step_load1 4 _ _ _ rfl (S.row_cell pk _ _ hyr) _ Tryd.underlying4 rfl gw ?_) | (refine step_load1 4 _ _ _ rfl (S.row_cellS pk _ _ hy) _ Tryd.underlying4 rfl gw ?_) | (refine step_load1 4 _ _ _ rfl (S.old_cell hy) _ Tryd.underlying4 rfl gw ?_)) | (go_at_call 28; (with_reducible refine (P4.out _).mono ?_); rintro e w1 ⟨rfl, T⟩; replace S := S.call T; clear T; (try simp only [List.nil_append, List.cons_append] at S)) | fail)
                  all_goals first
                    | (go_ret; exact ⟨rfl, S.nil⟩)
                    | (exfalso; have q : x.revoked = true := (by assumption); rw [hrv] at q; cases q)
        · rw [if_pos hre] at hE
          subst hE
          have HX : Hid (((x.role.toNat : Int) != (t.role.toNat : Int)) = true ∨ ((x.role.toNat : Int) != (t.role.toNat : Int)) = false ∧ ((x.expiry.toNat : Int) != (t.expiry.toNat : Int)) = true) := Lib.hid (by
            by_cases g : x.role = t.role
            · right
              refine ⟨by rw [g]; simp, ?_⟩
              have h : x.expiry ≠ t.expiry := fun h => hre ⟨g, h⟩
              simp only [bne_iff_ne, ne_eq]
              intro h'
              exact h (UInt64.toNat_inj.1 (by omega))
            · left
              simp only [bne_iff_ne, ne_eq]
              intro h'
              exact g (UInt8.toNat_inj.1 (by omega)))
          clear hre
          obtain g1 | ⟨g1, g2⟩ := HX.out
          · clear HX
            have H1 := Lib.hid h1; have H2 := Lib.hid h2; have P1 := Lib.hid p1; have P2 := Lib.hid p2; have P3 := Lib.hid p3; have P4 := Lib.hid p4; have HR := Lib.hid hr; clear h1 h2 p1 p2 p3 p4 hr
            go_enter Tryd.func30, Tryd.ntmps30
            go_wp2_with (first | ((with_reducible show wpList _ _ _ (⟨some 9, .box 27 (.tmp 3), _, _, _, _⟩ :: _) _ _); refine step_boxA (dst := some 9) S 27 (.tmp 3) _ rfl gw ?_; clear S; intro g9 w S) | (go_at_call 42; (with_reducible refine (P1.out _ _ (by first | assumption | exact S.old (Hid.out (by assumption)) | exact S.sl pk | exact S.sl_rd pk)).mono ?_); rintro e w1 ⟨rfl, T⟩; replace S := S.call T; clear T; (try simp only [List.nil_append, List.cons_append] at S)) | (go_at_call 49; (with_reducible refine (P2.out _ _ (S.oldB H2.out)).mono ?_); rintro e w1 ⟨rfl, T⟩; replace S := S.call T; clear T; (try simp only [List.nil_append, List.cons_append] at S)) | fail)
            refine wp_rely S [⟨[], [], [], fun _ v => v = (.slice a1 key.length c1), fun _ v => []⟩, ⟨[], [], [], fun _ v => v = .agg (tokL t).toArray, fun _ v => []⟩, ⟨[0, 1], [], [], fun _ v => v = .agg (tokL t).toArray, fun _ v => []⟩, ⟨[], [], [], fun _ v => v = .agg (tokL t).toArray, fun _ v => []⟩, ⟨[0, 1, 2, 3], [], [], fun _ v => v = .bool false, fun _ v => []⟩] ?A6 ?hA6 (by kernel_rfl) (by kernel_rfl) (by kernel_rfl) [0, 1, 2, 3, 4] (by kernel_rfl) ?hok6 ?fin6
            case hA6 => intro u; simp only [putAll, List.length_cons, List.length_nil, Nat.zero_add, Nat.reduceAdd, dstAt, List.getElem?_toArray, List.getElem?_cons_zero, List.getElem?_cons_succ, Option.bind_some, Act.put, List.setIfInBounds_toArray, List.set_cons_zero, List.set_cons_succ]; rfl
            case hok6 =>
              intro i hi
              obtain rfl | rfl | rfl | rfl | rfl : i = 0 ∨ i = 1 ∨ i = 2 ∨ i = 3 ∨ i = 4 := by simp only [List.length_cons, List.length_nil, Nat.zero_add, Nat.reduceAdd] at hi; omega
              · clear hi
                refine step_of rfl rfl rfl ?_
                intro u G w hf S
                simp only [resOf, spec, RSpec.resAt, z0, z1, z2, z3, z4, z5, z6, z7, ptrBlk] at S ⊢
                simp only [does]
                go_simp
                try first | exact S | exact ⟨vv, S⟩ | exact vv
              · clear hi
                refine step_of rfl rfl rfl ?_
                intro u G w hf S
                simp only [resOf, spec, RSpec.resAt, z0, z1, z2, z3, z4, z5, z6, z7, ptrBlk] at S ⊢
                refine does_load 27 (.tmp 9) g9 rfl _ _ _ (S.get (r := blk g9 _) pk) _ Tryd.underlying27 rfl 36 (by kernel_rfl) (by first | rfl | (first | rfl | assumption | (exact Hid.out (by assumption)) | (exact tokL_size _) | (rw [arr8_size]; first | rfl | assumption | (exact Hid.out (by assumption)) | exact tokL_size _ | exact List.length_replicate ..) | (simp [arr8_size]; done))) ?_; exact ⟨rfl, S⟩
              · clear hi
                refine step_of rfl rfl rfl ?_
                intro u G w hf S
                have f0 : u 0 = (.slice a1 key.length c1) := hf 0 (by simp)
                have f1 : u 1 = .agg (tokL t).toArray := hf 1 (by simp)
                simp only [resOf, spec, RSpec.resAt, z0, z1, z2, z3, z4, z5, z6, z7, ptrBlk] at S ⊢
                simp only [f0, f1]
                refine does_fn (args := [((.slice a1 key.length c1)), (.agg (tokL t).toArray)]) Tryd.func50 (by kernel_rfl) (by kernel_rfl) (P3.out _ w (S.oldB H2.out)) rfl ?_
                rintro e w1 ⟨rfl, T⟩
                exact ⟨_, rfl, rfl, S.call T⟩
              · clear hi
                refine step_of rfl rfl rfl ?_
                intro u G w hf S
                simp only [resOf, spec, RSpec.resAt, z0, z1, z2, z3, z4, z5, z6, z7, ptrBlk] at S ⊢
                refine does_load 27 (.tmp 9) g9 rfl _ _ _ (S.get (r := blk g9 _) pk) _ Tryd.underlying27 rfl 36 (by kernel_rfl) (by first | rfl | (first | rfl | assumption | (exact Hid.out (by assumption)) | (exact tokL_size _) | (rw [arr8_size]; first | rfl | assumption | (exact Hid.out (by assumption)) | exact tokL_size _ | exact List.length_replicate ..) | (simp [arr8_size]; done))) ?_; exact ⟨rfl, S⟩
              · clear hi
                refine step_of rfl rfl rfl ?_
                intro u G w hf S
                have f0 : u 0 = (.slice a1 key.length c1) := hf 0 (by simp)
                have f1 : u 1 = .agg (tokL t).toArray := hf 1 (by simp)
                have f2 : u 2 = .agg (tokL t).toArray := hf 2 (by simp)
                have f3 : u 3 = .agg (tokL t).toArray := hf 3 (by simp)
                simp only [resOf, spec, RSpec.resAt, z0, z1, z2, z3, z4, z5, z6, z7, ptrBlk] at S ⊢
                simp only [f0, f1, f2, f3]
                simp only [does]
                go_simp
                try first | exact S | exact ⟨vv, S⟩ | exact vv
            case fin6 =>
              intro u w hf S
              have f0 : u 0 = (.slice a1 key.length c1) := hf 0 (by simp)
              have f1 : u 1 = .agg (tokL t).toArray := hf 1 (by simp)
              have f2 : u 2 = .agg (tokL t).toArray := hf 2 (by simp)
              have f3 : u 3 = .agg (tokL t).toArray := hf 3 (by simp)
              have f4 : u 4 = .bool false := hf 4 (by simp)
              simp only [resOf, spec, RSpec.resAt, z0, z1, z2, z3, z4, z5, z6, z7, ptrBlk] at S
              clear hf
              simp only [List.length_cons, List.length_nil, Nat.zero_add, Nat.reduceAdd, List.drop_succ_cons, List.drop_zero, f0, f1, f2, f3, f4]
              clear f0 f1 f2 f3 f4
              go_wp2_with (first | ((with_reducible show wpList _ _ _ (⟨some 9, .box 27 (.tmp 3), _, _, _, _⟩ :: _) _ _); refine step_boxA (dst := some 9) S 27 (.tmp 3) _ rfl gw ?_; clear S; intro g9 w S) | ((with_reducible show wpList _ _ _ (⟨_, .load 27 _, _, _, _, _⟩ :: _) _ _); first | (refine step_load S 27 _ _ rfl _ _ _ pk _ Tryd.underlying27 rfl 36 (by kernel_rfl) (by first | rfl | (first | rfl | assumption | (exact Hid.out (by assumption)) | (exact tokL_size _) | (rw [arr8_size]; first | rfl | assumption | (exact Hid.out (by assumption)) | exact tokL_size _ | exact List.length_replicate ..) | (simp [arr8_size]; done))) gw ?_) | (refine step_loadO 27 _ _ rfl _ _ _ (S.old_heap (Hid.out (by assumption))) _ Tryd.underlying27 rfl 36 (by kernel_rfl) (by first | rfl | (first | rfl | assumption | (exact Hid.out (by assumption)) | (exact tokL_size _) | (rw [arr8_size]; first | rfl | assumption | (exact Hid.out (by assumption)) | exact tokL_size _ | exact List.length_replicate ..) | (simp [arr8_size]; done))) gw ?_) | (refine step_loadR 27 _ _ _ rfl _ (S.old_range hy) _ Tryd.underlying27 rfl 36 (by kernel_rfl) (by first | rfl | (first | rfl | assumption | (exact Hid.out (by assumption)) | (exact tokL_size _) | (rw [arr8_size]; first | rfl | assumption | (exact Hid.out (by assumption)) | exact tokL_size _ | exact List.length_replicate ..) | (simp [arr8_size]; done))) _ rfl gw ?_)) | ((with_reducible show wpList _ _ _ (⟨_, .load 5 _, _, _, _, _⟩ :: _) _ _); first | (refine step_load1 5 _ _ _ rfl (S.cell pk co) _ Tryd.underlying5 rfl gw ?_) | (refine step_load1 5 _ _ _ rfl (S.row_cell pk _ _ hyr) _ Tryd.underlying5 rfl gw ?_) | (refine step_load1 5 _ _ _ rfl (S.row_cellS pk _ _ hy) _ Tryd.underlying5 rfl gw ?_) | (refine step_load1 5 _ _ _ rfl (S.old_cell hy) _ Tryd.underlying5 rfl gw ?_)) | ((with_reducible show wpList _ _ _ (⟨_, .load 24 _, _, _, _, _⟩ :: _) _ _); first | (refine step_load1 24 _ _ _ rfl (S.cell pk co) _ Tryd.underlying24 rfl gw ?_) | (refine step_load1 24 _ _ _ rfl (S.row_cell pk _ _ hyr) _ Tryd.underlying24 rfl gw ?_) | (refine step_load1 24 _ _ _ rfl (S.row_cellS pk _ _ hy) _ Tryd.underlying24 rfl gw ?_) | (refine step_load1 24 _ _ _ rfl (S.old_cell hy) _ Tryd.underlying24 rfl gw ?_)) | ((with_reducible show wpList _ _ _ (⟨_, .load 58 _, _, _, _, _⟩ :: _) _ _); first | (refine step_loadR 58 _ _ _ rfl _ (S.old_range hy) _ Tryd.underlying58 rfl 3 (by kernel_rfl) (by first | rfl | (first | rfl | assumption | (exact Hid.out (by assumption)) | (exact tokL_size _) | (rw [arr8_size]; first | rfl | assumption | (exact Hid.out (by assumption)) | exact tokL_size _ | exact List.length_replicate ..) | (simp [arr8_size]; done))) _ rfl gw ?_) | (refine step_loadP S 58 _ _ _ rfl _ _ _ pk 3 _ (by (first | exact cellsH_st .. | assumption | rfl)) (by first | rfl | (first | rfl | assumption | (exact Hid.out (by assumption)) | (exact tokL_size _) | (rw [arr8_size]; first | rfl | assumption | (exact Hid.out (by assumption)) | exact tokL_size _ | exact List.length_replicate ..) | (simp [arr8_size]; done))) _ Tryd.underlying58 rfl (by kernel_rfl) gw ?_)) | ((with_reducible show wpList _ _ _ (⟨some 14, .alloc 58, _, _, _, _⟩ :: _) _ _); refine step_alloc (dst := some 14) S 58 (.agg ((mintL mintZ).toArray)) ((mintL mintZ).toArray) (by kernel_rfl) rfl gw ?_; clear S; intro g14 w S) | ((with_reducible show wpList _ _ _ (⟨none, .store 58 (.tmp 14) (.tmp 70), _, _, _, _⟩ :: _) _ _); refine step_store S 58 (.tmp 14) (.tmp 70) _ _ rfl rfl _ _ pk 3 (by kernel_rfl) (by first | rfl | (first | rfl | assumption | (exact Hid.out (by assumption)) | (exact tokL_size _) | (rw [arr8_size]; first | rfl | assumption | (exact Hid.out (by assumption)) | exact tokL_size _ | exact List.length_replicate ..) | (simp [arr8_size]; done))) (by first | rfl | (first | rfl | assumption | (exact Hid.out (by assumption)) | (exact tokL_size _) | (rw [arr8_size]; first | rfl | assumption | (exact Hid.out (by assumption)) | exact tokL_size _ | exact List.length_replicate ..) | (simp [arr8_size]; done))) on1 gw ?_; clear S; intro w S) | ((with_reducible show wpList _ _ _ (⟨_, .load 23 _, _, _, _, _⟩ :: _) _ _); first | (refine step_load1 23 _ _ _ rfl (S.cell pk co) _ Tryd.underlying23 rfl gw ?_) | (refine step_load1 23 _ _ _ rfl (S.row_cell pk _ _ hyr) _ Tryd.underlying23 rfl gw ?_) | (refine step_load1 23 _ _ _ rfl (S.row_cellS pk _ _ hy) _ Tryd.underlying23 rfl gw ?_) | (refine step_load1 23 _ _ _ rfl (S.old_cell hy) _ Tryd.underlying23 rfl gw ?_)) | ((with_reducible show wpList _ _ _ (⟨_, .load 4 _, _, _, _, _⟩ :: _) _ _); first | (refine step_load1 4 _ _ _ rfl (S.cell pk co) _ Tryd.underlying4 rfl gw ?_) | (refine step_load1 4 _ _ _ rfl (S.row_cell pk _ _ hyr) _ Tryd.underlying4 rfl gw ?_) | (refine step_load1 4 _ _ _ rfl (S.row_cellS pk _ _ hy) _ Tryd.underlying4 rfl gw ?_) | (refine step_load1 4 _ _ _ rfl (S.old_cell hy) _ Tryd.underlying4 rfl gw ?_)) | (go_at_call 28; (with_reducible refine (P4.out _).mono ?_); rintro e w1 ⟨rfl, T⟩; replace S := S.call T; clear T; (try simp only [List.nil_append, List.cons_append] at S)) | fail)
              all_goals (go_ret; exact ⟨rfl, S.nil⟩)
          · clear HX
            have H1 := Lib.hid h1; have H2 := Lib.hid h2; have P1 := Lib.hid p1; have P2 := Lib.hid p2; have P3 := Lib.hid p3; have P4 := Lib.hid p4; have HR := Lib.hid hr; clear h1 h2 p1 p2 p3 p4 hr
            go_enter Tryd.func30, Tryd.ntmps30
            go_wp2_with (first | ((with_reducible show wpList _ _ _ (⟨some 9, .box 27 (.tmp 3), _, _, _, _⟩ :: _) _ _); refine step_boxA (dst := some 9) S 27 (.tmp 3) _ rfl gw ?_; clear S; intro g9 w S) | (go_at_call 42; (with_reducible refine (P1.out _ _ (by first | assumption | exact S.old (Hid.out (by assumption)) | exact S.sl pk | exact S.sl_rd pk)).mono ?_); rintro e w1 ⟨rfl, T⟩; replace S := S.call T; clear T; (try simp only [List.nil_append, List.cons_append] at S)) | (go_at_call 49; (with_reducible refine (P2.out _ _ (S.oldB H2.out)).mono ?_); rintro e w1 ⟨rfl, T⟩; replace S := S.call T; clear T; (try simp only [List.nil_append, List.cons_append] at S)) | fail)
            refine wp_rely S [⟨[], [], [], fun _ v => v = (.slice a1 key.length c1), fun _ v => []⟩, ⟨[], [], [], fun _ v => v = .agg (tokL t).toArray, fun _ v => []⟩, ⟨[0, 1], [], [], fun _ v => v = .agg (tokL t).toArray, fun _ v => []⟩, ⟨[], [], [], fun _ v => v = .agg (tokL t).toArray, fun _ v => []⟩, ⟨[0, 1, 2, 3], [], [], fun _ v => v = .bool false, fun _ v => []⟩] ?A7 ?hA7 (by kernel_rfl) (by kernel_rfl) (by kernel_rfl) [0, 1, 2, 3, 4] (by kernel_rfl) ?hok7 ?fin7
            case hA7 => intro u; simp only [putAll, List.length_cons, List.length_nil, Nat.zero_add, Nat.reduceAdd, dstAt, List.getElem?_toArray, List.getElem?_cons_zero, List.getElem?_cons_succ, Option.bind_some, Act.put, List.setIfInBounds_toArray, List.set_cons_zero, List.set_cons_succ]; rfl
            case hok7 =>
              intro i hi
              obtain rfl | rfl | rfl | rfl | rfl : i = 0 ∨ i = 1 ∨ i = 2 ∨ i = 3 ∨ i = 4 := by simp only [List.length_cons, List.length_nil, Nat.zero_add, Nat.reduceAdd] at hi; omega
              · clear hi
                refine step_of rfl rfl rfl ?_
                intro u G w hf S
                simp only [resOf, spec, RSpec.resAt, z0, z1, z2, z3, z4, z5, z6, z7, ptrBlk] at S ⊢
                simp only [does]
                go_simp
                try first | exact S | exact ⟨vv, S⟩ | exact vv
              · clear hi
                refine step_of rfl rfl rfl ?_
                intro u G w hf S
                simp only [resOf, spec, RSpec.resAt, z0, z1, z2, z3, z4, z5, z6, z7, ptrBlk] at S ⊢
                refine does_load 27 (.tmp 9) g9 rfl _ _ _ (S.get (r := blk g9 _) pk) _ Tryd.underlying27 rfl 36 (by kernel_rfl) (by first | rfl | (first | rfl | assumption | (exact Hid.out (by assumption)) | (exact tokL_size _) | (rw [arr8_size]; first | rfl | assumption | (exact Hid.out (by assumption)) | exact tokL_size _ | exact List.length_replicate ..) | (simp [arr8_size]; done))) ?_; exact ⟨rfl, S⟩
              · clear hi
                refine step_of rfl rfl rfl ?_
                intro u G w hf S
                have f0 : u 0 = (.slice a1 key.length c1) := hf 0 (by simp)
                have f1 : u 1 = .agg (tokL t).toArray := hf 1 (by simp)
                simp only [resOf, spec, RSpec.resAt, z0, z1, z2, z3, z4, z5, z6, z7, ptrBlk] at S ⊢
                simp only [f0, f1]
                refine does_fn (args := [((.slice a1 key.length c1)), (.agg (tokL t).toArray)]) Tryd.func50 (by kernel_rfl) (by kernel_rfl) (P3.out _ w (S.oldB H2.out)) rfl ?_
                rintro e w1 ⟨rfl, T⟩
                exact ⟨_, rfl, rfl, S.call T⟩
              · clear hi
                refine step_of rfl rfl rfl ?_
                intro u G w hf S
                simp only [resOf, spec, RSpec.resAt, z0, z1, z2, z3, z4, z5, z6, z7, ptrBlk] at S ⊢
                refine does_load 27 (.tmp 9) g9 rfl _ _ _ (S.get (r := blk g9 _) pk) _ Tryd.underlying27 rfl 36 (by kernel_rfl) (by first | rfl | (first | rfl | assumption | (exact Hid.out (by assumption)) | (exact tokL_size _) | (rw [arr8_size]; first | rfl | assumption | (exact Hid.out (by assumption)) | exact tokL_size _ | exact List.length_replicate ..) | (simp [arr8_size]; done))) ?_; exact ⟨rfl, S⟩
              · clear hi
                refine step_of rfl rfl rfl ?_
                intro u G w hf S
                have f0 : u 0 = (.slice a1 key.length c1) := hf 0 (by simp)
                have f1 : u 1 = .agg (tokL t).toArray := hf 1 (by simp)
                have f2 : u 2 = .agg (tokL t).toArray := hf 2 (by simp)
                have f3 : u 3 = .agg (tokL t).toArray := hf 3 (by simp)
                simp only [resOf, spec, RSpec.resAt, z0, z1, z2, z3, z4, z5, z6, z7, ptrBlk] at S ⊢
                simp only [f0, f1, f2, f3]
                simp only [does]
                go_simp
                try first | exact S | exact ⟨vv, S⟩ | exact vv
            case fin7 =>
              intro u w hf S
              have f0 : u 0 = (.slice a1 key.length c1) := hf 0 (by simp)
              have f1 : u 1 = .agg (tokL t).toArray := hf 1 (by simp)
              have f2 : u 2 = .agg (tokL t).toArray := hf 2 (by simp)
              have f3 : u 3 = .agg (tokL t).toArray := hf 3 (by simp)
              have f4 : u 4 = .bool false := hf 4 (by simp)
              simp only [resOf, spec, RSpec.resAt, z0, z1, z2, z3, z4, z5, z6, z7, ptrBlk] at S
              clear hf
              simp only [List.length_cons, List.length_nil, Nat.zero_add, Nat.reduceAdd, List.drop_succ_cons, List.drop_zero, f0, f1, f2, f3, f4]
              clear f0 f1 f2 f3 f4
              go_wp2_with (first | ((with_reducible show wpList _ _ _ (⟨some 9, .box 27 (.tmp 3), _, _, _, _⟩ :: _) _ _); refine step_boxA (dst := some 9) S 27 (.tmp 3) _ rfl gw ?_; clear S; intro g9 w S) | ((with_reducible show wpList _ _ _ (⟨_, .load 27 _, _, _, _, _⟩ :: _) _ _); first | (refine step_load S 27 _ _ rfl _ _ _ pk _ Tryd.underlying27 rfl 36 (by kernel_rfl) (by first | rfl | (first | rfl | assumption | (exact Hid.out (by assumption)) | (exact tokL_size _) | (rw [arr8_size]; first | rfl | assumption | (exact Hid.out (by assumption)) | exact tokL_size _ | exact List.length_replicate ..) | (simp [arr8_size]; done))) gw ?_) | (refine step_loadO 27 _ _ rfl _ _ _ (S.old_heap (Hid.out (by assumption))) _ Tryd.underlying27 rfl 36 (by kernel_rfl) (by first | rfl | (first | rfl | assumption | (exact Hid.out (by assumption)) | (exact tokL_size _) | (rw [arr8_size]; first | rfl | assumption | (exact Hid.out (by assumption)) | exact tokL_size _ | exact List.length_replicate ..) | (simp [arr8_size]; done))) gw ?_) | (refine step_loadR 27 _ _ _ rfl _ (S.old_range hy) _ Tryd.underlying27 rfl 36 (by kernel_rfl) (by first | rfl | (first | rfl | assumption | (exact Hid.out (by assumption)) | (exact tokL_size _) | (rw [arr8_size]; first | rfl | assumption | (exact Hid.out (by assumption)) | exact tokL_size _ | exact List.length_replicate ..) | (simp [arr8_size]; done))) _ rfl gw ?_)) | ((with_reducible show wpList _ _ _ (⟨_, .load 5 _, _, _, _, _⟩ :: _) _ _); first | (refine step_load1 5 _ _ _ rfl (S.cell pk co) _ Tryd.underlying5 rfl gw ?_) | (refine step_load1 5 _ _ _ rfl (S.row_cell pk _ _ hyr) _ Tryd.underlying5 rfl gw ?_) | (refine step_load1 5 _ _ _ rfl (S.row_cellS pk _ _ hy) _ Tryd.underlying5 rfl gw ?_) | (refine step_load1 5 _ _ _ rfl (S.old_cell hy) _ Tryd.underlying5 rfl gw ?_)) | ((with_reducible show wpList _ _ _ (⟨_, .load 24 _, _, _, _, _⟩ :: _) _ _); first | (refine step_load1 24 _ _ _ rfl (S.cell pk co) _ Tryd.underlying24 rfl gw ?_) | (refine step_load1 24 _ _ _ rfl (S.row_cell pk _ _ hyr) _ Tryd.underlying24 rfl gw ?_) | (refine step_load1 24 _ _ _ rfl (S.row_cellS pk _ _ hy) _ Tryd.underlying24 rfl gw ?_) | (refine step_load1 24 _ _ _ rfl (S.old_cell hy) _ Tryd.underlying24 rfl gw ?_)) | ((with_reducible show wpList _ _ _ (⟨_, .load 58 _, _, _, _, _⟩ :: _) _ _); first | (refine step_loadR 58 _ _ _ rfl _ (S.old_range hy) _ Tryd.underlying58 rfl 3 (by kernel_rfl) (by first | rfl | (first | rfl | assumption | (exact Hid.out (by assumption)) | (exact tokL_size _) | (rw [arr8_size]; first | rfl | assumption | (exact Hid.out (by assumption)) | exact tokL_size _ | exact List.length_replicate ..) | (simp [arr8_size]; done))) _ rfl gw ?_) | (refine step_loadP S 58 _ _ _ rfl _ _ _ pk 3 _ (by (first | exact cellsH_st .. | assumption | rfl)) (by first | rfl | (first | rfl | assumption | (exact Hid.out (by assumption)) | (exact tokL_size _) | (rw [arr8_size]; first | rfl | assumption | (exact Hid.out (by assumption)) | exact tokL_size _ | exact List.length_replicate ..) | (simp [arr8_size]; done))) _ Tryd.underlying58 rfl (by kernel_rfl) gw ?_)) | ((with_reducible show wpList _ _ _ (⟨some 14, .alloc 58, _, _, _, _⟩ :: _) _ _); refine step_alloc (dst := some 14) S 58 (.agg ((mintL mintZ).toArray)) ((mintL mintZ).toArray) (by kernel_rfl) rfl gw ?_; clear S; intro g14 w S) | ((with_reducible show wpList _ _ _ (⟨none, .store 58 (.tmp 14) (.tmp 70), _, _, _, _⟩ :: _) _ _); refine step_store S 58 (.tmp 14) (.tmp 70) _ _ rfl rfl _ _ pk 3 (by kernel_rfl) (by first | rfl | (first | rfl | assumption | (exact Hid.out (by assumption)) | (exact tokL_size _) | (rw [arr8_size]; first | rfl | assumption | (exact Hid.out (by assumption)) | exact tokL_size _ | exact List.length_replicate ..) | (simp [arr8_size]; done))) (by first | rfl | (first | rfl | assumption | (exact Hid.out (by assumption)) | (exact tokL_size _) | (rw [arr8_size]; first | rfl | assumption | (exact Hid.out (by assumption)) | exact tokL_size _ | exact List.length_replicate ..) | (simp [arr8_size]; done))) on1 gw ?_; clear S; intro w S) | ((with_reducible show wpList _ _ _ (⟨_, .load 23 _, _, _, _, _⟩ :: _) _ _); first | (refine step_load1 23 _ _ _ rfl (S.cell pk co) _ Tryd.underlying23 rfl gw ?_) | (refine step_load1 23 _ _ _ rfl (S.row_cell pk _ _ hyr) _ Tryd.underlying23 rfl gw ?_) | (refine step_load1 23 _ _ _ rfl (S.row_cellS pk _ _ hy) _ Tryd.underlying23 rfl gw ?_) | (refine step_load1 23 _ _ _ rfl (S.old_cell hy) _ Tryd.underlying23 rfl gw ?_)) | ((with_reducible show wpList _ _ _ (⟨_, .load 4 _, _, _, _, _⟩ :: _) _ _); first | (refine step_load1 4 _ _ _ rfl (S.cell pk co) _ Tryd.underlying4 rfl gw ?_) | (refine step_load1 4 _ _ _ rfl (S.row_cell pk _ _ hyr) _ Tryd.underlying4 rfl gw ?_) | (refine step_load1 4 _ _ _ rfl (S.row_cellS pk _ _ hy) _ Tryd.underlying4 rfl gw ?_) | (refine step_load1 4 _ _ _ rfl (S.old_cell hy) _ Tryd.underlying4 rfl gw ?_)) | (go_at_call 28; (with_reducible refine (P4.out _).mono ?_); rintro e w1 ⟨rfl, T⟩; replace S := S.call T; clear T; (try simp only [List.nil_append, List.cons_append] at S)) | fail)
              all_goals (go_ret; exact ⟨rfl, S.nil⟩)
    · rw [if_pos hte] at hE
      subst hE
      have hte2 : ((t.tenant.toNat : Int) != tenant) = true := by simpa using hte
      obtain ⟨a0, c0, rfl, k1, k2⟩ := Sl.shape h1
      unfold maxLen at k2
      clear hte
      have H1 := Lib.hid h1; have H2 := Lib.hid h2; have P1 := Lib.hid p1; have P2 := Lib.hid p2; have P3 := Lib.hid p3; clear h1 h2 p1 p2 p3
      go_enter Tryd.func30, Tryd.ntmps30
      go_wp2_with (first | ((with_reducible show wpList _ _ _ (⟨some 9, .box 27 (.tmp 3), _, _, _, _⟩ :: _) _ _); refine step_boxA (dst := some 9) S 27 (.tmp 3) _ rfl gw ?_; clear S; intro g9 w S) | (go_at_call 42; (with_reducible refine (P1.out _ _ (by first | assumption | exact S.old (Hid.out (by assumption)) | exact S.sl pk | exact S.sl_rd pk)).mono ?_); rintro e w1 ⟨rfl, T⟩; replace S := S.call T; clear T; (try simp only [List.nil_append, List.cons_append] at S)) | (go_at_call 49; (with_reducible refine (P2.out _ _ (S.oldB H2.out)).mono ?_); rintro e w1 ⟨rfl, T⟩; replace S := S.call T; clear T; (try simp only [List.nil_append, List.cons_append] at S)) | fail)
      refine wp_rely S [⟨[], [], [], fun _ v => v = (.slice a1 key.length c1), fun _ v => []⟩, ⟨[], [], [], fun _ v => v = .agg (tokL t).toArray, fun _ v => []⟩, ⟨[0, 1], [], [], fun _ v => v = .agg (tokL t).toArray, fun _ v => []⟩, ⟨[], [], [], fun _ v => v = .agg (tokL t).toArray, fun _ v => []⟩, ⟨[0, 1, 2, 3], [], [], fun _ v => v = .bool false, fun _ v => []⟩] ?A8 ?hA8 (by kernel_rfl) (by kernel_rfl) (by kernel_rfl) [0, 1, 2, 3, 4] (by kernel_rfl) ?hok8 ?fin8
      case hA8 => intro u; simp only [putAll, List.length_cons, List.length_nil, Nat.zero_add, Nat.reduceAdd, dstAt, List.getElem?_toArray, List.getElem?_cons_zero, List.getElem?_cons_succ, Option.bind_some, Act.put, List.setIfInBounds_toArray, List.set_cons_zero, List.set_cons_succ]; rfl
      case hok8 =>
        intro i hi
        obtain rfl | rfl | rfl | rfl | rfl : i = 0 ∨ i = 1 ∨ i = 2 ∨ i = 3 ∨ i = 4 := by simp only [List.length_cons, List.length_nil, Nat.zero_add, Nat.reduceAdd] at hi; omega
        · clear hi
          refine step_of rfl rfl rfl ?_
          intro u G w hf S
          simp only [resOf, spec, RSpec.resAt, z0, z1, z2, z3, z4, z5, z6, z7, ptrBlk] at S ⊢
          simp only [does]
          go_simp
          try first | exact S | exact ⟨vv, S⟩ | exact vv
        · clear hi
          refine step_of rfl rfl rfl ?_
          intro u G w hf S
          simp only [resOf, spec, RSpec.resAt, z0, z1, z2, z3, z4, z5, z6, z7, ptrBlk] at S ⊢
          refine does_load 27 (.tmp 9) g9 rfl _ _ _ (S.get (r := blk g9 _) pk) _ Tryd.underlying27 rfl 36 (by kernel_rfl) (by first | rfl | (first | rfl | assumption | (exact Hid.out (by assumption)) | (exact tokL_size _) | (rw [arr8_size]; first | rfl | assumption | (exact Hid.out (by assumption)) | exact tokL_size _ | exact List.length_replicate ..) | (simp [arr8_size]; done))) ?_; exact ⟨rfl, S⟩
        · clear hi
          refine step_of rfl rfl rfl ?_
          intro u G w hf S
          have f0 : u 0 = (.slice a1 key.length c1) := hf 0 (by simp)
          have f1 : u 1 = .agg (tokL t).toArray := hf 1 (by simp)
          simp only [resOf, spec, RSpec.resAt, z0, z1, z2, z3, z4, z5, z6, z7, ptrBlk] at S ⊢
          simp only [f0, f1]
          refine does_fn (args := [((.slice a1 key.length c1)), (.agg (tokL t).toArray)]) Tryd.func50 (by kernel_rfl) (by kernel_rfl) (P3.out _ w (S.oldB H2.out)) rfl ?_
          rintro e w1 ⟨rfl, T⟩
          exact ⟨_, rfl, rfl, S.call T⟩
        · clear hi
          refine step_of rfl rfl rfl ?_
          intro u G w hf S
          simp only [resOf, spec, RSpec.resAt, z0, z1, z2, z3, z4, z5, z6, z7, ptrBlk] at S ⊢
          refine does_load 27 (.tmp 9) g9 rfl _ _ _ (S.get (r := blk g9 _) pk) _ Tryd.underlying27 rfl 36 (by kernel_rfl) (by first | rfl | (first | rfl | assumption | (exact Hid.out (by assumption)) | (exact tokL_size _) | (rw [arr8_size]; first | rfl | assumption | (exact Hid.out (by assumption)) | exact tokL_size _ | exact List.length_replicate ..) | (simp [arr8_size]; done))) ?_; exact ⟨rfl, S⟩
        · clear hi
          refine step_of rfl rfl rfl ?_
          intro u G w hf S
          have f0 : u 0 = (.slice a1 key.length c1) := hf 0 (by simp)
          have f1 : u 1 = .agg (tokL t).toArray := hf 1 (by simp)
          have f2 : u 2 = .agg (tokL t).toArray := hf 2 (by simp)
          have f3 : u 3 = .agg (tokL t).toArray := hf 3 (by simp)
          simp only [resOf, spec, RSpec.resAt, z0, z1, z2, z3, z4, z5, z6, z7, ptrBlk] at S ⊢
          simp only [f0, f1, f2, f3]
          simp only [does]
          go_simp
          try first | exact S | exact ⟨vv, S⟩ | exact vv
      case fin8 =>
        intro u w hf S
        have f0 : u 0 = (.slice a1 key.length c1) := hf 0 (by simp)
        have f1 : u 1 = .agg (tokL t).toArray := hf 1 (by simp)
        have f2 : u 2 = .agg (tokL t).toArray := hf 2 (by simp)
        have f3 : u 3 = .agg (tokL t).toArray := hf 3 (by simp)
        have f4 : u 4 = .bool false := hf 4 (by simp)
        simp only [resOf, spec, RSpec.resAt, z0, z1, z2, z3, z4, z5, z6, z7, ptrBlk] at S
        clear hf
        simp only [List.length_cons, List.length_nil, Nat.zero_add, Nat.reduceAdd, List.drop_succ_cons, List.drop_zero, f0, f1, f2, f3, f4]
        clear f0 f1 f2 f3 f4
        go_wp2_with (first | ((with_reducible show wpList _ _ _ (⟨some 9, .box 27 (.tmp 3), _, _, _, _⟩ :: _) _ _); refine step_boxA (dst := some 9) S 27 (.tmp 3) _ rfl gw ?_; clear S; intro g9 w S) | ((with_reducible show wpList _ _ _ (⟨_, .load 27 _, _, _, _, _⟩ :: _) _ _); first | (refine step_load S 27 _ _ rfl _ _ _ pk _ Tryd.underlying27 rfl 36 (by kernel_rfl) (by first | rfl | (first | rfl | assumption | (exact Hid.out (by assumption)) | (exact tokL_size _) | (rw [arr8_size]; first | rfl | assumption | (exact Hid.out (by assumption)) | exact tokL_size _ | exact List.length_replicate ..) | (simp [arr8_size]; done))) gw ?_) | (refine step_loadO 27 _ _ rfl _ _ _ (S.old_heap (Hid.out (by assumption))) _ Tryd.underlying27 rfl 36 (by kernel_rfl) (by first | rfl | (first | rfl | assumption | (exact Hid.out (by assumption)) | (exact tokL_size _) | (rw [arr8_size]; first | rfl | assumption | (exact Hid.out (by assumption)) | exact tokL_size _ | exact List.length_replicate ..) | (simp [arr8_size]; done))) gw ?_) | (refine step_loadR 27 _ _ _ rfl _ (S.old_range hy) _ Tryd.underlying27 rfl 36 (by kernel_rfl) (by first | rfl | (first | rfl | assumption | (exact Hid.out (by assumption)) | (exact tokL_size _) | (rw [arr8_size]; first | rfl | assumption | (exact Hid.out (by assumption)) | exact tokL_size _ | exact List.length_replicate ..) | (simp [arr8_size]; done))) _ rfl gw ?_)) | ((with_reducible show wpList _ _ _ (⟨_, .load 5 _, _, _, _, _⟩ :: _) _ _); first | (refine step_load1 5 _ _ _ rfl (S.cell pk co) _ Tryd.underlying5 rfl gw ?_) | (refine step_load1 5 _ _ _ rfl (S.row_cell pk _ _ hyr) _ Tryd.underlying5 rfl gw ?_) | (refine step_load1 5 _ _ _ rfl (S.row_cellS pk _ _ hy) _ Tryd.underlying5 rfl gw ?_) | (refine step_load1 5 _ _ _ rfl (S.old_cell hy) _ Tryd.underlying5 rfl gw ?_)) | ((with_reducible show wpList _ _ _ (⟨_, .load 24 _, _, _, _, _⟩ :: _) _ _); first | (refine step_load1 24 _ _ _ rfl (S.cell pk co) _ Tryd.underlying24 rfl gw ?_) | (refine step_load1 24 _ _ _ rfl (S.row_cell pk _ _ hyr) _ Tryd.underlying24 rfl gw ?_) | (refine step_load1 24 _ _ _ rfl (S.row_cellS pk _ _ hy) _ Tryd.underlying24 rfl gw ?_) | (refine step_load1 24 _ _ _ rfl (S.old_cell hy) _ Tryd.underlying24 rfl gw ?_)) | ((with_reducible show wpList _ _ _ (⟨_, .load 58 _, _, _, _, _⟩ :: _) _ _); first | (refine step_loadR 58 _ _ _ rfl _ (S.old_range hy) _ Tryd.underlying58 rfl 3 (by kernel_rfl) (by first | rfl | (first | rfl | assumption | (exact Hid.out (by assumption)) | (exact tokL_size _) | (rw [arr8_size]; first | rfl | assumption | (exact Hid.out (by assumption)) | exact tokL_size _ | exact List.length_replicate ..) | (simp [arr8_size]; done))) _ rfl gw ?_) | (refine step_loadP S 58 _ _ _ rfl _ _ _ pk 3 _ (by (first | exact cellsH_st .. | assumption | rfl)) (by first | rfl | (first | rfl | assumption | (exact Hid.out (by assumption)) | (exact tokL_size _) | (rw [arr8_size]; first | rfl | assumption | (exact Hid.out (by assumption)) | exact tokL_size _ | exact List.length_replicate ..) | (simp [arr8_size]; done))) _ Tryd.underlying58 rfl (by kernel_rfl) gw ?_)) | ((with_reducible show wpList _ _ _ (⟨some 14, .alloc 58, _, _, _, _⟩ :: _) _ _); refine step_alloc (dst := some 14) S 58 (.agg ((mintL mintZ).toArray)) ((mintL mintZ).toArray) (by kernel_rfl) rfl gw ?_; clear S; intro g14 w S) | ((with_reducible show wpList _ _ _ (⟨none, .store 58 (.tmp 14) (.tmp 70), _, _, _, _⟩ :: _) _ _); refine step_store S 58 (.tmp 14) (.tmp 70) _ _ rfl rfl _ _ pk 3 (by kernel_rfl) (by first | rfl | (first | rfl | assumption | (exact Hid.out (by assumption)) | (exact tokL_size _) | (rw [arr8_size]; first | rfl | assumption | (exact Hid.out (by assumption)) | exact tokL_size _ | exact List.length_replicate ..) | (simp [arr8_size]; done))) (by first | rfl | (first | rfl | assumption | (exact Hid.out (by assumption)) | (exact tokL_size _) | (rw [arr8_size]; first | rfl | assumption | (exact Hid.out (by assumption)) | exact tokL_size _ | exact List.length_replicate ..) | (simp [arr8_size]; done))) on1 gw ?_; clear S; intro w S) | ((with_reducible show wpList _ _ _ (⟨_, .load 23 _, _, _, _, _⟩ :: _) _ _); first | (refine step_load1 23 _ _ _ rfl (S.cell pk co) _ Tryd.underlying23 rfl gw ?_) | (refine step_load1 23 _ _ _ rfl (S.row_cell pk _ _ hyr) _ Tryd.underlying23 rfl gw ?_) | (refine step_load1 23 _ _ _ rfl (S.row_cellS pk _ _ hy) _ Tryd.underlying23 rfl gw ?_) | (refine step_load1 23 _ _ _ rfl (S.old_cell hy) _ Tryd.underlying23 rfl gw ?_)) | ((with_reducible show wpList _ _ _ (⟨_, .load 4 _, _, _, _, _⟩ :: _) _ _); first | (refine step_load1 4 _ _ _ rfl (S.cell pk co) _ Tryd.underlying4 rfl gw ?_) | (refine step_load1 4 _ _ _ rfl (S.row_cell pk _ _ hyr) _ Tryd.underlying4 rfl gw ?_) | (refine step_load1 4 _ _ _ rfl (S.row_cellS pk _ _ hy) _ Tryd.underlying4 rfl gw ?_) | (refine step_load1 4 _ _ _ rfl (S.old_cell hy) _ Tryd.underlying4 rfl gw ?_)) | (go_at_call 28; (with_reducible refine (P4.out _).mono ?_); rintro e w1 ⟨rfl, T⟩; replace S := S.call T; clear T; (try simp only [List.nil_append, List.cons_append] at S)) | fail)
        all_goals (go_ret; exact ⟨rfl, S.nil⟩)
  · rw [if_pos hs] at hE
    subst hE
    rw [show (!decide (T2 = t)) = true by simp [hs]] at he
    obtain ⟨a0, c0, rfl, k1, k2⟩ := Sl.shape h1
    unfold maxLen at k2
    clear hs
    have H1 := Lib.hid h1; have H2 := Lib.hid h2; have P1 := Lib.hid p1; have P2 := Lib.hid p2; have P3 := Lib.hid p3; clear h1 h2 p1 p2 p3
    go_enter Tryd.func30, Tryd.ntmps30
    go_wp2_with (first | ((with_reducible show wpList _ _ _ (⟨some 9, .box 27 (.tmp 3), _, _, _, _⟩ :: _) _ _); refine step_boxA (dst := some 9) S 27 (.tmp 3) _ rfl gw ?_; clear S; intro g9 w S) | (go_at_call 42; (with_reducible refine (P1.out _ _ (by first | assumption | exact S.old (Hid.out (by assumption)) | exact S.sl pk | exact S.sl_rd pk)).mono ?_); rintro e w1 ⟨rfl, T⟩; replace S := S.call T; clear T; (try simp only [List.nil_append, List.cons_append] at S)) | (go_at_call 49; (with_reducible refine (P2.out _ _ (S.oldB H2.out)).mono ?_); rintro e w1 ⟨rfl, T⟩; replace S := S.call T; clear T; (try simp only [List.nil_append, List.cons_append] at S)) | fail)
    refine wp_rely S [⟨[], [], [], fun _ v => v = (.slice a1 key.length c1), fun _ v => []⟩, ⟨[], [], [], fun _ v => v = .agg (tokL t).toArray, fun _ v => []⟩, ⟨[0, 1], [], [], fun _ v => v = .agg (tokL T2).toArray, fun _ v => []⟩, ⟨[], [], [], fun _ v => v = .agg (tokL t).toArray, fun _ v => []⟩, ⟨[0, 1, 2, 3], [], [], fun _ v => v = .bool true, fun _ v => []⟩] ?A9 ?hA9 (by kernel_rfl) (by kernel_rfl) (by kernel_rfl) [0, 1, 2, 3, 4] (by kernel_rfl) ?hok9 ?fin9
    case hA9 => intro u; simp only [putAll, List.length_cons, List.length_nil, Nat.zero_add, Nat.reduceAdd, dstAt, List.getElem?_toArray, List.getElem?_cons_zero, List.getElem?_cons_succ, Option.bind_some, Act.put, List.setIfInBounds_toArray, List.set_cons_zero, List.set_cons_succ]; rfl
    case hok9 =>
      intro i hi
      obtain rfl | rfl | rfl | rfl | rfl : i = 0 ∨ i = 1 ∨ i = 2 ∨ i = 3 ∨ i = 4 := by simp only [List.length_cons, List.length_nil, Nat.zero_add, Nat.reduceAdd] at hi; omega
      · clear hi
        refine step_of rfl rfl rfl ?_
        intro u G w hf S
        simp only [resOf, spec, RSpec.resAt, z0, z1, z2, z3, z4, z5, z6, z7, ptrBlk] at S ⊢
        simp only [does]
        go_simp
        try first | exact S | exact ⟨vv, S⟩ | exact vv
      · clear hi
        refine step_of rfl rfl rfl ?_
        intro u G w hf S
        simp only [resOf, spec, RSpec.resAt, z0, z1, z2, z3, z4, z5, z6, z7, ptrBlk] at S ⊢
        refine does_load 27 (.tmp 9) g9 rfl _ _ _ (S.get (r := blk g9 _) pk) _ Tryd.underlying27 rfl 36 (by kernel_rfl) (by first | rfl | (first | rfl | assumption | (exact Hid.out (by assumption)) | (exact tokL_size _) | (rw [arr8_size]; first | rfl | assumption | (exact Hid.out (by assumption)) | exact tokL_size _ | exact List.length_replicate ..) | (simp [arr8_size]; done))) ?_; exact ⟨rfl, S⟩
      · clear hi
        refine step_of rfl rfl rfl ?_
        intro u G w hf S
        have f0 : u 0 = (.slice a1 key.length c1) := hf 0 (by simp)
        have f1 : u 1 = .agg (tokL t).toArray := hf 1 (by simp)
        simp only [resOf, spec, RSpec.resAt, z0, z1, z2, z3, z4, z5, z6, z7, ptrBlk] at S ⊢
        simp only [f0, f1]
        refine does_fn (args := [((.slice a1 key.length c1)), (.agg (tokL t).toArray)]) Tryd.func50 (by kernel_rfl) (by kernel_rfl) (P3.out _ w (S.oldB H2.out)) rfl ?_
        rintro e w1 ⟨rfl, T⟩
        exact ⟨_, rfl, rfl, S.call T⟩
      · clear hi
        refine step_of rfl rfl rfl ?_
        intro u G w hf S
        simp only [resOf, spec, RSpec.resAt, z0, z1, z2, z3, z4, z5, z6, z7, ptrBlk] at S ⊢
        refine does_load 27 (.tmp 9) g9 rfl _ _ _ (S.get (r := blk g9 _) pk) _ Tryd.underlying27 rfl 36 (by kernel_rfl) (by first | rfl | (first | rfl | assumption | (exact Hid.out (by assumption)) | (exact tokL_size _) | (rw [arr8_size]; first | rfl | assumption | (exact Hid.out (by assumption)) | exact tokL_size _ | exact List.length_replicate ..) | (simp [arr8_size]; done))) ?_; exact ⟨rfl, S⟩
      · clear hi
        refine step_of rfl rfl rfl ?_
        intro u G w hf S
        have f0 : u 0 = (.slice a1 key.length c1) := hf 0 (by simp)
        have f1 : u 1 = .agg (tokL t).toArray := hf 1 (by simp)
        have f2 : u 2 = .agg (tokL T2).toArray := hf 2 (by simp)
        have f3 : u 3 = .agg (tokL t).toArray := hf 3 (by simp)
        simp only [resOf, spec, RSpec.resAt, z0, z1, z2, z3, z4, z5, z6, z7, ptrBlk] at S ⊢
        simp only [f0, f1, f2, f3]
        simp only [does]
        go_simp
        try first | exact S | exact ⟨vv, S⟩ | exact vv
    case fin9 =>
      intro u w hf S
      have f0 : u 0 = (.slice a1 key.length c1) := hf 0 (by simp)
      have f1 : u 1 = .agg (tokL t).toArray := hf 1 (by simp)
      have f2 : u 2 = .agg (tokL T2).toArray := hf 2 (by simp)
      have f3 : u 3 = .agg (tokL t).toArray := hf 3 (by simp)
      have f4 : u 4 = .bool true := hf 4 (by simp)
      simp only [resOf, spec, RSpec.resAt, z0, z1, z2, z3, z4, z5, z6, z7, ptrBlk] at S
      clear hf
      simp only [List.length_cons, List.length_nil, Nat.zero_add, Nat.reduceAdd, List.drop_succ_cons, List.drop_zero, f0, f1, f2, f3, f4]
      clear f0 f1 f2 f3 f4
      go_wp2_with (first | ((with_reducible show wpList _ _ _ (⟨some 9, .box 27 (.tmp 3), _, _, _, _⟩ :: _) _ _); refine step_boxA (dst := some 9) S 27 (.tmp 3) _ rfl gw ?_; clear S; intro g9 w S) | ((with_reducible show wpList _ _ _ (⟨_, .load 27 _, _, _, _, _⟩ :: _) _ _); first | (refine step_load S 27 _ _ rfl _ _ _ pk _ Tryd.underlying27 rfl 36 (by kernel_rfl) (by first | rfl | (first | rfl | assumption | (exact Hid.out (by assumption)) | (exact tokL_size _) | (rw [arr8_size]; first | rfl | assumption | (exact Hid.out (by assumption)) | exact tokL_size _ | exact List.length_replicate ..) | (simp [arr8_size]; done))) gw ?_) | (refine step_loadO 27 _ _ rfl _ _ _ (S.old_heap (Hid.out (by assumption))) _ Tryd.underlying27 rfl 36 (by kernel_rfl) (by first | rfl | (first | rfl | assumption | (exact Hid.out (by assumption)) | (exact tokL_size _) | (rw [arr8_size]; first | rfl | assumption | (exact Hid.out (by assumption)) | exact tokL_size _ | exact List.length_replicate ..) | (simp [arr8_size]; done))) gw ?_) | (refine step_loadR 27 _ _ _ rfl _ (S.old_range hy) _ Tryd.underlying27 rfl 36 (by kernel_rfl) (by first | rfl | (first | rfl | assumption | (exact Hid.out (by assumption)) | (exact tokL_size _) | (rw [arr8_size]; first | rfl | assumption | (exact Hid.out (by assumption)) | exact tokL_size _ | exact List.length_replicate ..) | (simp [arr8_size]; done))) _ rfl gw ?_)) | ((with_reducible show wpList _ _ _ (⟨_, .load 5 _, _, _, _, _⟩ :: _) _ _); first | (refine step_load1 5 _ _ _ rfl (S.cell pk co) _ Tryd.underlying5 rfl gw ?_) | (refine step_load1 5 _ _ _ rfl (S.row_cell pk _ _ hyr) _ Tryd.underlying5 rfl gw ?_) | (refine step_load1 5 _ _ _ rfl (S.row_cellS pk _ _ hy) _ Tryd.underlying5 rfl gw ?_) | (refine step_load1 5 _ _ _ rfl (S.old_cell hy) _ Tryd.underlying5 rfl gw ?_)) | ((with_reducible show wpList _ _ _ (⟨_, .load 24 _, _, _, _, _⟩ :: _) _ _); first | (refine step_load1 24 _ _ _ rfl (S.cell pk co) _ Tryd.underlying24 rfl gw ?_) | (refine step_load1 24 _ _ _ rfl (S.row_cell pk _ _ hyr) _ Tryd.underlying24 rfl gw ?_) | (refine step_load1 24 _ _ _ rfl (S.row_cellS pk _ _ hy) _ Tryd.underlying24 rfl gw ?_) | (refine step_load1 24 _ _ _ rfl (S.old_cell hy) _ Tryd.underlying24 rfl gw ?_)) | ((with_reducible show wpList _ _ _ (⟨_, .load 58 _, _, _, _, _⟩ :: _) _ _); first | (refine step_loadR 58 _ _ _ rfl _ (S.old_range hy) _ Tryd.underlying58 rfl 3 (by kernel_rfl) (by first | rfl | (first | rfl | assumption | (exact Hid.out (by assumption)) | (exact tokL_size _) | (rw [arr8_size]; first | rfl | assumption | (exact Hid.out (by assumption)) | exact tokL_size _ | exact List.length_replicate ..) | (simp [arr8_size]; done))) _ rfl gw ?_) | (refine step_loadP S 58 _ _ _ rfl _ _ _ pk 3 _ (by (first | exact cellsH_st .. | assumption | rfl)) (by first | rfl | (first | rfl | assumption | (exact Hid.out (by assumption)) | (exact tokL_size _) | (rw [arr8_size]; first | rfl | assumption | (exact Hid.out (by assumption)) | exact tokL_size _ | exact List.length_replicate ..) | (simp [arr8_size]; done))) _ Tryd.underlying58 rfl (by kernel_rfl) gw ?_)) | ((with_reducible show wpList _ _ _ (⟨some 14, .alloc 58, _, _, _, _⟩ :: _) _ _); refine step_alloc (dst := some 14) S 58 (.agg ((mintL mintZ).toArray)) ((mintL mintZ).toArray) (by kernel_rfl) rfl gw ?_; clear S; intro g14 w S) | ((with_reducible show wpList _ _ _ (⟨none, .store 58 (.tmp 14) (.tmp 70), _, _, _, _⟩ :: _) _ _); refine step_store S 58 (.tmp 14) (.tmp 70) _ _ rfl rfl _ _ pk 3 (by kernel_rfl) (by first | rfl | (first | rfl | assumption | (exact Hid.out (by assumption)) | (exact tokL_size _) | (rw [arr8_size]; first | rfl | assumption | (exact Hid.out (by assumption)) | exact tokL_size _ | exact List.length_replicate ..) | (simp [arr8_size]; done))) (by first | rfl | (first | rfl | assumption | (exact Hid.out (by assumption)) | (exact tokL_size _) | (rw [arr8_size]; first | rfl | assumption | (exact Hid.out (by assumption)) | exact tokL_size _ | exact List.length_replicate ..) | (simp [arr8_size]; done))) on1 gw ?_; clear S; intro w S) | ((with_reducible show wpList _ _ _ (⟨_, .load 23 _, _, _, _, _⟩ :: _) _ _); first | (refine step_load1 23 _ _ _ rfl (S.cell pk co) _ Tryd.underlying23 rfl gw ?_) | (refine step_load1 23 _ _ _ rfl (S.row_cell pk _ _ hyr) _ Tryd.underlying23 rfl gw ?_) | (refine step_load1 23 _ _ _ rfl (S.row_cellS pk _ _ hy) _ Tryd.underlying23 rfl gw ?_) | (refine step_load1 23 _ _ _ rfl (S.old_cell hy) _ Tryd.underlying23 rfl gw ?_)) | ((with_reducible show wpList _ _ _ (⟨_, .load 4 _, _, _, _, _⟩ :: _) _ _); first | (refine step_load1 4 _ _ _ rfl (S.cell pk co) _ Tryd.underlying4 rfl gw ?_) | (refine step_load1 4 _ _ _ rfl (S.row_cell pk _ _ hyr) _ Tryd.underlying4 rfl gw ?_) | (refine step_load1 4 _ _ _ rfl (S.row_cellS pk _ _ hy) _ Tryd.underlying4 rfl gw ?_) | (refine step_load1 4 _ _ _ rfl (S.old_cell hy) _ Tryd.underlying4 rfl gw ?_)) | (go_at_call 28; (with_reducible refine (P4.out _).mono ?_); rintro e w1 ⟨rfl, T⟩; replace S := S.call T; clear T; (try simp only [List.nil_append, List.cons_append] at S)) | fail)
      all_goals (go_ret; exact ⟨rfl, S.nil⟩)

set_option maxRecDepth 100000 in
set_option maxHeartbeats 8000000 in
theorem refAuthorize_s (v0 v1 : Value) (l : List Mnt) (key : List UInt8) (tenant : Int) (t : Tok) (kind now : Nat) (w0 : World) (h1 : Rg w0 v0 l) (h2 : Bs w0 v1 key)
    (ht : -9223372036854775808 ≤ tenant ∧ tenant ≤ 9223372036854775807) (hk : kind < 256) (hn : now < 18446744073709551616) :
    Calls Tryd.prog 30 #[v0, v1, .int .i64 tenant, .agg (tokL t).toArray, .int .u8 (kind : Int), .int .u64 (now : Int)] w0 fun e w' => e = .returned (.int .i64 (auzE l key tenant t kind now)) ∧ Has w0 w' [] := by
  rw [auzE_eq]
  by_cases hc : chkR l = 0
  · rw [if_neg (not_not_intro hc)]
    by_cases ha : 0 ≤ tenant ∧ tenant < 3 ∧ 1 ≤ kind ∧ kind ≤ 6 ∧ now ≤ 4611686018427387904 ∧ vkB key = true
    · exact refAuz_body v0 v1 l key tenant t kind now w0 h1 h2 hc ht hk ⟨ha.1, ha.2.1, ha.2.2.1, ha.2.2.2.1, ha.2.2.2.2.1⟩ ha.2.2.2.2.2 _ rfl
    · rw [auzT_2 _ _ _ _ _ _ ha]
      exact refAuz_args v0 v1 l key tenant t kind now w0 h1 h2 hc ha
  · rw [if_pos hc]
    have S := Has.start w0
    obtain ⟨a0, c0, rfl, k1, k2⟩ := Sl.shape h1
    obtain ⟨a1, c1, rfl, k3, k4⟩ := Sl.shape h2
    have p1 := fun v w h => refCheck_r v l w h
    obtain ⟨E, hEe⟩ : ∃ E, E = chkR l := ⟨_, rfl⟩
    rw [← hEe] at p1 hc ⊢
    have i1 : (E != 0) = true := by simpa using hc
    clear hEe hc
    unfold maxLen at k2 k4
    have H1 := Lib.hid h1; have H2 := Lib.hid h2; have P1 := Lib.hid p1; clear h1 h2 p1
    go_enter Tryd.func30, Tryd.ntmps30
    go_wp2_with (first | ((with_reducible show wpList _ _ _ (⟨some 9, .box 27 (.tmp 3), _, _, _, _⟩ :: _) _ _); refine step_boxA (dst := some 9) S 27 (.tmp 3) _ rfl gw ?_; clear S; intro g9 w S) | (go_at_call 42; (with_reducible refine (P1.out _ _ (by first | assumption | exact S.old (Hid.out (by assumption)) | exact S.sl pk | exact S.sl_rd pk)).mono ?_); rintro e w1 ⟨rfl, T⟩; replace S := S.call T; clear T; (try simp only [List.nil_append, List.cons_append] at S)) | fail)
    go_ret
    exact ⟨rfl, S.nil⟩

set_option maxRecDepth 100000 in
set_option maxHeartbeats 8000000 in
theorem authDecides_walk (v0 v1 : Value) (l : List Mnt) (key : List UInt8) (tenant : Int) (t : Tok) (kind now : Nat) (w0 : World) (h1 : Rg w0 v0 l) (h2 : Bs w0 v1 key) (hK : KT w0) (hP : PT w0)
    (ht : -9223372036854775808 ≤ tenant ∧ tenant ≤ 9223372036854775807) (hk : kind < 256) (hn : now < 18446744073709551616) :
    Calls Tryd.prog 5 #[v0, v1, .int .i64 tenant, .agg (tokL t).toArray, .int .u8 (kind : Int), .int .u64 (now : Int)] w0 fun e w' => e = .returned (.bool true) ∧ Has w0 w' [] := by
  have S := Has.start w0
  have p1 := fun w hP => permits_s t.role.toNat kind w hP (by have := t.role.toNat_lt; omega) hk
  have p2 := fun w => refPermits_s t.role.toNat kind w (by have := t.role.toNat_lt; omega) hk
  have p3 := fun w h1 h2 hK hP => authz_s v0 v1 l key tenant t kind now w h1 h2 hK hP ht hk hn
  have p4 := fun w h1 h2 => refAuthorize_s v0 v1 l key tenant t kind now w h1 h2 ht hk hn
  generalize prmB t.role.toNat kind = B at p1 p2
  generalize auzE l key tenant t kind now = E at p3 p4
  obtain ⟨a0, c0, rfl, k1, k2⟩ := Sl.shape h1
  obtain ⟨a1, c1, rfl, k3, k4⟩ := Sl.shape h2
  unfold maxLen at k2 k4
  have H1 := Lib.hid h1; have H2 := Lib.hid h2; have HK := Lib.hid hK; have HP := Lib.hid hP; have P1 := Lib.hid p1; have P2 := Lib.hid p2; have P3 := Lib.hid p3; have P4 := Lib.hid p4; clear h1 h2 hK hP p1 p2 p3 p4
  go_enter Tryd.func5, Tryd.ntmps5
  go_wp2_with (first | ((with_reducible show wpList _ _ _ (⟨some 9, .box 27 (.tmp 3), _, _, _, _⟩ :: _) _ _); refine step_boxA (dst := some 9) S 27 (.tmp 3) _ rfl gw ?_; clear S; intro g9 w S) | ((with_reducible show wpList _ _ _ (⟨_, .load 5 _, _, _, _, _⟩ :: _) _ _); first | (refine step_load1 5 _ _ _ rfl (S.cell pk co) _ Tryd.underlying5 rfl gw ?_) | (refine step_load1 5 _ _ _ rfl (S.row_cell pk _ _ hyr) _ Tryd.underlying5 rfl gw ?_) | (refine step_load1 5 _ _ _ rfl (S.row_cellS pk _ _ hy) _ Tryd.underlying5 rfl gw ?_) | (refine step_load1 5 _ _ _ rfl (S.old_cell hy) _ Tryd.underlying5 rfl gw ?_)) | ((with_reducible show wpList _ _ _ (⟨_, .load 27 _, _, _, _, _⟩ :: _) _ _); first | (refine step_load S 27 _ _ rfl _ _ _ pk _ Tryd.underlying27 rfl 36 (by kernel_rfl) (by first | rfl | (first | rfl | assumption | (exact Hid.out (by assumption)) | (exact tokL_size _) | (rw [arr8_size]; first | rfl | assumption | (exact Hid.out (by assumption)) | exact tokL_size _ | exact List.length_replicate ..) | (simp [arr8_size]; done))) gw ?_) | (refine step_loadO 27 _ _ rfl _ _ _ (S.old_heap (Hid.out (by assumption))) _ Tryd.underlying27 rfl 36 (by kernel_rfl) (by first | rfl | (first | rfl | assumption | (exact Hid.out (by assumption)) | (exact tokL_size _) | (rw [arr8_size]; first | rfl | assumption | (exact Hid.out (by assumption)) | exact tokL_size _ | exact List.length_replicate ..) | (simp [arr8_size]; done))) gw ?_) | (refine step_loadR 27 _ _ _ rfl _ (S.old_range hy) _ Tryd.underlying27 rfl 36 (by kernel_rfl) (by first | rfl | (first | rfl | assumption | (exact Hid.out (by assumption)) | (exact tokL_size _) | (rw [arr8_size]; first | rfl | assumption | (exact Hid.out (by assumption)) | exact tokL_size _ | exact List.length_replicate ..) | (simp [arr8_size]; done))) _ rfl gw ?_)) | fail)
  refine wp_rely S [⟨[], [], [], fun _ v => v = .pointer (some ⟨g9, 1, none⟩), fun _ v => []⟩, ⟨[0], [], [], fun _ v => v = .int .u8 (t.role.toNat : Int), fun _ v => []⟩, ⟨[], [], [], fun _ v => v = (.int .u8 (kind : Int)), fun _ v => []⟩, ⟨[0, 1, 2], [], [], fun _ v => v = .bool B, fun _ v => []⟩, ⟨[], [], [], fun _ v => v = .pointer (some ⟨g9, 1, none⟩), fun _ v => []⟩, ⟨[4], [], [], fun _ v => v = .int .u8 (t.role.toNat : Int), fun _ v => []⟩, ⟨[], [], [], fun _ v => v = (.int .u8 (kind : Int)), fun _ v => []⟩, ⟨[0, 1, 2, 3, 4, 5, 6], [], [], fun _ v => v = .bool B, fun _ v => []⟩, ⟨[0, 1, 2, 3, 4, 5, 6, 7], [], [], fun _ v => v = .bool true, fun _ v => []⟩, ⟨[0, 1, 2, 3, 4, 5, 6, 7, 8], [], [], fun _ v => v = (.bool true), fun _ v => []⟩, ⟨[0, 1, 2, 3, 4, 5, 6, 7, 8, 9], [], [], fun _ v => v = (.slice a0 l.length c0), fun _ v => []⟩, ⟨[0, 1, 2, 3, 4, 5, 6, 7, 8, 9], [], [], fun _ v => v = (.slice a1 key.length c1), fun _ v => []⟩, ⟨[0, 1, 2, 3, 4, 5, 6, 7, 8, 9], [], [], fun _ v => v = (.int .i64 tenant), fun _ v => []⟩, ⟨[0, 1, 2, 3, 4, 5, 6, 7, 8, 9], [], [], fun _ v => v = .agg (tokL t).toArray, fun _ v => []⟩, ⟨[0, 1, 2, 3, 4, 5, 6, 7, 8, 9], [], [], fun _ v => v = (.int .u8 (kind : Int)), fun _ v => []⟩, ⟨[0, 1, 2, 3, 4, 5, 6, 7, 8, 9], [], [], fun _ v => v = (.int .u64 (now : Int)), fun _ v => []⟩, ⟨[0, 1, 2, 3, 4, 5, 6, 7, 8, 9, 10, 11, 12, 13, 14, 15], [], [], fun _ v => v = .int .i64 E, fun _ v => []⟩, ⟨[0, 1, 2, 3, 4, 5, 6, 7, 8, 9], [], [], fun _ v => v = (.slice a0 l.length c0), fun _ v => []⟩, ⟨[0, 1, 2, 3, 4, 5, 6, 7, 8, 9], [], [], fun _ v => v = (.slice a1 key.length c1), fun _ v => []⟩, ⟨[0, 1, 2, 3, 4, 5, 6, 7, 8, 9], [], [], fun _ v => v = (.int .i64 tenant), fun _ v => []⟩, ⟨[0, 1, 2, 3, 4, 5, 6, 7, 8, 9], [], [], fun _ v => v = .agg (tokL t).toArray, fun _ v => []⟩, ⟨[0, 1, 2, 3, 4, 5, 6, 7, 8, 9], [], [], fun _ v => v = (.int .u8 (kind : Int)), fun _ v => []⟩, ⟨[0, 1, 2, 3, 4, 5, 6, 7, 8, 9], [], [], fun _ v => v = (.int .u64 (now : Int)), fun _ v => []⟩, ⟨[0, 1, 2, 3, 4, 5, 6, 7, 8, 9, 10, 11, 12, 13, 14, 15, 16, 17, 18, 19, 20, 21, 22], [], [], fun _ v => v = .int .i64 E, fun _ v => []⟩, ⟨[0, 1, 2, 3, 4, 5, 6, 7, 8, 9, 10, 11, 12, 13, 14, 15, 16, 17, 18, 19, 20, 21, 22, 23], [], [], fun _ v => v = .bool true, fun _ v => []⟩, ⟨[0, 1, 2, 3, 4, 5, 6, 7, 8, 9, 10, 11, 12, 13, 14, 15, 16, 17, 18, 19, 20, 21, 22, 23, 24], [], [], fun _ v => v = .bool true, fun _ v => []⟩, ⟨[0, 1, 2, 3, 4, 5, 6, 7, 8, 9, 10, 11, 12, 13, 14, 15, 16, 17, 18, 19, 20, 21, 22, 23, 24, 25], [], [], fun _ v => v = (.bool true), fun _ v => []⟩] ?A10 ?hA10 (by kernel_rfl) (by kernel_rfl) (by kernel_rfl) [0, 1, 2, 3, 4, 5, 6, 7, 8, 9, 10, 11, 12, 13, 14, 15, 16, 17, 18, 19, 20, 21, 22, 23, 24, 25, 26] (by kernel_rfl) ?hok10 ?fin10
  case hA10 => intro u; simp only [putAll, List.length_cons, List.length_nil, Nat.zero_add, Nat.reduceAdd, dstAt, List.getElem?_toArray, List.getElem?_cons_zero, List.getElem?_cons_succ, Option.bind_some, Act.put, List.setIfInBounds_toArray, List.set_cons_zero, List.set_cons_succ]; rfl
  case hok10 =>
    intro i hi
    obtain rfl | rfl | rfl | rfl | rfl | rfl | rfl | rfl | rfl | rfl | rfl | rfl | rfl | rfl | rfl | rfl | rfl | rfl | rfl | rfl | rfl | rfl | rfl | rfl | rfl | rfl | rfl : i = 0 ∨ i = 1 ∨ i = 2 ∨ i = 3 ∨ i = 4 ∨ i = 5 ∨ i = 6 ∨ i = 7 ∨ i = 8 ∨ i = 9 ∨ i = 10 ∨ i = 11 ∨ i = 12 ∨ i = 13 ∨ i = 14 ∨ i = 15 ∨ i = 16 ∨ i = 17 ∨ i = 18 ∨ i = 19 ∨ i = 20 ∨ i = 21 ∨ i = 22 ∨ i = 23 ∨ i = 24 ∨ i = 25 ∨ i = 26 := by simp only [List.length_cons, List.length_nil, Nat.zero_add, Nat.reduceAdd] at hi; omega
    · clear hi
      refine step_of rfl rfl rfl ?_
      intro u G w hf S
      simp only [resOf, spec, RSpec.resAt, z0, z1, z2, z3, z4, z5, z6, z7, ptrBlk] at S ⊢
      simp only [does]
      go_simp
      try first | exact S | exact ⟨vv, S⟩ | exact vv
    · clear hi
      refine step_of rfl rfl rfl ?_
      intro u G w hf S
      have f0 : u 0 = .pointer (some ⟨g9, 1, none⟩) := hf 0 (by simp)
      simp only [resOf, spec, RSpec.resAt, z0, z1, z2, z3, z4, z5, z6, z7, ptrBlk] at S ⊢
      simp only [f0]
      refine does_load1 5 (.tmp 13) _ _ rfl (S.cell (g := g9) pk co) _ Tryd.underlying5 rfl ?_; exact ⟨rfl, S⟩
    · clear hi
      refine step_of rfl rfl rfl ?_
      intro u G w hf S
      simp only [resOf, spec, RSpec.resAt, z0, z1, z2, z3, z4, z5, z6, z7, ptrBlk] at S ⊢
      simp only [does]
      go_simp
      try first | exact S | exact ⟨vv, S⟩ | exact vv
    · clear hi
      refine step_of rfl rfl rfl ?_
      intro u G w hf S
      have f0 : u 0 = .pointer (some ⟨g9, 1, none⟩) := hf 0 (by simp)
      have f1 : u 1 = .int .u8 (t.role.toNat : Int) := hf 1 (by simp)
      have f2 : u 2 = (.int .u8 (kind : Int)) := hf 2 (by simp)
      simp only [resOf, spec, RSpec.resAt, z0, z1, z2, z3, z4, z5, z6, z7, ptrBlk] at S ⊢
      simp only [f0, f1, f2]
      refine does_fn (args := [(.int .u8 (t.role.toNat : Int)), ((.int .u8 (kind : Int)))]) Tryd.func27 (by kernel_rfl) (by kernel_rfl) (P1.out w (S.pt HP.out)) rfl ?_
      rintro e w1 ⟨rfl, T⟩
      exact ⟨_, rfl, rfl, S.call T⟩
    · clear hi
      refine step_of rfl rfl rfl ?_
      intro u G w hf S
      simp only [resOf, spec, RSpec.resAt, z0, z1, z2, z3, z4, z5, z6, z7, ptrBlk] at S ⊢
      simp only [does]
      go_simp
      try first | exact S | exact ⟨vv, S⟩ | exact vv
    · clear hi
      refine step_of rfl rfl rfl ?_
      intro u G w hf S
      have f4 : u 4 = .pointer (some ⟨g9, 1, none⟩) := hf 4 (by simp)
      simp only [resOf, spec, RSpec.resAt, z0, z1, z2, z3, z4, z5, z6, z7, ptrBlk] at S ⊢
      simp only [f4]
      refine does_load1 5 (.tmp 17) _ _ rfl (S.cell (g := g9) pk co) _ Tryd.underlying5 rfl ?_; exact ⟨rfl, S⟩
    · clear hi
      refine step_of rfl rfl rfl ?_
      intro u G w hf S
      simp only [resOf, spec, RSpec.resAt, z0, z1, z2, z3, z4, z5, z6, z7, ptrBlk] at S ⊢
      simp only [does]
      go_simp
      try first | exact S | exact ⟨vv, S⟩ | exact vv
    · clear hi
      refine step_of rfl rfl rfl ?_
      intro u G w hf S
      have f0 : u 0 = .pointer (some ⟨g9, 1, none⟩) := hf 0 (by simp)
      have f1 : u 1 = .int .u8 (t.role.toNat : Int) := hf 1 (by simp)
      have f2 : u 2 = (.int .u8 (kind : Int)) := hf 2 (by simp)
      have f3 : u 3 = .bool B := hf 3 (by simp)
      have f4 : u 4 = .pointer (some ⟨g9, 1, none⟩) := hf 4 (by simp)
      have f5 : u 5 = .int .u8 (t.role.toNat : Int) := hf 5 (by simp)
      have f6 : u 6 = (.int .u8 (kind : Int)) := hf 6 (by simp)
      simp only [resOf, spec, RSpec.resAt, z0, z1, z2, z3, z4, z5, z6, z7, ptrBlk] at S ⊢
      simp only [f0, f1, f2, f3, f4, f5, f6]
      refine does_fn (args := [(.int .u8 (t.role.toNat : Int)), ((.int .u8 (kind : Int)))]) Tryd.func28 (by kernel_rfl) (by kernel_rfl) (P2.out w) rfl ?_
      rintro e w1 ⟨rfl, T⟩
      exact ⟨_, rfl, rfl, S.call T⟩
    · clear hi
      refine step_of rfl rfl rfl ?_
      intro u G w hf S
      have f0 : u 0 = .pointer (some ⟨g9, 1, none⟩) := hf 0 (by simp)
      have f1 : u 1 = .int .u8 (t.role.toNat : Int) := hf 1 (by simp)
      have f2 : u 2 = (.int .u8 (kind : Int)) := hf 2 (by simp)
      have f3 : u 3 = .bool B := hf 3 (by simp)
      have f4 : u 4 = .pointer (some ⟨g9, 1, none⟩) := hf 4 (by simp)
      have f5 : u 5 = .int .u8 (t.role.toNat : Int) := hf 5 (by simp)
      have f6 : u 6 = (.int .u8 (kind : Int)) := hf 6 (by simp)
      have f7 : u 7 = .bool B := hf 7 (by simp)
      simp only [resOf, spec, RSpec.resAt, z0, z1, z2, z3, z4, z5, z6, z7, ptrBlk] at S ⊢
      simp only [f0, f1, f2, f3, f4, f5, f6, f7]
      simp only [does]
      go_simp
      try first | exact S | exact ⟨vv, S⟩ | exact vv
    · clear hi
      refine step_of rfl rfl rfl ?_
      intro u G w hf S
      have f0 : u 0 = .pointer (some ⟨g9, 1, none⟩) := hf 0 (by simp)
      have f1 : u 1 = .int .u8 (t.role.toNat : Int) := hf 1 (by simp)
      have f2 : u 2 = (.int .u8 (kind : Int)) := hf 2 (by simp)
      have f3 : u 3 = .bool B := hf 3 (by simp)
      have f4 : u 4 = .pointer (some ⟨g9, 1, none⟩) := hf 4 (by simp)
      have f5 : u 5 = .int .u8 (t.role.toNat : Int) := hf 5 (by simp)
      have f6 : u 6 = (.int .u8 (kind : Int)) := hf 6 (by simp)
      have f7 : u 7 = .bool B := hf 7 (by simp)
      have f8 : u 8 = .bool true := hf 8 (by simp)
      simp only [resOf, spec, RSpec.resAt, z0, z1, z2, z3, z4, z5, z6, z7, ptrBlk] at S ⊢
      simp only [f0, f1, f2, f3, f4, f5, f6, f7, f8]
      simp only [does]
      go_simp
      try first | exact S | exact ⟨vv, S⟩ | exact vv
    · clear hi
      refine step_of_g rfl rfl ?_
      intro u G w hf S
      have f0 : u 0 = .pointer (some ⟨g9, 1, none⟩) := hf 0 (by simp)
      have f1 : u 1 = .int .u8 (t.role.toNat : Int) := hf 1 (by simp)
      have f2 : u 2 = (.int .u8 (kind : Int)) := hf 2 (by simp)
      have f3 : u 3 = .bool B := hf 3 (by simp)
      have f4 : u 4 = .pointer (some ⟨g9, 1, none⟩) := hf 4 (by simp)
      have f5 : u 5 = .int .u8 (t.role.toNat : Int) := hf 5 (by simp)
      have f6 : u 6 = (.int .u8 (kind : Int)) := hf 6 (by simp)
      have f7 : u 7 = .bool B := hf 7 (by simp)
      have f8 : u 8 = .bool true := hf 8 (by simp)
      have f9 : u 9 = (.bool true) := hf 9 (by simp)
      simp only [resOf, spec, RSpec.resAt, z0, z1, z2, z3, z4, z5, z6, z7, ptrBlk] at S ⊢
      simp only [f0, f1, f2, f3, f4, f5, f6, f7, f8, f9]
      refine ⟨rfl, ?_⟩
      simp only [does]
      go_simp
      try first | exact S | exact ⟨vv, S⟩ | exact vv
    · clear hi
      refine step_of_g rfl rfl ?_
      intro u G w hf S
      have f0 : u 0 = .pointer (some ⟨g9, 1, none⟩) := hf 0 (by simp)
      have f1 : u 1 = .int .u8 (t.role.toNat : Int) := hf 1 (by simp)
      have f2 : u 2 = (.int .u8 (kind : Int)) := hf 2 (by simp)
      have f3 : u 3 = .bool B := hf 3 (by simp)
      have f4 : u 4 = .pointer (some ⟨g9, 1, none⟩) := hf 4 (by simp)
      have f5 : u 5 = .int .u8 (t.role.toNat : Int) := hf 5 (by simp)
      have f6 : u 6 = (.int .u8 (kind : Int)) := hf 6 (by simp)
      have f7 : u 7 = .bool B := hf 7 (by simp)
      have f8 : u 8 = .bool true := hf 8 (by simp)
      have f9 : u 9 = (.bool true) := hf 9 (by simp)
      simp only [resOf, spec, RSpec.resAt, z0, z1, z2, z3, z4, z5, z6, z7, ptrBlk] at S ⊢
      simp only [f0, f1, f2, f3, f4, f5, f6, f7, f8, f9]
      refine ⟨rfl, ?_⟩
      simp only [does]
      go_simp
      try first | exact S | exact ⟨vv, S⟩ | exact vv
    · clear hi
      refine step_of_g rfl rfl ?_
      intro u G w hf S
      have f0 : u 0 = .pointer (some ⟨g9, 1, none⟩) := hf 0 (by simp)
      have f1 : u 1 = .int .u8 (t.role.toNat : Int) := hf 1 (by simp)
      have f2 : u 2 = (.int .u8 (kind : Int)) := hf 2 (by simp)
      have f3 : u 3 = .bool B := hf 3 (by simp)
      have f4 : u 4 = .pointer (some ⟨g9, 1, none⟩) := hf 4 (by simp)
      have f5 : u 5 = .int .u8 (t.role.toNat : Int) := hf 5 (by simp)
      have f6 : u 6 = (.int .u8 (kind : Int)) := hf 6 (by simp)
      have f7 : u 7 = .bool B := hf 7 (by simp)
      have f8 : u 8 = .bool true := hf 8 (by simp)
      have f9 : u 9 = (.bool true) := hf 9 (by simp)
      simp only [resOf, spec, RSpec.resAt, z0, z1, z2, z3, z4, z5, z6, z7, ptrBlk] at S ⊢
      simp only [f0, f1, f2, f3, f4, f5, f6, f7, f8, f9]
      refine ⟨rfl, ?_⟩
      simp only [does]
      go_simp
      try first | exact S | exact ⟨vv, S⟩ | exact vv
    · clear hi
      refine step_of_g rfl rfl ?_
      intro u G w hf S
      have f0 : u 0 = .pointer (some ⟨g9, 1, none⟩) := hf 0 (by simp)
      have f1 : u 1 = .int .u8 (t.role.toNat : Int) := hf 1 (by simp)
      have f2 : u 2 = (.int .u8 (kind : Int)) := hf 2 (by simp)
      have f3 : u 3 = .bool B := hf 3 (by simp)
      have f4 : u 4 = .pointer (some ⟨g9, 1, none⟩) := hf 4 (by simp)
      have f5 : u 5 = .int .u8 (t.role.toNat : Int) := hf 5 (by simp)
      have f6 : u 6 = (.int .u8 (kind : Int)) := hf 6 (by simp)
      have f7 : u 7 = .bool B := hf 7 (by simp)
      have f8 : u 8 = .bool true := hf 8 (by simp)
      have f9 : u 9 = (.bool true) := hf 9 (by simp)
      simp only [resOf, spec, RSpec.resAt, z0, z1, z2, z3, z4, z5, z6, z7, ptrBlk] at S ⊢
      simp only [f0, f1, f2, f3, f4, f5, f6, f7, f8, f9]
      refine ⟨rfl, ?_⟩
      refine does_load 27 (.tmp 9) g9 rfl _ _ _ (S.get (r := blk g9 _) pk) _ Tryd.underlying27 rfl 36 (by kernel_rfl) (by first | rfl | (first | rfl | assumption | (exact Hid.out (by assumption)) | (exact tokL_size _) | (rw [arr8_size]; first | rfl | assumption | (exact Hid.out (by assumption)) | exact tokL_size _ | exact List.length_replicate ..) | (simp [arr8_size]; done))) ?_; exact ⟨rfl, S⟩
    · clear hi
      refine step_of_g rfl rfl ?_
      intro u G w hf S
      have f0 : u 0 = .pointer (some ⟨g9, 1, none⟩) := hf 0 (by simp)
      have f1 : u 1 = .int .u8 (t.role.toNat : Int) := hf 1 (by simp)
      have f2 : u 2 = (.int .u8 (kind : Int)) := hf 2 (by simp)
      have f3 : u 3 = .bool B := hf 3 (by simp)
      have f4 : u 4 = .pointer (some ⟨g9, 1, none⟩) := hf 4 (by simp)
      have f5 : u 5 = .int .u8 (t.role.toNat : Int) := hf 5 (by simp)
      have f6 : u 6 = (.int .u8 (kind : Int)) := hf 6 (by simp)
      have f7 : u 7 = .bool B := hf 7 (by simp)
      have f8 : u 8 = .bool true := hf 8 (by simp)
      have f9 : u 9 = (.bool true) := hf 9 (by simp)
      simp only [resOf, spec, RSpec.resAt, z0, z1, z2, z3, z4, z5, z6, z7, ptrBlk] at S ⊢
      simp only [f0, f1, f2, f3, f4, f5, f6, f7, f8, f9]
      refine ⟨rfl, ?_⟩
      simp only [does]
      go_simp
      try first | exact S | exact ⟨vv, S⟩ | exact vv
    · clear hi
      refine step_of_g rfl rfl ?_
      intro u G w hf S
      have f0 : u 0 = .pointer (some ⟨g9, 1, none⟩) := hf 0 (by simp)
      have f1 : u 1 = .int .u8 (t.role.toNat : Int) := hf 1 (by simp)
      have f2 : u 2 = (.int .u8 (kind : Int)) := hf 2 (by simp)
      have f3 : u 3 = .bool B := hf 3 (by simp)
      have f4 : u 4 = .pointer (some ⟨g9, 1, none⟩) := hf 4 (by simp)
      have f5 : u 5 = .int .u8 (t.role.toNat : Int) := hf 5 (by simp)
      have f6 : u 6 = (.int .u8 (kind : Int)) := hf 6 (by simp)
      have f7 : u 7 = .bool B := hf 7 (by simp)
      have f8 : u 8 = .bool true := hf 8 (by simp)
      have f9 : u 9 = (.bool true) := hf 9 (by simp)
      simp only [resOf, spec, RSpec.resAt, z0, z1, z2, z3, z4, z5, z6, z7, ptrBlk] at S ⊢
      simp only [f0, f1, f2, f3, f4, f5, f6, f7, f8, f9]
      refine ⟨rfl, ?_⟩
      simp only [does]
      go_simp
      try first | exact S | exact ⟨vv, S⟩ | exact vv
    · clear hi
      refine step_of_g rfl rfl ?_
      intro u G w hf S
      have f0 : u 0 = .pointer (some ⟨g9, 1, none⟩) := hf 0 (by simp)
      have f1 : u 1 = .int .u8 (t.role.toNat : Int) := hf 1 (by simp)
      have f2 : u 2 = (.int .u8 (kind : Int)) := hf 2 (by simp)
      have f3 : u 3 = .bool B := hf 3 (by simp)
      have f4 : u 4 = .pointer (some ⟨g9, 1, none⟩) := hf 4 (by simp)
      have f5 : u 5 = .int .u8 (t.role.toNat : Int) := hf 5 (by simp)
      have f6 : u 6 = (.int .u8 (kind : Int)) := hf 6 (by simp)
      have f7 : u 7 = .bool B := hf 7 (by simp)
      have f8 : u 8 = .bool true := hf 8 (by simp)
      have f9 : u 9 = (.bool true) := hf 9 (by simp)
      have f10 : u 10 = (.slice a0 l.length c0) := hf 10 (by simp)
      have f11 : u 11 = (.slice a1 key.length c1) := hf 11 (by simp)
      have f12 : u 12 = (.int .i64 tenant) := hf 12 (by simp)
      have f13 : u 13 = .agg (tokL t).toArray := hf 13 (by simp)
      have f14 : u 14 = (.int .u8 (kind : Int)) := hf 14 (by simp)
      have f15 : u 15 = (.int .u64 (now : Int)) := hf 15 (by simp)
      simp only [resOf, spec, RSpec.resAt, z0, z1, z2, z3, z4, z5, z6, z7, ptrBlk] at S ⊢
      simp only [f0, f1, f2, f3, f4, f5, f6, f7, f8, f9, f10, f11, f12, f13, f14, f15]
      refine ⟨rfl, ?_⟩
      refine does_fn (args := [((.slice a0 l.length c0)), ((.slice a1 key.length c1)), ((.int .i64 tenant)), (.agg (tokL t).toArray), ((.int .u8 (kind : Int))), ((.int .u64 (now : Int)))]) Tryd.func29 (by kernel_rfl) (by kernel_rfl) (P3.out w (S.old H1.out) (S.oldB H2.out) (S.kt HK.out) (S.pt HP.out)) rfl ?_
      rintro e w1 ⟨rfl, T⟩
      exact ⟨_, rfl, rfl, S.call T⟩
    · clear hi
      refine step_of_g rfl rfl ?_
      intro u G w hf S
      have f0 : u 0 = .pointer (some ⟨g9, 1, none⟩) := hf 0 (by simp)
      have f1 : u 1 = .int .u8 (t.role.toNat : Int) := hf 1 (by simp)
      have f2 : u 2 = (.int .u8 (kind : Int)) := hf 2 (by simp)
      have f3 : u 3 = .bool B := hf 3 (by simp)
      have f4 : u 4 = .pointer (some ⟨g9, 1, none⟩) := hf 4 (by simp)
      have f5 : u 5 = .int .u8 (t.role.toNat : Int) := hf 5 (by simp)
      have f6 : u 6 = (.int .u8 (kind : Int)) := hf 6 (by simp)
      have f7 : u 7 = .bool B := hf 7 (by simp)
      have f8 : u 8 = .bool true := hf 8 (by simp)
      have f9 : u 9 = (.bool true) := hf 9 (by simp)
      simp only [resOf, spec, RSpec.resAt, z0, z1, z2, z3, z4, z5, z6, z7, ptrBlk] at S ⊢
      simp only [f0, f1, f2, f3, f4, f5, f6, f7, f8, f9]
      refine ⟨rfl, ?_⟩
      simp only [does]
      go_simp
      try first | exact S | exact ⟨vv, S⟩ | exact vv
    · clear hi
      refine step_of_g rfl rfl ?_
      intro u G w hf S
      have f0 : u 0 = .pointer (some ⟨g9, 1, none⟩) := hf 0 (by simp)
      have f1 : u 1 = .int .u8 (t.role.toNat : Int) := hf 1 (by simp)
      have f2 : u 2 = (.int .u8 (kind : Int)) := hf 2 (by simp)
      have f3 : u 3 = .bool B := hf 3 (by simp)
      have f4 : u 4 = .pointer (some ⟨g9, 1, none⟩) := hf 4 (by simp)
      have f5 : u 5 = .int .u8 (t.role.toNat : Int) := hf 5 (by simp)
      have f6 : u 6 = (.int .u8 (kind : Int)) := hf 6 (by simp)
      have f7 : u 7 = .bool B := hf 7 (by simp)
      have f8 : u 8 = .bool true := hf 8 (by simp)
      have f9 : u 9 = (.bool true) := hf 9 (by simp)
      simp only [resOf, spec, RSpec.resAt, z0, z1, z2, z3, z4, z5, z6, z7, ptrBlk] at S ⊢
      simp only [f0, f1, f2, f3, f4, f5, f6, f7, f8, f9]
      refine ⟨rfl, ?_⟩
      simp only [does]
      go_simp
      try first | exact S | exact ⟨vv, S⟩ | exact vv
    · clear hi
      refine step_of_g rfl rfl ?_
      intro u G w hf S
      have f0 : u 0 = .pointer (some ⟨g9, 1, none⟩) := hf 0 (by simp)
      have f1 : u 1 = .int .u8 (t.role.toNat : Int) := hf 1 (by simp)
      have f2 : u 2 = (.int .u8 (kind : Int)) := hf 2 (by simp)
      have f3 : u 3 = .bool B := hf 3 (by simp)
      have f4 : u 4 = .pointer (some ⟨g9, 1, none⟩) := hf 4 (by simp)
      have f5 : u 5 = .int .u8 (t.role.toNat : Int) := hf 5 (by simp)
      have f6 : u 6 = (.int .u8 (kind : Int)) := hf 6 (by simp)
      have f7 : u 7 = .bool B := hf 7 (by simp)
      have f8 : u 8 = .bool true := hf 8 (by simp)
      have f9 : u 9 = (.bool true) := hf 9 (by simp)
      simp only [resOf, spec, RSpec.resAt, z0, z1, z2, z3, z4, z5, z6, z7, ptrBlk] at S ⊢
      simp only [f0, f1, f2, f3, f4, f5, f6, f7, f8, f9]
      refine ⟨rfl, ?_⟩
      simp only [does]
      go_simp
      try first | exact S | exact ⟨vv, S⟩ | exact vv
    · clear hi
      refine step_of_g rfl rfl ?_
      intro u G w hf S
      have f0 : u 0 = .pointer (some ⟨g9, 1, none⟩) := hf 0 (by simp)
      have f1 : u 1 = .int .u8 (t.role.toNat : Int) := hf 1 (by simp)
      have f2 : u 2 = (.int .u8 (kind : Int)) := hf 2 (by simp)
      have f3 : u 3 = .bool B := hf 3 (by simp)
      have f4 : u 4 = .pointer (some ⟨g9, 1, none⟩) := hf 4 (by simp)
      have f5 : u 5 = .int .u8 (t.role.toNat : Int) := hf 5 (by simp)
      have f6 : u 6 = (.int .u8 (kind : Int)) := hf 6 (by simp)
      have f7 : u 7 = .bool B := hf 7 (by simp)
      have f8 : u 8 = .bool true := hf 8 (by simp)
      have f9 : u 9 = (.bool true) := hf 9 (by simp)
      simp only [resOf, spec, RSpec.resAt, z0, z1, z2, z3, z4, z5, z6, z7, ptrBlk] at S ⊢
      simp only [f0, f1, f2, f3, f4, f5, f6, f7, f8, f9]
      refine ⟨rfl, ?_⟩
      refine does_load 27 (.tmp 9) g9 rfl _ _ _ (S.get (r := blk g9 _) pk) _ Tryd.underlying27 rfl 36 (by kernel_rfl) (by first | rfl | (first | rfl | assumption | (exact Hid.out (by assumption)) | (exact tokL_size _) | (rw [arr8_size]; first | rfl | assumption | (exact Hid.out (by assumption)) | exact tokL_size _ | exact List.length_replicate ..) | (simp [arr8_size]; done))) ?_; exact ⟨rfl, S⟩
    · clear hi
      refine step_of_g rfl rfl ?_
      intro u G w hf S
      have f0 : u 0 = .pointer (some ⟨g9, 1, none⟩) := hf 0 (by simp)
      have f1 : u 1 = .int .u8 (t.role.toNat : Int) := hf 1 (by simp)
      have f2 : u 2 = (.int .u8 (kind : Int)) := hf 2 (by simp)
      have f3 : u 3 = .bool B := hf 3 (by simp)
      have f4 : u 4 = .pointer (some ⟨g9, 1, none⟩) := hf 4 (by simp)
      have f5 : u 5 = .int .u8 (t.role.toNat : Int) := hf 5 (by simp)
      have f6 : u 6 = (.int .u8 (kind : Int)) := hf 6 (by simp)
      have f7 : u 7 = .bool B := hf 7 (by simp)
      have f8 : u 8 = .bool true := hf 8 (by simp)
      have f9 : u 9 = (.bool true) := hf 9 (by simp)
      simp only [resOf, spec, RSpec.resAt, z0, z1, z2, z3, z4, z5, z6, z7, ptrBlk] at S ⊢
      simp only [f0, f1, f2, f3, f4, f5, f6, f7, f8, f9]
      refine ⟨rfl, ?_⟩
      simp only [does]
      go_simp
      try first | exact S | exact ⟨vv, S⟩ | exact vv
    · clear hi
      refine step_of_g rfl rfl ?_
      intro u G w hf S
      have f0 : u 0 = .pointer (some ⟨g9, 1, none⟩) := hf 0 (by simp)
      have f1 : u 1 = .int .u8 (t.role.toNat : Int) := hf 1 (by simp)
      have f2 : u 2 = (.int .u8 (kind : Int)) := hf 2 (by simp)
      have f3 : u 3 = .bool B := hf 3 (by simp)
      have f4 : u 4 = .pointer (some ⟨g9, 1, none⟩) := hf 4 (by simp)
      have f5 : u 5 = .int .u8 (t.role.toNat : Int) := hf 5 (by simp)
      have f6 : u 6 = (.int .u8 (kind : Int)) := hf 6 (by simp)
      have f7 : u 7 = .bool B := hf 7 (by simp)
      have f8 : u 8 = .bool true := hf 8 (by simp)
      have f9 : u 9 = (.bool true) := hf 9 (by simp)
      simp only [resOf, spec, RSpec.resAt, z0, z1, z2, z3, z4, z5, z6, z7, ptrBlk] at S ⊢
      simp only [f0, f1, f2, f3, f4, f5, f6, f7, f8, f9]
      refine ⟨rfl, ?_⟩
      simp only [does]
      go_simp
      try first | exact S | exact ⟨vv, S⟩ | exact vv
    · clear hi
      refine step_of_g rfl rfl ?_
      intro u G w hf S
      have f0 : u 0 = .pointer (some ⟨g9, 1, none⟩) := hf 0 (by simp)
      have f1 : u 1 = .int .u8 (t.role.toNat : Int) := hf 1 (by simp)
      have f2 : u 2 = (.int .u8 (kind : Int)) := hf 2 (by simp)
      have f3 : u 3 = .bool B := hf 3 (by simp)
      have f4 : u 4 = .pointer (some ⟨g9, 1, none⟩) := hf 4 (by simp)
      have f5 : u 5 = .int .u8 (t.role.toNat : Int) := hf 5 (by simp)
      have f6 : u 6 = (.int .u8 (kind : Int)) := hf 6 (by simp)
      have f7 : u 7 = .bool B := hf 7 (by simp)
      have f8 : u 8 = .bool true := hf 8 (by simp)
      have f9 : u 9 = (.bool true) := hf 9 (by simp)
      have f10 : u 10 = (.slice a0 l.length c0) := hf 10 (by simp)
      have f11 : u 11 = (.slice a1 key.length c1) := hf 11 (by simp)
      have f12 : u 12 = (.int .i64 tenant) := hf 12 (by simp)
      have f13 : u 13 = .agg (tokL t).toArray := hf 13 (by simp)
      have f14 : u 14 = (.int .u8 (kind : Int)) := hf 14 (by simp)
      have f15 : u 15 = (.int .u64 (now : Int)) := hf 15 (by simp)
      have f16 : u 16 = .int .i64 E := hf 16 (by simp)
      have f17 : u 17 = (.slice a0 l.length c0) := hf 17 (by simp)
      have f18 : u 18 = (.slice a1 key.length c1) := hf 18 (by simp)
      have f19 : u 19 = (.int .i64 tenant) := hf 19 (by simp)
      have f20 : u 20 = .agg (tokL t).toArray := hf 20 (by simp)
      have f21 : u 21 = (.int .u8 (kind : Int)) := hf 21 (by simp)
      have f22 : u 22 = (.int .u64 (now : Int)) := hf 22 (by simp)
      simp only [resOf, spec, RSpec.resAt, z0, z1, z2, z3, z4, z5, z6, z7, ptrBlk] at S ⊢
      simp only [f0, f1, f2, f3, f4, f5, f6, f7, f8, f9, f10, f11, f12, f13, f14, f15, f16, f17, f18, f19, f20, f21, f22]
      refine ⟨rfl, ?_⟩
      refine does_fn (args := [((.slice a0 l.length c0)), ((.slice a1 key.length c1)), ((.int .i64 tenant)), (.agg (tokL t).toArray), ((.int .u8 (kind : Int))), ((.int .u64 (now : Int)))]) Tryd.func30 (by kernel_rfl) (by kernel_rfl) (P4.out w (S.old H1.out) (S.oldB H2.out)) rfl ?_
      rintro e w1 ⟨rfl, T⟩
      exact ⟨_, rfl, rfl, S.call T⟩
    · clear hi
      refine step_of_g rfl rfl ?_
      intro u G w hf S
      have f0 : u 0 = .pointer (some ⟨g9, 1, none⟩) := hf 0 (by simp)
      have f1 : u 1 = .int .u8 (t.role.toNat : Int) := hf 1 (by simp)
      have f2 : u 2 = (.int .u8 (kind : Int)) := hf 2 (by simp)
      have f3 : u 3 = .bool B := hf 3 (by simp)
      have f4 : u 4 = .pointer (some ⟨g9, 1, none⟩) := hf 4 (by simp)
      have f5 : u 5 = .int .u8 (t.role.toNat : Int) := hf 5 (by simp)
      have f6 : u 6 = (.int .u8 (kind : Int)) := hf 6 (by simp)
      have f7 : u 7 = .bool B := hf 7 (by simp)
      have f8 : u 8 = .bool true := hf 8 (by simp)
      have f9 : u 9 = (.bool true) := hf 9 (by simp)
      have f10 : u 10 = (.slice a0 l.length c0) := hf 10 (by simp)
      have f11 : u 11 = (.slice a1 key.length c1) := hf 11 (by simp)
      have f12 : u 12 = (.int .i64 tenant) := hf 12 (by simp)
      have f13 : u 13 = .agg (tokL t).toArray := hf 13 (by simp)
      have f14 : u 14 = (.int .u8 (kind : Int)) := hf 14 (by simp)
      have f15 : u 15 = (.int .u64 (now : Int)) := hf 15 (by simp)
      have f16 : u 16 = .int .i64 E := hf 16 (by simp)
      have f17 : u 17 = (.slice a0 l.length c0) := hf 17 (by simp)
      have f18 : u 18 = (.slice a1 key.length c1) := hf 18 (by simp)
      have f19 : u 19 = (.int .i64 tenant) := hf 19 (by simp)
      have f20 : u 20 = .agg (tokL t).toArray := hf 20 (by simp)
      have f21 : u 21 = (.int .u8 (kind : Int)) := hf 21 (by simp)
      have f22 : u 22 = (.int .u64 (now : Int)) := hf 22 (by simp)
      have f23 : u 23 = .int .i64 E := hf 23 (by simp)
      simp only [resOf, spec, RSpec.resAt, z0, z1, z2, z3, z4, z5, z6, z7, ptrBlk] at S ⊢
      simp only [f0, f1, f2, f3, f4, f5, f6, f7, f8, f9, f10, f11, f12, f13, f14, f15, f16, f17, f18, f19, f20, f21, f22, f23]
      refine ⟨rfl, ?_⟩
      simp only [does]
      go_simp
      try first | exact S | exact ⟨vv, S⟩ | exact vv
    · clear hi
      refine step_of rfl rfl rfl ?_
      intro u G w hf S
      have f0 : u 0 = .pointer (some ⟨g9, 1, none⟩) := hf 0 (by simp)
      have f1 : u 1 = .int .u8 (t.role.toNat : Int) := hf 1 (by simp)
      have f2 : u 2 = (.int .u8 (kind : Int)) := hf 2 (by simp)
      have f3 : u 3 = .bool B := hf 3 (by simp)
      have f4 : u 4 = .pointer (some ⟨g9, 1, none⟩) := hf 4 (by simp)
      have f5 : u 5 = .int .u8 (t.role.toNat : Int) := hf 5 (by simp)
      have f6 : u 6 = (.int .u8 (kind : Int)) := hf 6 (by simp)
      have f7 : u 7 = .bool B := hf 7 (by simp)
      have f8 : u 8 = .bool true := hf 8 (by simp)
      have f9 : u 9 = (.bool true) := hf 9 (by simp)
      have f10 : u 10 = (.slice a0 l.length c0) := hf 10 (by simp)
      have f11 : u 11 = (.slice a1 key.length c1) := hf 11 (by simp)
      have f12 : u 12 = (.int .i64 tenant) := hf 12 (by simp)
      have f13 : u 13 = .agg (tokL t).toArray := hf 13 (by simp)
      have f14 : u 14 = (.int .u8 (kind : Int)) := hf 14 (by simp)
      have f15 : u 15 = (.int .u64 (now : Int)) := hf 15 (by simp)
      have f16 : u 16 = .int .i64 E := hf 16 (by simp)
      have f17 : u 17 = (.slice a0 l.length c0) := hf 17 (by simp)
      have f18 : u 18 = (.slice a1 key.length c1) := hf 18 (by simp)
      have f19 : u 19 = (.int .i64 tenant) := hf 19 (by simp)
      have f20 : u 20 = .agg (tokL t).toArray := hf 20 (by simp)
      have f21 : u 21 = (.int .u8 (kind : Int)) := hf 21 (by simp)
      have f22 : u 22 = (.int .u64 (now : Int)) := hf 22 (by simp)
      have f23 : u 23 = .int .i64 E := hf 23 (by simp)
      have f24 : u 24 = .bool true := hf 24 (by simp)
      simp only [resOf, spec, RSpec.resAt, z0, z1, z2, z3, z4, z5, z6, z7, ptrBlk] at S ⊢
      simp only [f0, f1, f2, f3, f4, f5, f6, f7, f8, f9, f10, f11, f12, f13, f14, f15, f16, f17, f18, f19, f20, f21, f22, f23, f24]
      simp only [does]
      go_simp
      try first | exact S | exact ⟨vv, S⟩ | exact vv
    · clear hi
      refine step_of rfl rfl rfl ?_
      intro u G w hf S
      have f0 : u 0 = .pointer (some ⟨g9, 1, none⟩) := hf 0 (by simp)
      have f1 : u 1 = .int .u8 (t.role.toNat : Int) := hf 1 (by simp)
      have f2 : u 2 = (.int .u8 (kind : Int)) := hf 2 (by simp)
      have f3 : u 3 = .bool B := hf 3 (by simp)
      have f4 : u 4 = .pointer (some ⟨g9, 1, none⟩) := hf 4 (by simp)
      have f5 : u 5 = .int .u8 (t.role.toNat : Int) := hf 5 (by simp)
      have f6 : u 6 = (.int .u8 (kind : Int)) := hf 6 (by simp)
      have f7 : u 7 = .bool B := hf 7 (by simp)
      have f8 : u 8 = .bool true := hf 8 (by simp)
      have f9 : u 9 = (.bool true) := hf 9 (by simp)
      have f10 : u 10 = (.slice a0 l.length c0) := hf 10 (by simp)
      have f11 : u 11 = (.slice a1 key.length c1) := hf 11 (by simp)
      have f12 : u 12 = (.int .i64 tenant) := hf 12 (by simp)
      have f13 : u 13 = .agg (tokL t).toArray := hf 13 (by simp)
      have f14 : u 14 = (.int .u8 (kind : Int)) := hf 14 (by simp)
      have f15 : u 15 = (.int .u64 (now : Int)) := hf 15 (by simp)
      have f16 : u 16 = .int .i64 E := hf 16 (by simp)
      have f17 : u 17 = (.slice a0 l.length c0) := hf 17 (by simp)
      have f18 : u 18 = (.slice a1 key.length c1) := hf 18 (by simp)
      have f19 : u 19 = (.int .i64 tenant) := hf 19 (by simp)
      have f20 : u 20 = .agg (tokL t).toArray := hf 20 (by simp)
      have f21 : u 21 = (.int .u8 (kind : Int)) := hf 21 (by simp)
      have f22 : u 22 = (.int .u64 (now : Int)) := hf 22 (by simp)
      have f23 : u 23 = .int .i64 E := hf 23 (by simp)
      have f24 : u 24 = .bool true := hf 24 (by simp)
      have f25 : u 25 = .bool true := hf 25 (by simp)
      simp only [resOf, spec, RSpec.resAt, z0, z1, z2, z3, z4, z5, z6, z7, ptrBlk] at S ⊢
      simp only [f0, f1, f2, f3, f4, f5, f6, f7, f8, f9, f10, f11, f12, f13, f14, f15, f16, f17, f18, f19, f20, f21, f22, f23, f24, f25]
      simp only [does]
      go_simp
      try first | exact S | exact ⟨vv, S⟩ | exact vv
  case fin10 =>
    intro u w hf S
    have f0 : u 0 = .pointer (some ⟨g9, 1, none⟩) := hf 0 (by simp)
    have f1 : u 1 = .int .u8 (t.role.toNat : Int) := hf 1 (by simp)
    have f2 : u 2 = (.int .u8 (kind : Int)) := hf 2 (by simp)
    have f3 : u 3 = .bool B := hf 3 (by simp)
    have f4 : u 4 = .pointer (some ⟨g9, 1, none⟩) := hf 4 (by simp)
    have f5 : u 5 = .int .u8 (t.role.toNat : Int) := hf 5 (by simp)
    have f6 : u 6 = (.int .u8 (kind : Int)) := hf 6 (by simp)
    have f7 : u 7 = .bool B := hf 7 (by simp)
    have f8 : u 8 = .bool true := hf 8 (by simp)
    have f9 : u 9 = (.bool true) := hf 9 (by simp)
    have f10 : u 10 = (.slice a0 l.length c0) := hf 10 (by simp)
    have f11 : u 11 = (.slice a1 key.length c1) := hf 11 (by simp)
    have f12 : u 12 = (.int .i64 tenant) := hf 12 (by simp)
    have f13 : u 13 = .agg (tokL t).toArray := hf 13 (by simp)
    have f14 : u 14 = (.int .u8 (kind : Int)) := hf 14 (by simp)
    have f15 : u 15 = (.int .u64 (now : Int)) := hf 15 (by simp)
    have f16 : u 16 = .int .i64 E := hf 16 (by simp)
    have f17 : u 17 = (.slice a0 l.length c0) := hf 17 (by simp)
    have f18 : u 18 = (.slice a1 key.length c1) := hf 18 (by simp)
    have f19 : u 19 = (.int .i64 tenant) := hf 19 (by simp)
    have f20 : u 20 = .agg (tokL t).toArray := hf 20 (by simp)
    have f21 : u 21 = (.int .u8 (kind : Int)) := hf 21 (by simp)
    have f22 : u 22 = (.int .u64 (now : Int)) := hf 22 (by simp)
    have f23 : u 23 = .int .i64 E := hf 23 (by simp)
    have f24 : u 24 = .bool true := hf 24 (by simp)
    have f25 : u 25 = .bool true := hf 25 (by simp)
    have f26 : u 26 = (.bool true) := hf 26 (by simp)
    simp only [resOf, spec, RSpec.resAt, z0, z1, z2, z3, z4, z5, z6, z7, ptrBlk] at S
    clear hf
    simp only [List.length_cons, List.length_nil, Nat.zero_add, Nat.reduceAdd, List.drop_succ_cons, List.drop_zero, f0, f1, f2, f3, f4, f5, f6, f7, f8, f9, f10, f11, f12, f13, f14, f15, f16, f17, f18, f19, f20, f21, f22, f23, f24, f25, f26]
    clear f0 f1 f2 f3 f4 f5 f6 f7 f8 f9 f10 f11 f12 f13 f14 f15 f16 f17 f18 f19 f20 f21 f22 f23 f24 f25 f26
    go_wp2_with (first | ((with_reducible show wpList _ _ _ (⟨some 9, .box 27 (.tmp 3), _, _, _, _⟩ :: _) _ _); refine step_boxA (dst := some 9) S 27 (.tmp 3) _ rfl gw ?_; clear S; intro g9 w S) | ((with_reducible show wpList _ _ _ (⟨_, .load 5 _, _, _, _, _⟩ :: _) _ _); first | (refine step_load1 5 _ _ _ rfl (S.cell pk co) _ Tryd.underlying5 rfl gw ?_) | (refine step_load1 5 _ _ _ rfl (S.row_cell pk _ _ hyr) _ Tryd.underlying5 rfl gw ?_) | (refine step_load1 5 _ _ _ rfl (S.row_cellS pk _ _ hy) _ Tryd.underlying5 rfl gw ?_) | (refine step_load1 5 _ _ _ rfl (S.old_cell hy) _ Tryd.underlying5 rfl gw ?_)) | ((with_reducible show wpList _ _ _ (⟨_, .load 27 _, _, _, _, _⟩ :: _) _ _); first | (refine step_load S 27 _ _ rfl _ _ _ pk _ Tryd.underlying27 rfl 36 (by kernel_rfl) (by first | rfl | (first | rfl | assumption | (exact Hid.out (by assumption)) | (exact tokL_size _) | (rw [arr8_size]; first | rfl | assumption | (exact Hid.out (by assumption)) | exact tokL_size _ | exact List.length_replicate ..) | (simp [arr8_size]; done))) gw ?_) | (refine step_loadO 27 _ _ rfl _ _ _ (S.old_heap (Hid.out (by assumption))) _ Tryd.underlying27 rfl 36 (by kernel_rfl) (by first | rfl | (first | rfl | assumption | (exact Hid.out (by assumption)) | (exact tokL_size _) | (rw [arr8_size]; first | rfl | assumption | (exact Hid.out (by assumption)) | exact tokL_size _ | exact List.length_replicate ..) | (simp [arr8_size]; done))) gw ?_) | (refine step_loadR 27 _ _ _ rfl _ (S.old_range hy) _ Tryd.underlying27 rfl 36 (by kernel_rfl) (by first | rfl | (first | rfl | assumption | (exact Hid.out (by assumption)) | (exact tokL_size _) | (rw [arr8_size]; first | rfl | assumption | (exact Hid.out (by assumption)) | exact tokL_size _ | exact List.length_replicate ..) | (simp [arr8_size]; done))) _ rfl gw ?_)) | fail)
    go_ret
    exact ⟨rfl, S.nil⟩
end Go.Proofs.YtioonimpobcglaaDoor
