/- Rings: the entry with a number, one more entry: what the program's and the specification's functions return. No condition but the reach. -/
import Derived.Test.YtioonimpobcglaaRingC
set_option linter.unusedSimpArgs false
set_option linter.unusedVariables false
namespace Go.Proofs.Ytioonimpobcglaa
open Go.RowKit

set_option maxRecDepth 100000 in
set_option maxHeartbeats 2000000 in
theorem entry_none (v : Value) (l : List Mnt) (n : Nat) (w0 : World) (h : Rg w0 v l) (hn : n < 4294967296) (he : entR l n = none) :
    Calls Try.prog 16 #[v, .int .u32 (n : Int)] w0 fun e w' => e = .returned (.tuple #[.agg (mintL mintZ).toArray, .bool false]) ∧ Has w0 w' [] := by
  have S := Has.start w0
  obtain ⟨a0, c0, rfl, k1, k2⟩ := Sl.shape h
  unfold maxLen at k2
  cases n with
  | zero =>
    have H := Lib.hid h; clear h
    clear he
    go_enter Try.func16, Try.ntmps16
    go_wp2_with (first | ((with_reducible show wpList _ _ _ (⟨some 4, .alloc 35, _, _, _, _⟩ :: _) _ _); refine step_alloc (dst := some 4) S 35 (.agg ((mintL mintZ).toArray)) ((mintL mintZ).toArray) (by kernel_rfl) rfl (by (first | rfl | (simp only [Region.wanted, yielded]; go_simp; done) | (go_simp; done))) ?_; clear S; intro g4 w S) | ((with_reducible show wpList _ _ _ (⟨none, .store 35 (.tmp 4) (.tmp 16), _, _, _, _⟩ :: _) _ _); refine step_store S 35 (.tmp 4) (.tmp 16) _ _ rfl rfl _ _ (by (repeat (first | exact Pick.head _ _ | apply Pick.tail)); first | done | fail) 3 (by kernel_rfl) (by first | rfl | (first | rfl | assumption | (exact Hid.out (by assumption)) | (rw [arr8_size]; first | rfl | assumption | (exact Hid.out (by assumption)) | exact List.length_replicate ..) | (simp [arr8_size]; done))) (by first | rfl | (first | rfl | assumption | (exact Hid.out (by assumption)) | (rw [arr8_size]; first | rfl | assumption | (exact Hid.out (by assumption)) | exact List.length_replicate ..) | (simp [arr8_size]; done))) (by (first | exact arr8_one _ | exact cellsH_one .. | exact fldA_one .. | exact cellsS_one .. | exact mintL_one .. | rfl | (simp [one_slice, one_int, one_bool]; done))) (by (first | rfl | (simp only [Region.wanted, yielded]; go_simp; done) | (go_simp; done))) ?_; clear S; intro w S) | ((with_reducible show wpList _ _ _ (⟨some 21, .load 35 (.tmp 20), _, _, _, _⟩ :: _) _ _); first | (refine step_loadR 35 (.tmp 20) _ _ rfl _ (S.old_range (by first | assumption | exact Hid.out (by assumption))) _ Try.underlying35 rfl 3 (by kernel_rfl) (by first | rfl | (first | rfl | assumption | (exact Hid.out (by assumption)) | (rw [arr8_size]; first | rfl | assumption | (exact Hid.out (by assumption)) | exact List.length_replicate ..) | (simp [arr8_size]; done))) _ rfl (by (first | rfl | (simp only [Region.wanted, yielded]; go_simp; done) | (go_simp; done))) ?_) | (refine step_loadP S 35 (.tmp 20) _ _ rfl _ _ _ (by (repeat (first | exact Pick.head _ _ | apply Pick.tail)); first | done | fail) 3 _ (by (first | exact cellsH_st .. | assumption | rfl)) (by first | rfl | (first | rfl | assumption | (exact Hid.out (by assumption)) | (rw [arr8_size]; first | rfl | assumption | (exact Hid.out (by assumption)) | exact List.length_replicate ..) | (simp [arr8_size]; done))) _ Try.underlying35 rfl (by kernel_rfl) (by (first | rfl | (simp only [Region.wanted, yielded]; go_simp; done) | (go_simp; done))) ?_)) | ((with_reducible show wpList _ _ _ (⟨none, .store 35 (.tmp 4) (.tmp 21), _, _, _, _⟩ :: _) _ _); refine step_store S 35 (.tmp 4) (.tmp 21) _ _ rfl rfl _ _ (by (repeat (first | exact Pick.head _ _ | apply Pick.tail)); first | done | fail) 3 (by kernel_rfl) (by first | rfl | (first | rfl | assumption | (exact Hid.out (by assumption)) | (rw [arr8_size]; first | rfl | assumption | (exact Hid.out (by assumption)) | exact List.length_replicate ..) | (simp [arr8_size]; done))) (by first | rfl | (first | rfl | assumption | (exact Hid.out (by assumption)) | (rw [arr8_size]; first | rfl | assumption | (exact Hid.out (by assumption)) | exact List.length_replicate ..) | (simp [arr8_size]; done))) (by (first | exact arr8_one _ | exact cellsH_one .. | exact fldA_one .. | exact cellsS_one .. | exact mintL_one .. | rfl | (simp [one_slice, one_int, one_bool]; done))) (by (first | rfl | (simp only [Region.wanted, yielded]; go_simp; done) | (go_simp; done))) ?_; clear S; intro w S) | fail)
    refine ret_row_tmp rfl g4 35 _ (S.get (by (repeat (first | exact Pick.head _ _ | apply Pick.tail)); first | done | fail)) _ Try.underlying35 3 (by kernel_rfl) (by first | rfl | (first | rfl | assumption | (exact Hid.out (by assumption)) | (rw [arr8_size]; first | rfl | assumption | (exact Hid.out (by assumption)) | exact List.length_replicate ..) | (simp [arr8_size]; done))) rfl rfl rfl ?_
    exact ⟨rfl, S.nil⟩
  | succ k =>
    have hk : l.length ≤ k := by
      have : l[k]? = none := he
      simpa using this
    have hki : (l.length : Int) < (k : Int) + 1 := by omega
    have H := Lib.hid h; clear h
    clear he
    go_enter Try.func16, Try.ntmps16
    go_wp2_with (first | ((with_reducible show wpList _ _ _ (⟨some 4, .alloc 35, _, _, _, _⟩ :: _) _ _); refine step_alloc (dst := some 4) S 35 (.agg ((mintL mintZ).toArray)) ((mintL mintZ).toArray) (by kernel_rfl) rfl (by (first | rfl | (simp only [Region.wanted, yielded]; go_simp; done) | (go_simp; done))) ?_; clear S; intro g4 w S) | ((with_reducible show wpList _ _ _ (⟨none, .store 35 (.tmp 4) (.tmp 16), _, _, _, _⟩ :: _) _ _); refine step_store S 35 (.tmp 4) (.tmp 16) _ _ rfl rfl _ _ (by (repeat (first | exact Pick.head _ _ | apply Pick.tail)); first | done | fail) 3 (by kernel_rfl) (by first | rfl | (first | rfl | assumption | (exact Hid.out (by assumption)) | (rw [arr8_size]; first | rfl | assumption | (exact Hid.out (by assumption)) | exact List.length_replicate ..) | (simp [arr8_size]; done))) (by first | rfl | (first | rfl | assumption | (exact Hid.out (by assumption)) | (rw [arr8_size]; first | rfl | assumption | (exact Hid.out (by assumption)) | exact List.length_replicate ..) | (simp [arr8_size]; done))) (by (first | exact arr8_one _ | exact cellsH_one .. | exact fldA_one .. | exact cellsS_one .. | exact mintL_one .. | rfl | (simp [one_slice, one_int, one_bool]; done))) (by (first | rfl | (simp only [Region.wanted, yielded]; go_simp; done) | (go_simp; done))) ?_; clear S; intro w S) | ((with_reducible show wpList _ _ _ (⟨some 21, .load 35 (.tmp 20), _, _, _, _⟩ :: _) _ _); first | (refine step_loadR 35 (.tmp 20) _ _ rfl _ (S.old_range (by first | assumption | exact Hid.out (by assumption))) _ Try.underlying35 rfl 3 (by kernel_rfl) (by first | rfl | (first | rfl | assumption | (exact Hid.out (by assumption)) | (rw [arr8_size]; first | rfl | assumption | (exact Hid.out (by assumption)) | exact List.length_replicate ..) | (simp [arr8_size]; done))) _ rfl (by (first | rfl | (simp only [Region.wanted, yielded]; go_simp; done) | (go_simp; done))) ?_) | (refine step_loadP S 35 (.tmp 20) _ _ rfl _ _ _ (by (repeat (first | exact Pick.head _ _ | apply Pick.tail)); first | done | fail) 3 _ (by (first | exact cellsH_st .. | assumption | rfl)) (by first | rfl | (first | rfl | assumption | (exact Hid.out (by assumption)) | (rw [arr8_size]; first | rfl | assumption | (exact Hid.out (by assumption)) | exact List.length_replicate ..) | (simp [arr8_size]; done))) _ Try.underlying35 rfl (by kernel_rfl) (by (first | rfl | (simp only [Region.wanted, yielded]; go_simp; done) | (go_simp; done))) ?_)) | ((with_reducible show wpList _ _ _ (⟨none, .store 35 (.tmp 4) (.tmp 21), _, _, _, _⟩ :: _) _ _); refine step_store S 35 (.tmp 4) (.tmp 21) _ _ rfl rfl _ _ (by (repeat (first | exact Pick.head _ _ | apply Pick.tail)); first | done | fail) 3 (by kernel_rfl) (by first | rfl | (first | rfl | assumption | (exact Hid.out (by assumption)) | (rw [arr8_size]; first | rfl | assumption | (exact Hid.out (by assumption)) | exact List.length_replicate ..) | (simp [arr8_size]; done))) (by first | rfl | (first | rfl | assumption | (exact Hid.out (by assumption)) | (rw [arr8_size]; first | rfl | assumption | (exact Hid.out (by assumption)) | exact List.length_replicate ..) | (simp [arr8_size]; done))) (by (first | exact arr8_one _ | exact cellsH_one .. | exact fldA_one .. | exact cellsS_one .. | exact mintL_one .. | rfl | (simp [one_slice, one_int, one_bool]; done))) (by (first | rfl | (simp only [Region.wanted, yielded]; go_simp; done) | (go_simp; done))) ?_; clear S; intro w S) | fail)
    refine ret_row_tmp rfl g4 35 _ (S.get (by (repeat (first | exact Pick.head _ _ | apply Pick.tail)); first | done | fail)) _ Try.underlying35 3 (by kernel_rfl) (by first | rfl | (first | rfl | assumption | (exact Hid.out (by assumption)) | (rw [arr8_size]; first | rfl | assumption | (exact Hid.out (by assumption)) | exact List.length_replicate ..) | (simp [arr8_size]; done))) rfl rfl rfl ?_
    exact ⟨rfl, S.nil⟩

set_option maxRecDepth 100000 in
set_option maxHeartbeats 2000000 in
theorem entry_some (v : Value) (l : List Mnt) (n : Nat) (x : Mnt) (w0 : World) (h : Rg w0 v l) (hn : n < 4294967296) (he : entR l n = some x) :
    Calls Try.prog 16 #[v, .int .u32 (n : Int)] w0 fun e w' => e = .returned (.tuple #[.agg (mintL x).toArray, .bool true]) ∧ Has w0 w' [] := by
  have S := Has.start w0
  obtain ⟨a0, c0, rfl, k1, k2⟩ := Sl.shape h
  unfold maxLen at k2
  cases n with
  | zero => cases he
  | succ k =>
    have hk : l[k]? = some x := he
    have hkl := (List.getElem?_eq_some_iff.1 hk).1
    obtain ⟨b, off, rfl, hr, _⟩ := Rg.cells h k x hk
    have hki : ¬ (l.length : Int) < (k : Int) + 1 := by omega
    have hki2 : (k : Int) < (l.length : Int) := by omega
    have H := Lib.hid h; have HR := Lib.hid hr; clear h hr
    clear he hk
    go_enter Try.func16, Try.ntmps16
    go_wp2_with (first | ((with_reducible show wpList _ _ _ (⟨some 4, .alloc 35, _, _, _, _⟩ :: _) _ _); refine step_alloc (dst := some 4) S 35 (.agg ((mintL mintZ).toArray)) ((mintL mintZ).toArray) (by kernel_rfl) rfl (by (first | rfl | (simp only [Region.wanted, yielded]; go_simp; done) | (go_simp; done))) ?_; clear S; intro g4 w S) | ((with_reducible show wpList _ _ _ (⟨none, .store 35 (.tmp 4) (.tmp 16), _, _, _, _⟩ :: _) _ _); refine step_store S 35 (.tmp 4) (.tmp 16) _ _ rfl rfl _ _ (by (repeat (first | exact Pick.head _ _ | apply Pick.tail)); first | done | fail) 3 (by kernel_rfl) (by first | rfl | (first | rfl | assumption | (exact Hid.out (by assumption)) | (rw [arr8_size]; first | rfl | assumption | (exact Hid.out (by assumption)) | exact List.length_replicate ..) | (simp [arr8_size]; done))) (by first | rfl | (first | rfl | assumption | (exact Hid.out (by assumption)) | (rw [arr8_size]; first | rfl | assumption | (exact Hid.out (by assumption)) | exact List.length_replicate ..) | (simp [arr8_size]; done))) (by (first | exact arr8_one _ | exact cellsH_one .. | exact fldA_one .. | exact cellsS_one .. | exact mintL_one .. | rfl | (simp [one_slice, one_int, one_bool]; done))) (by (first | rfl | (simp only [Region.wanted, yielded]; go_simp; done) | (go_simp; done))) ?_; clear S; intro w S) | ((with_reducible show wpList _ _ _ (⟨some 21, .load 35 (.tmp 20), _, _, _, _⟩ :: _) _ _); first | (refine step_loadR 35 (.tmp 20) _ _ rfl _ (S.old_range (by first | assumption | exact Hid.out (by assumption))) _ Try.underlying35 rfl 3 (by kernel_rfl) (by first | rfl | (first | rfl | assumption | (exact Hid.out (by assumption)) | (rw [arr8_size]; first | rfl | assumption | (exact Hid.out (by assumption)) | exact List.length_replicate ..) | (simp [arr8_size]; done))) _ rfl (by (first | rfl | (simp only [Region.wanted, yielded]; go_simp; done) | (go_simp; done))) ?_) | (refine step_loadP S 35 (.tmp 20) _ _ rfl _ _ _ (by (repeat (first | exact Pick.head _ _ | apply Pick.tail)); first | done | fail) 3 _ (by (first | exact cellsH_st .. | assumption | rfl)) (by first | rfl | (first | rfl | assumption | (exact Hid.out (by assumption)) | (rw [arr8_size]; first | rfl | assumption | (exact Hid.out (by assumption)) | exact List.length_replicate ..) | (simp [arr8_size]; done))) _ Try.underlying35 rfl (by kernel_rfl) (by (first | rfl | (simp only [Region.wanted, yielded]; go_simp; done) | (go_simp; done))) ?_)) | ((with_reducible show wpList _ _ _ (⟨none, .store 35 (.tmp 4) (.tmp 21), _, _, _, _⟩ :: _) _ _); refine step_store S 35 (.tmp 4) (.tmp 21) _ _ rfl rfl _ _ (by (repeat (first | exact Pick.head _ _ | apply Pick.tail)); first | done | fail) 3 (by kernel_rfl) (by first | rfl | (first | rfl | assumption | (exact Hid.out (by assumption)) | (rw [arr8_size]; first | rfl | assumption | (exact Hid.out (by assumption)) | exact List.length_replicate ..) | (simp [arr8_size]; done))) (by first | rfl | (first | rfl | assumption | (exact Hid.out (by assumption)) | (rw [arr8_size]; first | rfl | assumption | (exact Hid.out (by assumption)) | exact List.length_replicate ..) | (simp [arr8_size]; done))) (by (first | exact arr8_one _ | exact cellsH_one .. | exact fldA_one .. | exact cellsS_one .. | exact mintL_one .. | rfl | (simp [one_slice, one_int, one_bool]; done))) (by (first | rfl | (simp only [Region.wanted, yielded]; go_simp; done) | (go_simp; done))) ?_; clear S; intro w S) | fail)
    refine ret_row_tmp rfl g4 35 _ (S.get (by (repeat (first | exact Pick.head _ _ | apply Pick.tail)); first | done | fail)) _ Try.underlying35 3 (by kernel_rfl) (by first | rfl | (first | rfl | assumption | (exact Hid.out (by assumption)) | (rw [arr8_size]; first | rfl | assumption | (exact Hid.out (by assumption)) | exact List.length_replicate ..) | (simp [arr8_size]; done))) rfl rfl rfl ?_
    exact ⟨rfl, S.nil⟩

/-- A ring, a number and an error. -/
def MadeM3 (w : World) (l : List Mnt) (n : Nat) (E : Int) (e : Ending) (w' : World) : Prop := ∃ v, e = .returned (.tuple #[v, .int .u32 (n : Int), .int .i64 E]) ∧ Has w w' [rowM v l]
/-- A ring and an error. -/
def MadeM2 (w : World) (l : List Mnt) (E : Int) (e : Ending) (w' : World) : Prop := ∃ v, e = .returned (.tuple #[v, .int .i64 E]) ∧ Has w w' [rowM v l]
/-- Numbers and an error. -/
def MadeN2 (w : World) (l : List UInt32) (E : Int) (e : Ending) (w' : World) : Prop := ∃ v, e = .returned (.tuple #[v, .int .i64 E]) ∧ Has w w' [row32 v l]

theorem chkR_len (l : List Mnt) (h : chkR l = 0) : l.length ≤ 32 := by
  unfold chkR at h
  split at h
  · cases h
  · omega

theorem mintM_cells (role life now x : Nat) (hr : role < 256) (hx : x = expM now life) (hx2 : x < 18446744073709551616) : (mintL (mintM role life now)).toArray = #[.int .u8 (role : Int), .int .u64 (x : Int), .bool false] := by
  unfold mintL mintM
  rw [← hx]
  simp only [UInt8.toNat_ofNat', UInt64.toNat_ofNat']
  rw [Nat.mod_eq_of_lt (by simpa using hr), Nat.mod_eq_of_lt (by simpa using hx2)]

theorem mint_no (l : List Mnt) (role life now : Nat) (h : mintE l role life now ≠ 0) : mintR l role life now = [] ∧ mintN l role life now = 0 := by
  unfold mintR mintN
  rw [if_neg h, if_neg h]
  exact ⟨rfl, rfl⟩

set_option maxRecDepth 100000 in
set_option maxHeartbeats 4000000 in
theorem mint_r (v : Value) (l : List Mnt) (role life now : Nat) (w0 : World) (h : Rg w0 v l) (hr : role < 256) (hlf : life < 18446744073709551616) (hno : now < 18446744073709551616) :
    Calls Try.prog 5 #[v, .int .u8 (role : Int), .int .u64 (life : Int), .int .u64 (now : Int)] w0 (MadeM3 w0 (mintR l role life now) (mintN l role life now) (mintE l role life now)) := by
  have S := Has.start w0
  obtain ⟨a0, c0, rfl, k1, k2⟩ := Sl.shape h
  unfold maxLen at k2
  have hck := fun v w h => check_r v l w h
  by_cases hE : mintE l role life now = 0
  · have hR : mintR l role life now = l ++ [mintM role life now] := if_pos hE
    have hN : mintN l role life now = l.length + 1 := if_pos hE
    rw [hE, hR, hN]
    have hc : chkR l = 0 ∧ ¬ (role < 1 ∨ 3 < role ∨ life = 0 ∨ 4611686018427387904 < life ∨ 4611686018427387904 < now) ∧ l.length ≠ 32 := by
      unfold mintE at hE
      split at hE
      · omega
      · split at hE
        · cases hE
        · split at hE
          · cases hE
          · refine ⟨by omega, by assumption, by assumption⟩
    obtain ⟨hc, hb, hl⟩ := hc
    have h32 := chkR_len l hc
    rw [hc] at hck
    have i1 : ¬ (role : Int) < 1 := by omega
    have i2 : ¬ 3 < (role : Int) := by omega
    have i3 : ((life : Int) == 0) = false := by rw [beq_eq_false_iff_ne]; omega
    have i4 : ¬ 4611686018427387904 < (life : Int) := by omega
    have i5 : ¬ 4611686018427387904 < (now : Int) := by omega
    have i6 : ((l.length : Int) == 32) = false := by rw [beq_eq_false_iff_ne]; omega
    have hcl := fun v w h => cloneM_s v l w h (by omega)
    obtain ⟨M, hM⟩ : ∃ M, M = mintM role life now := ⟨_, rfl⟩
    have hle : (l.length + [M].length) * 24 ≤ 140737488355328 := by simp; omega
    have hle2 : (l ++ [M]).length = l.length + 1 := by simp
    by_cases hmn : now + life ≤ 4611686018427387904
    · have hz1 : (now : Int) + (life : Int) ≤ 4611686018427387904 := by omega
      have hz2 : ¬ 4611686018427387904 < (now : Int) + (life : Int) := by omega
      have hmc := mintM_cells role life now (now + life) hr (if_pos hmn).symm (by omega)
      rw [← hM] at hmc ⊢
      have H := Lib.hid h; have HCK := Lib.hid hck; have HMC := Lib.hid hmc; have HCL := Lib.hid hcl; have HLE := Lib.hid hle; have HLE2 := Lib.hid hle2; clear h hck hmc hcl hle hle2
      clear hM hE hR hN hc hb
      go_enter Try.func5, Try.ntmps5
      go_wp2_with (first | ((with_reducible show wpList _ _ _ (⟨some 47, .buildSlice 22 1 _, _, _, _, _⟩ :: _) _ _); refine step_buildS1 S 22 35 3 (.tmp 46) (mintL M) _ Try.underlying22 infoM2 (by decide) (by decide) (show Value.agg _ = .agg (mintL M).toArray by rw [HMC.out]; rfl) rfl (by (first | rfl | (simp only [Region.wanted, yielded]; go_simp; done) | (go_simp; done))) ?_; clear S; intro v47 w S; replace S : Has w0 w [rowM v47 [M], rowM _ l] := S) | (at_builtin; refine step_appendM S (.tmp 40) (.tmp 47) _ _ rfl (by (repeat (first | exact Pick.head _ _ | apply Pick.tail)); first | done | fail) _ [M] rfl (by first | assumption | exact S.old (Hid.out (by assumption)) | exact S.sl (by (repeat (first | exact Pick.head _ _ | apply Pick.tail)); first | done | fail) | exact S.sl_rd (by (repeat (first | exact Pick.head _ _ | apply Pick.tail)); first | done | fail)) HLE.out (by (first | rfl | (simp only [Region.wanted, yielded]; go_simp; done) | (go_simp; done))) ?_; clear S; intro v48 w S; obtain ⟨a48, c48, rfl, _, _⟩ := Sl.shape (S.sl (v := v48) (by (repeat (first | exact Pick.head _ _ | apply Pick.tail)); first | done | fail)); rw [HLE2.out]) | (go_at_call 7; (with_reducible refine (HCK.out _ _ (by first | assumption | exact S.old (Hid.out (by assumption)) | exact S.sl (by (repeat (first | exact Pick.head _ _ | apply Pick.tail)); first | done | fail) | exact S.sl_rd (by (repeat (first | exact Pick.head _ _ | apply Pick.tail)); first | done | fail))).mono ?_); rintro e w1 ⟨rfl, T⟩; replace S := S.call T; clear T; (try simp only [List.nil_append, List.cons_append] at S)) | (go_at_call 15; (with_reducible refine (HCL.out _ _ (by first | assumption | exact S.old (Hid.out (by assumption)) | exact S.sl (by (repeat (first | exact Pick.head _ _ | apply Pick.tail)); first | done | fail) | exact S.sl_rd (by (repeat (first | exact Pick.head _ _ | apply Pick.tail)); first | done | fail))).mono ?_); rintro e w1 ⟨v40, rfl, T⟩; replace S := S.call T; clear T; (try simp only [List.nil_append, List.cons_append] at S)) | (at_builtin; refine step_appendM S (.tmp 40) (.tmp 47) _ _ rfl (by (repeat (first | exact Pick.head _ _ | apply Pick.tail)); first | done | fail) _ _ rfl (by first | assumption | exact S.old (Hid.out (by assumption)) | exact S.sl (by (repeat (first | exact Pick.head _ _ | apply Pick.tail)); first | done | fail) | exact S.sl_rd (by (repeat (first | exact Pick.head _ _ | apply Pick.tail)); first | done | fail)) (by (first | omega | assumption | (exact Hid.out (by assumption)) | (simp only [List.length_append, List.length_cons, List.length_nil]; omega))) (by (first | rfl | (simp only [Region.wanted, yielded]; go_simp; done) | (go_simp; done))) ?_; clear S; intro v48 w S; (try simp only [List.nil_append] at S)) | fail)
      go_ret3
      refine ⟨_, rfl, ?_⟩
      rw [← HLE2.out]
      exact S.sub (by repeat (first | exact Sub.nil _ | refine Sub.cons (by (repeat (first | exact Pick.head _ _ | apply Pick.tail)); first | done | fail) ?_))
    · have hz1 : ¬ (now : Int) + (life : Int) ≤ 4611686018427387904 := by omega
      have hz2 : 4611686018427387904 < (now : Int) + (life : Int) := by omega
      have hmc := mintM_cells role life now 4611686018427387904 hr (if_neg hmn).symm (by omega)
      rw [← hM] at hmc ⊢
      have H := Lib.hid h; have HCK := Lib.hid hck; have HMC := Lib.hid hmc; have HCL := Lib.hid hcl; have HLE := Lib.hid hle; have HLE2 := Lib.hid hle2; clear h hck hmc hcl hle hle2
      clear hM hE hR hN hc hb
      go_enter Try.func5, Try.ntmps5
      go_wp2_with (first | ((with_reducible show wpList _ _ _ (⟨some 47, .buildSlice 22 1 _, _, _, _, _⟩ :: _) _ _); refine step_buildS1 S 22 35 3 (.tmp 46) (mintL M) _ Try.underlying22 infoM2 (by decide) (by decide) (show Value.agg _ = .agg (mintL M).toArray by rw [HMC.out]; rfl) rfl (by (first | rfl | (simp only [Region.wanted, yielded]; go_simp; done) | (go_simp; done))) ?_; clear S; intro v47 w S; replace S : Has w0 w [rowM v47 [M], rowM _ l] := S) | (at_builtin; refine step_appendM S (.tmp 40) (.tmp 47) _ _ rfl (by (repeat (first | exact Pick.head _ _ | apply Pick.tail)); first | done | fail) _ [M] rfl (by first | assumption | exact S.old (Hid.out (by assumption)) | exact S.sl (by (repeat (first | exact Pick.head _ _ | apply Pick.tail)); first | done | fail) | exact S.sl_rd (by (repeat (first | exact Pick.head _ _ | apply Pick.tail)); first | done | fail)) HLE.out (by (first | rfl | (simp only [Region.wanted, yielded]; go_simp; done) | (go_simp; done))) ?_; clear S; intro v48 w S; obtain ⟨a48, c48, rfl, _, _⟩ := Sl.shape (S.sl (v := v48) (by (repeat (first | exact Pick.head _ _ | apply Pick.tail)); first | done | fail)); rw [HLE2.out]) | (go_at_call 7; (with_reducible refine (HCK.out _ _ (by first | assumption | exact S.old (Hid.out (by assumption)) | exact S.sl (by (repeat (first | exact Pick.head _ _ | apply Pick.tail)); first | done | fail) | exact S.sl_rd (by (repeat (first | exact Pick.head _ _ | apply Pick.tail)); first | done | fail))).mono ?_); rintro e w1 ⟨rfl, T⟩; replace S := S.call T; clear T; (try simp only [List.nil_append, List.cons_append] at S)) | (go_at_call 15; (with_reducible refine (HCL.out _ _ (by first | assumption | exact S.old (Hid.out (by assumption)) | exact S.sl (by (repeat (first | exact Pick.head _ _ | apply Pick.tail)); first | done | fail) | exact S.sl_rd (by (repeat (first | exact Pick.head _ _ | apply Pick.tail)); first | done | fail))).mono ?_); rintro e w1 ⟨v40, rfl, T⟩; replace S := S.call T; clear T; (try simp only [List.nil_append, List.cons_append] at S)) | (at_builtin; refine step_appendM S (.tmp 40) (.tmp 47) _ _ rfl (by (repeat (first | exact Pick.head _ _ | apply Pick.tail)); first | done | fail) _ _ rfl (by first | assumption | exact S.old (Hid.out (by assumption)) | exact S.sl (by (repeat (first | exact Pick.head _ _ | apply Pick.tail)); first | done | fail) | exact S.sl_rd (by (repeat (first | exact Pick.head _ _ | apply Pick.tail)); first | done | fail)) (by (first | omega | assumption | (exact Hid.out (by assumption)) | (simp only [List.length_append, List.length_cons, List.length_nil]; omega))) (by (first | rfl | (simp only [Region.wanted, yielded]; go_simp; done) | (go_simp; done))) ?_; clear S; intro v48 w S; (try simp only [List.nil_append] at S)) | fail)
      go_ret3
      refine ⟨_, rfl, ?_⟩
      rw [← HLE2.out]
      exact S.sub (by repeat (first | exact Sub.nil _ | refine Sub.cons (by (repeat (first | exact Pick.head _ _ | apply Pick.tail)); first | done | fail) ?_))
  · obtain ⟨hR, hN⟩ := mint_no l role life now hE
    rw [hR, hN]
    obtain ⟨E, hEe⟩ : ∃ E, E = mintE l role life now := ⟨_, rfl⟩
    rw [← hEe] at hE ⊢
    unfold mintE at hEe
    by_cases hc0 : chkR l = 0
    · rw [if_neg (by omega)] at hEe
      rw [hc0] at hck
      by_cases hb : role < 1 ∨ 3 < role ∨ life = 0 ∨ 4611686018427387904 < life ∨ 4611686018427387904 < now
      · rw [if_pos hb] at hEe
        subst hEe
        have HB := Lib.hid hb
        have H := Lib.hid h; have HCK := Lib.hid hck; clear h hck
        clear hR hN hE hc0 hb
        go_enter Try.func5, Try.ntmps5
        go_wp2_with (first | (go_at_call 7; (with_reducible refine (HCK.out _ _ (by first | assumption | exact S.old (Hid.out (by assumption)) | exact S.sl (by (repeat (first | exact Pick.head _ _ | apply Pick.tail)); first | done | fail) | exact S.sl_rd (by (repeat (first | exact Pick.head _ _ | apply Pick.tail)); first | done | fail))).mono ?_); rintro e w1 ⟨rfl, T⟩; replace S := S.call T; clear T; (try simp only [List.nil_append, List.cons_append] at S)) | (at_builtin; refine step_appendM S (.tmp 40) (.tmp 47) _ _ rfl (by (repeat (first | exact Pick.head _ _ | apply Pick.tail)); first | done | fail) _ _ rfl (by first | assumption | exact S.old (Hid.out (by assumption)) | exact S.sl (by (repeat (first | exact Pick.head _ _ | apply Pick.tail)); first | done | fail) | exact S.sl_rd (by (repeat (first | exact Pick.head _ _ | apply Pick.tail)); first | done | fail)) (by (first | omega | assumption | (exact Hid.out (by assumption)) | (simp only [List.length_append, List.length_cons, List.length_nil]; omega))) (by (first | rfl | (simp only [Region.wanted, yielded]; go_simp; done) | (go_simp; done))) ?_; clear S; intro v48 w S; (try simp only [List.nil_append] at S)) | fail)
        all_goals first
          | (go_ret3
             exact ⟨_, rfl, S.nilM⟩)
          | (exfalso; have hb := HB.out; omega)
      · rw [if_neg hb] at hEe
        have h32 : l.length = 32 := by
          apply Classical.byContradiction
          intro h
          rw [if_neg h] at hEe
          exact hE hEe
        rw [if_pos h32] at hEe
        subst hEe
        have i1 : ¬ (role : Int) < 1 := by omega
        have i2 : ¬ 3 < (role : Int) := by omega
        have i3 : ((life : Int) == 0) = false := by rw [beq_eq_false_iff_ne]; omega
        have i4 : ¬ 4611686018427387904 < (life : Int) := by omega
        have i5 : ¬ 4611686018427387904 < (now : Int) := by omega
        have i6 : ((l.length : Int) == 32) = true := by rw [beq_iff_eq]; omega
        have H := Lib.hid h; have HCK := Lib.hid hck; clear h hck
        clear hR hN hE hc0 hb h32
        go_enter Try.func5, Try.ntmps5
        go_wp2_with (first | (go_at_call 7; (with_reducible refine (HCK.out _ _ (by first | assumption | exact S.old (Hid.out (by assumption)) | exact S.sl (by (repeat (first | exact Pick.head _ _ | apply Pick.tail)); first | done | fail) | exact S.sl_rd (by (repeat (first | exact Pick.head _ _ | apply Pick.tail)); first | done | fail))).mono ?_); rintro e w1 ⟨rfl, T⟩; replace S := S.call T; clear T; (try simp only [List.nil_append, List.cons_append] at S)) | (at_builtin; refine step_appendM S (.tmp 40) (.tmp 47) _ _ rfl (by (repeat (first | exact Pick.head _ _ | apply Pick.tail)); first | done | fail) _ _ rfl (by first | assumption | exact S.old (Hid.out (by assumption)) | exact S.sl (by (repeat (first | exact Pick.head _ _ | apply Pick.tail)); first | done | fail) | exact S.sl_rd (by (repeat (first | exact Pick.head _ _ | apply Pick.tail)); first | done | fail)) (by (first | omega | assumption | (exact Hid.out (by assumption)) | (simp only [List.length_append, List.length_cons, List.length_nil]; omega))) (by (first | rfl | (simp only [Region.wanted, yielded]; go_simp; done) | (go_simp; done))) ?_; clear S; intro v48 w S; (try simp only [List.nil_append] at S)) | fail)
        go_ret3
        exact ⟨_, rfl, S.nilM⟩
    · rw [if_pos hc0] at hEe
      rw [← hEe] at hck
      have i1 : (E != 0) = true := by simpa using hE
      have H := Lib.hid h; have HCK := Lib.hid hck; clear h hck
      clear hR hN hEe hc0 hE
      go_enter Try.func5, Try.ntmps5
      go_wp2_with (first | (go_at_call 7; (with_reducible refine (HCK.out _ _ (by first | assumption | exact S.old (Hid.out (by assumption)) | exact S.sl (by (repeat (first | exact Pick.head _ _ | apply Pick.tail)); first | done | fail) | exact S.sl_rd (by (repeat (first | exact Pick.head _ _ | apply Pick.tail)); first | done | fail))).mono ?_); rintro e w1 ⟨rfl, T⟩; replace S := S.call T; clear T; (try simp only [List.nil_append, List.cons_append] at S)) | (at_builtin; refine step_appendM S (.tmp 40) (.tmp 47) _ _ rfl (by (repeat (first | exact Pick.head _ _ | apply Pick.tail)); first | done | fail) _ _ rfl (by first | assumption | exact S.old (Hid.out (by assumption)) | exact S.sl (by (repeat (first | exact Pick.head _ _ | apply Pick.tail)); first | done | fail) | exact S.sl_rd (by (repeat (first | exact Pick.head _ _ | apply Pick.tail)); first | done | fail)) (by (first | omega | assumption | (exact Hid.out (by assumption)) | (simp only [List.length_append, List.length_cons, List.length_nil]; omega))) (by (first | rfl | (simp only [Region.wanted, yielded]; go_simp; done) | (go_simp; done))) ?_; clear S; intro v48 w S; (try simp only [List.nil_append] at S)) | fail)
      go_ret3
      exact ⟨_, rfl, S.nilM⟩
end Go.Proofs.Ytioonimpobcglaa
