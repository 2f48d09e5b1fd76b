/- DigestFields holds for every input: fields that are put are taken; a beginning is too short. No condition but the table of constants and the reach. -/
import Derived.Test.YthdhnpejakljkaaDoorStS
import Derived.Test.YthdhnpejakljkaaDoorAlive
import Derived.Deep.QuietTactic
import Derived.BigQuiet
import Derived.Outline
set_option linter.unusedSimpArgs false
set_option linter.unusedVariables false
namespace Go.Proofs.YthdhnpejakljkaaDoor
open Go.RowKit

/-- A field: its number, its size's byte. -/
abbrev Fld := UInt64 × UInt8
def fldL (f : Fld) : List Value := [.int .u64 (f.1.toNat : Int), .int .u8 (f.2.toNat : Int)]
theorem fldA_one (f : Fld) : (fldL f).toArray.all (·.oneCell') = true := by simp [fldL, one_int]
theorem fldL_length (f : Fld) : (fldL f).length = 2 := rfl
def szF (f : Fld) : Nat := f.2.toNat % 8 + 1
def nmF (f : Fld) : Nat := f.1.toNat % 256 ^ szF f
theorem szF_le (f : Fld) : 1 ≤ szF f ∧ szF f ≤ 8 := by unfold szF; omega
theorem nmF_lt (f : Fld) : nmF f < 256 ^ szF f := Nat.mod_lt _ (Nat.pow_pos (by decide))

/-- The bytes of the first k fields. -/
def catF (l : List Fld) (k : Nat) : List UInt8 := (l.take k).flatMap fun f => numB (nmF f) (szF f)
theorem catF_succ (l : List Fld) (k : Nat) (f : Fld) (h : l[k]? = some f) : catF l (k + 1) = catF l k ++ numB (nmF f) (szF f) := by
  obtain ⟨hk, rfl⟩ := List.getElem?_eq_some_iff.1 h
  unfold catF
  rw [List.take_succ_eq_append_getElem hk, List.flatMap_append]
  simp
theorem catF_le (l : List Fld) (k : Nat) : (catF l k).length ≤ 8 * k := by
  induction k with
  | zero => simp [catF]
  | succ k ih =>
    by_cases hk : k < l.length
    · rw [catF_succ l k _ (List.getElem?_eq_getElem hk), List.length_append, numB_length]
      have := (szF_le l[k]).2
      omega
    · have e : catF l (k + 1) = catF l k := by unfold catF; rw [List.take_of_length_le (by omega), List.take_of_length_le (by omega)]
      rw [e]
      omega
theorem catF_all (l : List Fld) (k : Nat) (f : Fld) (h : l[k]? = some f) : ∃ B, catF l l.length = catF l k ++ numB (nmF f) (szF f) ++ B := by
  obtain ⟨hk, rfl⟩ := List.getElem?_eq_some_iff.1 h
  refine ⟨(l.drop (k + 1)).flatMap fun f => numB (nmF f) (szF f), ?_⟩
  rw [← catF_succ l k _ h]
  unfold catF
  rw [← List.flatMap_append, List.take_append_drop, List.take_length]

theorem val_foldl (ys : List UInt8) : ∀ n : Nat, ys.foldl (fun n c => 256 * n + c.toNat) n = n * 256 ^ ys.length + val ys := by
  induction ys with
  | nil => intro n; simp [val]
  | cons c ys ih =>
    intro n
    have h1 := ih (256 * n + c.toNat)
    have h2 := ih c.toNat
    simp only [List.foldl_cons, List.length_cons, val, Nat.mul_zero, Nat.zero_add] at h1 h2 ⊢
    rw [h1, h2, Nat.pow_succ, Nat.add_mul]
    have : 256 * n * 256 ^ ys.length = n * (256 ^ ys.length * 256) := by rw [Nat.mul_comm 256 n, Nat.mul_assoc, Nat.mul_comm 256]
    omega
theorem val_cons (c : UInt8) (ys : List UInt8) : val (c :: ys) = c.toNat * 256 ^ ys.length + val ys := by
  have := val_foldl ys c.toNat
  simpa [val] using this
theorem val_numB (n s : Nat) : val (numB n s) = n % 256 ^ s := by
  induction s with
  | zero => simp [numB, val, Nat.mod_one]
  | succ s ih =>
    show val (UInt8.ofNat (n / 256 ^ s) :: numB n s) = _
    rw [val_cons, ih, numB_length, UInt8.toNat_ofNat']
    have h := Nat.mod_mul (x := n) (a := 256 ^ s) (b := 256)
    have h2 : 256 ^ (s + 1) = 256 ^ s * 256 := Nat.pow_succ ..
    rw [h2, h, Nat.mul_comm (256 ^ s) (n / 256 ^ s % 256), show (2 : Nat) ^ 8 = 256 from rfl]
    exact Nat.add_comm _ _

theorem put_go (v : Value) (xs : List UInt8) (n s : Nat) (ni si : Int) (hni : ni = (n : Int)) (hsi : si = (s : Int)) (w : World) (hv : Bs w v xs) (h1 : 1 ≤ s) (h8 : s ≤ 8) (hn : n < 256 ^ s) (hl : xs.length + s ≤ 8192) :
    Calls Tryd.prog 31 #[v, .int .u64 ni, .int .i64 si] w (MadeE w (xs ++ numB n s) 0) := by
  subst hsi
  have h64 : n < 18446744073709551616 := Nat.lt_of_lt_of_le hn (Nat.le_trans (Nat.pow_le_pow_right (by decide) h8) (by decide))
  have := putUint_s v xs n ni s hni w hv (by omega) h64 (by omega)
  have e : putE xs.length n s = 0 := by
    unfold putE
    rw [if_neg (by rw [Int.toNat_natCast]; omega), if_neg (by omega)]
  have e2 : putR xs n s = xs ++ numB n s := by unfold putR; rw [if_pos e, Int.toNat_natCast]
  rwa [e, e2] at this

theorem takeU_go (v : Value) (A B : List UInt8) (n s : Nat) (pi si : Int) (hpi : pi = (A.length : Int)) (hsi : si = (s : Int)) (w : World) (hv : Bs w v (A ++ numB n s ++ B)) (h1 : 1 ≤ s) (h8 : s ≤ 8) (hn : n < 256 ^ s) (hl : (A ++ numB n s ++ B).length ≤ 8192) :
    Calls Tryd.prog 33 #[v, .int .i64 pi, .int .i64 si] w fun e w' => e = .returned (.tuple #[.int .u64 (n : Int), .int .i64 ((A.length + s : Nat) : Int), .int .i64 0]) ∧ Has w w' [] := by
  subst hpi
  subst hsi
  have hle : A.length + s + B.length = (A ++ numB n s ++ B).length := by simp [numB_length]; omega
  have := takeUint_s v _ A.length s w hv (by omega) (by omega) (by omega)
  have e1 : takeE (A ++ numB n s ++ B).length A.length s = 0 := by
    unfold takeE
    rw [if_neg (by omega), if_neg (by omega)]
  have e2 : tuE (A ++ numB n s ++ B).length A.length s = 0 := by unfold tuE; rw [if_neg (by omega), e1]
  have e3 : tuN (A ++ numB n s ++ B).length A.length s = ((A.length + s : Nat) : Int) := by unfold tuN takeN; rw [if_neg (by omega), if_pos e1]; omega
  have e4 : tuV (A ++ numB n s ++ B) A.length s = n := by
    unfold tuV takeR
    rw [if_neg (by omega), if_pos e1, Int.toNat_natCast, Int.toNat_natCast, List.append_assoc, List.drop_left, List.take_left' (numB_length n s), val_numB, Nat.mod_eq_of_lt hn]
  rwa [e2, e3, e4] at this

theorem takeU_short (v : Value) (Z : List UInt8) (p s : Nat) (pi si : Int) (hpi : pi = (p : Int)) (hsi : si = (s : Int)) (w : World) (hv : Bs w v Z) (h1 : 1 ≤ s) (h8 : s ≤ 8) (hp : p ≤ Z.length) (hlt : Z.length < p + s) (hl : Z.length ≤ 8192) :
    Calls Tryd.prog 33 #[v, .int .i64 pi, .int .i64 si] w fun e w' => e = .returned (.tuple #[.int .u64 ((tuV Z p s : Nat) : Int), .int .i64 (tuN Z.length p s), .int .i64 10]) ∧ Has w w' [] := by
  subst hpi
  subst hsi
  have := takeUint_s v Z p s w hv (by omega) (by omega) (by omega)
  have e2 : tuE Z.length p s = 10 := by unfold tuE takeE; rw [if_neg (by omega), if_neg (by omega), if_pos (by omega)]
  rwa [e2] at this

set_option maxRecDepth 100000 in
set_option maxHeartbeats 2000000 in
theorem cut_s (f : Fld) (w0 : World) : Calls Tryd.prog 39 #[.agg (fldL f).toArray] w0 fun e w' => e = .returned (.tuple #[.int .i64 (szF f : Int), .int .u64 (nmF f : Int)]) ∧ Has w0 w' [] := by
  have S := Has.start w0
  obtain ⟨n, s⟩ := f
  have hs := s.toNat_lt
  have hn := n.toNat_lt
  unfold fldL nmF szF
  obtain ⟨j, hj⟩ : ∃ j, j = s.toNat % 8 := ⟨_, rfl⟩
  have hj2 : (s.toNat : Int) % 8 = (j : Int) := by omega
  have hj3 : j < 8 := by omega
  dsimp only
  rw [← hj]
  have hw : (j : Int) + 1 < 256 := by omega
  by_cases h7 : j < 7
  · have h7i : (j : Int) + 1 < 8 := by omega
    obtain ⟨p, hp⟩ : ∃ p, p = 256 ^ (j + 1) := ⟨_, rfl⟩
    rw [← hp]
    have hpw : (p : Int) = 2 ^ (8 * (j + 1)) ∧ 0 < p ∧ p ≤ 256 ^ 7 := by
      rw [hp]
      refine ⟨?_, Nat.pow_pos (by decide), Nat.pow_le_pow_right (by decide) (by omega)⟩
      have : ∀ k : Fin 8, ((256 ^ (k.val + 1) : Nat) : Int) = 2 ^ (8 * (k.val + 1)) := by decide
      exact this ⟨j, hj3⟩
    have HPW := Lib.hid hpw; clear hpw
    clear hj hp
    go_enter Tryd.func39, Tryd.ntmps39
    go_wp2_with (first | ((with_reducible show wpList _ _ _ (⟨some 1, .box 71 (.tmp 0), _, _, _, _⟩ :: _) _ _); refine step_boxA (dst := some 1) S 71 (.tmp 0) _ rfl rfl ?_; clear S; intro g1 w S) | ((with_reducible show wpList _ _ _ (⟨some 6, .load 5 (.tmp 5), _, _, _, _⟩ :: _) _ _); first | (refine step_load1 5 (.tmp 5) _ _ rfl (S.cell (by (repeat (first | exact Pick.head _ _ | apply Pick.tail)); first | done | fail) (by (first | assumption | (exact Hid.out (by assumption)) | exact cellsH_t .. | exact cellsH_n .. | (simp only [List.setIfInBounds_toArray, List.set_cons_zero, List.set_cons_succ, List.getElem?_toArray, List.getElem?_cons_zero, List.getElem?_cons_succ]; rfl) | rfl))) _ Tryd.underlying5 rfl rfl ?_) | (refine step_load1 5 (.tmp 5) _ _ rfl (S.row_cell (by (repeat (first | exact Pick.head _ _ | apply Pick.tail)); first | done | fail) _ _ (by first | assumption | exact Hid.out (by assumption) | rfl)) _ Tryd.underlying5 rfl rfl ?_) | (refine step_load1 5 (.tmp 5) _ _ rfl (S.old_cell (by first | assumption | exact Hid.out (by assumption))) _ Tryd.underlying5 rfl rfl ?_)) | ((with_reducible show wpList _ _ _ (⟨some 14, .load 28 (.tmp 13), _, _, _, _⟩ :: _) _ _); first | (refine step_load1 28 (.tmp 13) _ _ rfl (S.cell (by (repeat (first | exact Pick.head _ _ | apply Pick.tail)); first | done | fail) (by (first | assumption | (exact Hid.out (by assumption)) | exact cellsH_t .. | exact cellsH_n .. | (simp only [List.setIfInBounds_toArray, List.set_cons_zero, List.set_cons_succ, List.getElem?_toArray, List.getElem?_cons_zero, List.getElem?_cons_succ]; rfl) | rfl))) _ Tryd.underlying28 rfl rfl ?_) | (refine step_load1 28 (.tmp 13) _ _ rfl (S.row_cell (by (repeat (first | exact Pick.head _ _ | apply Pick.tail)); first | done | fail) _ _ (by first | assumption | exact Hid.out (by assumption) | rfl)) _ Tryd.underlying28 rfl rfl ?_) | (refine step_load1 28 (.tmp 13) _ _ rfl (S.old_cell (by first | assumption | exact Hid.out (by assumption))) _ Tryd.underlying28 rfl rfl ?_)) | ((with_reducible show wpList _ _ _ (⟨some 21, .load 28 (.tmp 20), _, _, _, _⟩ :: _) _ _); first | (refine step_load1 28 (.tmp 20) _ _ rfl (S.cell (by (repeat (first | exact Pick.head _ _ | apply Pick.tail)); first | done | fail) (by (first | assumption | (exact Hid.out (by assumption)) | exact cellsH_t .. | exact cellsH_n .. | (simp only [List.setIfInBounds_toArray, List.set_cons_zero, List.set_cons_succ, List.getElem?_toArray, List.getElem?_cons_zero, List.getElem?_cons_succ]; rfl) | rfl))) _ Tryd.underlying28 rfl rfl ?_) | (refine step_load1 28 (.tmp 20) _ _ rfl (S.row_cell (by (repeat (first | exact Pick.head _ _ | apply Pick.tail)); first | done | fail) _ _ (by first | assumption | exact Hid.out (by assumption) | rfl)) _ Tryd.underlying28 rfl rfl ?_) | (refine step_load1 28 (.tmp 20) _ _ rfl (S.old_cell (by first | assumption | exact Hid.out (by assumption))) _ Tryd.underlying28 rfl rfl ?_)) | fail)
    refine wp_rely S [⟨[], [], [], fun _ v => v = (.int .i64 ((j : Int) + 1)), fun _ v => []⟩, ⟨[], [], [], fun _ v => v = .pointer (some ⟨g1, 0, none⟩), fun _ v => []⟩, ⟨[1], [], [], fun _ v => v = .int .u64 (n.toNat : Int), fun _ v => []⟩, ⟨[], [], [], fun _ v => v = (.int .i64 ((j : Int) + 1)), fun _ v => []⟩, ⟨[3], [], [], fun _ v => v = .int .i64 (8 * ((j : Int) + 1)), fun _ v => []⟩, ⟨[3, 4], [], [], fun _ v => v = .int .u64 (p : Int), fun _ v => []⟩, ⟨[1, 2, 3, 4, 5], [], [], fun _ v => v = .int .u64 ((n.toNat % p : Nat) : Int), fun _ v => []⟩, ⟨[0], [], [], fun _ v => v = ((.int .i64 ((j : Int) + 1))), fun _ v => []⟩, ⟨[0, 1, 2, 3, 4, 5, 6, 7], [], [], fun _ v => v = (.int .u64 ((n.toNat % p : Nat) : Int)), fun _ v => []⟩] ?A1 ?hA1 (by kernel_rfl) (by kernel_rfl) (by kernel_rfl) [0, 1, 2, 3, 4, 5, 6, 7, 8] (by kernel_rfl) ?hok1 ?fin1
    case hA1 => intro u; simp only [putAll, List.length_cons, List.length_nil, Nat.zero_add, Nat.reduceAdd, dstAt, List.getElem?_toArray, List.getElem?_cons_zero, List.getElem?_cons_succ, Option.bind_some, Act.put, List.setIfInBounds_toArray, List.set_cons_zero, List.set_cons_succ]; rfl
    case hok1 =>
      intro i hi
      obtain rfl | rfl | rfl | rfl | rfl | rfl | rfl | rfl | rfl : i = 0 ∨ i = 1 ∨ i = 2 ∨ i = 3 ∨ i = 4 ∨ i = 5 ∨ i = 6 ∨ i = 7 ∨ i = 8 := by simp only [List.length_cons, List.length_nil, Nat.zero_add, Nat.reduceAdd] at hi; omega
      · clear hi
        refine step_of rfl rfl rfl ?_
        intro u G w hf S
        simp only [resOf, spec, RSpec.resAt, List.getD_cons_zero, List.getD_cons_succ, List.flatMap_cons, List.flatMap_nil, List.nil_append, List.cons_append, List.append_nil, List.append_assoc, ptrBlk] at S ⊢
        simp only [does]
        go_simp
        try first | exact S | (refine ⟨?_, S⟩; (first | rfl | omega | (rw [IntWalk.i64_in _ (by omega)]; try omega) | (rw [IntKind.wrap_u64]; omega))) | (first | rfl | omega | (rw [IntWalk.i64_in _ (by omega)]; try omega) | (rw [IntKind.wrap_u64]; omega))
      · clear hi
        refine step_of rfl rfl rfl ?_
        intro u G w hf S
        simp only [resOf, spec, RSpec.resAt, List.getD_cons_zero, List.getD_cons_succ, List.flatMap_cons, List.flatMap_nil, List.nil_append, List.cons_append, List.append_nil, List.append_assoc, ptrBlk] at S ⊢
        simp only [does]
        go_simp
        try first | exact S | (refine ⟨?_, S⟩; (first | rfl | omega | (rw [IntWalk.i64_in _ (by omega)]; try omega) | (rw [IntKind.wrap_u64]; omega))) | (first | rfl | omega | (rw [IntWalk.i64_in _ (by omega)]; try omega) | (rw [IntKind.wrap_u64]; omega))
      · clear hi
        refine step_of rfl rfl rfl ?_
        intro u G w hf S
        have f1 : u 1 = .pointer (some ⟨g1, 0, none⟩) := hf 1 (by simp)
        simp only [resOf, spec, RSpec.resAt, List.getD_cons_zero, List.getD_cons_succ, List.flatMap_cons, List.flatMap_nil, List.nil_append, List.cons_append, List.append_nil, List.append_assoc, ptrBlk] at S ⊢
        simp only [f1]
        refine does_load1 28 (.tmp 13) _ _ rfl (S.cell (g := g1) (by (repeat (first | exact Pick.head _ _ | apply Pick.tail)); first | done | fail) (by (first | assumption | (exact Hid.out (by assumption)) | exact cellsH_t .. | exact cellsH_n .. | (simp only [List.setIfInBounds_toArray, List.set_cons_zero, List.set_cons_succ, List.getElem?_toArray, List.getElem?_cons_zero, List.getElem?_cons_succ]; rfl) | rfl))) _ Tryd.underlying28 rfl ?_; exact ⟨rfl, S⟩
      · clear hi
        refine step_of rfl rfl rfl ?_
        intro u G w hf S
        simp only [resOf, spec, RSpec.resAt, List.getD_cons_zero, List.getD_cons_succ, List.flatMap_cons, List.flatMap_nil, List.nil_append, List.cons_append, List.append_nil, List.append_assoc, ptrBlk] at S ⊢
        simp only [does]
        go_simp
        try first | exact S | (refine ⟨?_, S⟩; (first | rfl | omega | (rw [IntWalk.i64_in _ (by omega)]; try omega) | (rw [IntKind.wrap_u64]; omega))) | (first | rfl | omega | (rw [IntWalk.i64_in _ (by omega)]; try omega) | (rw [IntKind.wrap_u64]; omega))
      · clear hi
        refine step_of rfl rfl rfl ?_
        intro u G w hf S
        have f3 : u 3 = (.int .i64 ((j : Int) + 1)) := hf 3 (by simp)
        simp only [resOf, spec, RSpec.resAt, List.getD_cons_zero, List.getD_cons_succ, List.flatMap_cons, List.flatMap_nil, List.nil_append, List.cons_append, List.append_nil, List.append_assoc, ptrBlk] at S ⊢
        simp only [f3]
        simp only [does]; go_simp; first | (refine ⟨?_, S⟩; rw [IntWalk.i64_in _ (by omega)]) | (rw [IntWalk.i64_in _ (by omega)]) | exact S
      · clear hi
        refine step_of rfl rfl rfl ?_
        intro u G w hf S
        have f3 : u 3 = (.int .i64 ((j : Int) + 1)) := hf 3 (by simp)
        have f4 : u 4 = .int .i64 (8 * ((j : Int) + 1)) := hf 4 (by simp)
        simp only [resOf, spec, RSpec.resAt, List.getD_cons_zero, List.getD_cons_succ, List.flatMap_cons, List.flatMap_nil, List.nil_append, List.cons_append, List.append_nil, List.append_assoc, ptrBlk] at S ⊢
        simp only [f3, f4]
        rw [HPW.out.1]; obtain rfl | rfl | rfl | rfl | rfl | rfl | rfl : j = 0 ∨ j = 1 ∨ j = 2 ∨ j = 3 ∨ j = 4 ∨ j = 5 ∨ j = 6 := (by omega)
        all_goals simp only [does]
        all_goals go_simp
        all_goals first | exact S | decide
      · clear hi
        refine step_of rfl rfl rfl ?_
        intro u G w hf S
        have f1 : u 1 = .pointer (some ⟨g1, 0, none⟩) := hf 1 (by simp)
        have f2 : u 2 = .int .u64 (n.toNat : Int) := hf 2 (by simp)
        have f3 : u 3 = (.int .i64 ((j : Int) + 1)) := hf 3 (by simp)
        have f4 : u 4 = .int .i64 (8 * ((j : Int) + 1)) := hf 4 (by simp)
        have f5 : u 5 = .int .u64 (p : Int) := hf 5 (by simp)
        simp only [resOf, spec, RSpec.resAt, List.getD_cons_zero, List.getD_cons_succ, List.flatMap_cons, List.flatMap_nil, List.nil_append, List.cons_append, List.append_nil, List.append_assoc, ptrBlk] at S ⊢
        simp only [f1, f2, f3, f4, f5]
        have hp0 := HPW.out.2.1; have hp1 : ¬ p = 0 := (by omega); simp only [does]; go_simp; (try rw [Int.tmod_eq_emod_of_nonneg (by omega)]); try first | exact S | (refine ⟨?_, S⟩; simp) | simp
      · clear hi
        refine step_of rfl rfl rfl ?_
        intro u G w hf S
        have f0 : u 0 = (.int .i64 ((j : Int) + 1)) := hf 0 (by simp)
        simp only [resOf, spec, RSpec.resAt, List.getD_cons_zero, List.getD_cons_succ, List.flatMap_cons, List.flatMap_nil, List.nil_append, List.cons_append, List.append_nil, List.append_assoc, ptrBlk] at S ⊢
        simp only [f0]
        simp only [does]
        go_simp
        try first | exact S | (refine ⟨?_, S⟩; (first | rfl | omega | (rw [IntWalk.i64_in _ (by omega)]; try omega) | (rw [IntKind.wrap_u64]; omega))) | (first | rfl | omega | (rw [IntWalk.i64_in _ (by omega)]; try omega) | (rw [IntKind.wrap_u64]; omega))
      · clear hi
        refine step_of rfl rfl rfl ?_
        intro u G w hf S
        have f0 : u 0 = (.int .i64 ((j : Int) + 1)) := hf 0 (by simp)
        have f1 : u 1 = .pointer (some ⟨g1, 0, none⟩) := hf 1 (by simp)
        have f2 : u 2 = .int .u64 (n.toNat : Int) := hf 2 (by simp)
        have f3 : u 3 = (.int .i64 ((j : Int) + 1)) := hf 3 (by simp)
        have f4 : u 4 = .int .i64 (8 * ((j : Int) + 1)) := hf 4 (by simp)
        have f5 : u 5 = .int .u64 (p : Int) := hf 5 (by simp)
        have f6 : u 6 = .int .u64 ((n.toNat % p : Nat) : Int) := hf 6 (by simp)
        have f7 : u 7 = ((.int .i64 ((j : Int) + 1))) := hf 7 (by simp)
        simp only [resOf, spec, RSpec.resAt, List.getD_cons_zero, List.getD_cons_succ, List.flatMap_cons, List.flatMap_nil, List.nil_append, List.cons_append, List.append_nil, List.append_assoc, ptrBlk] at S ⊢
        simp only [f0, f1, f2, f3, f4, f5, f6, f7]
        simp only [does]
        go_simp
        try first | exact S | (refine ⟨?_, S⟩; (first | rfl | omega | (rw [IntWalk.i64_in _ (by omega)]; try omega) | (rw [IntKind.wrap_u64]; omega))) | (first | rfl | omega | (rw [IntWalk.i64_in _ (by omega)]; try omega) | (rw [IntKind.wrap_u64]; omega))
    case fin1 =>
      intro u w hf S
      have f0 : u 0 = (.int .i64 ((j : Int) + 1)) := hf 0 (by simp)
      have f1 : u 1 = .pointer (some ⟨g1, 0, none⟩) := hf 1 (by simp)
      have f2 : u 2 = .int .u64 (n.toNat : Int) := hf 2 (by simp)
      have f3 : u 3 = (.int .i64 ((j : Int) + 1)) := hf 3 (by simp)
      have f4 : u 4 = .int .i64 (8 * ((j : Int) + 1)) := hf 4 (by simp)
      have f5 : u 5 = .int .u64 (p : Int) := hf 5 (by simp)
      have f6 : u 6 = .int .u64 ((n.toNat % p : Nat) : Int) := hf 6 (by simp)
      have f7 : u 7 = ((.int .i64 ((j : Int) + 1))) := hf 7 (by simp)
      have f8 : u 8 = (.int .u64 ((n.toNat % p : Nat) : Int)) := hf 8 (by simp)
      simp only [resOf, spec, RSpec.resAt, List.getD_cons_zero, List.getD_cons_succ, List.flatMap_cons, List.flatMap_nil, List.nil_append, List.cons_append, List.append_nil, List.append_assoc, ptrBlk] at S
      clear hf
      simp only [List.length_cons, List.length_nil, Nat.zero_add, Nat.reduceAdd, List.drop_succ_cons, List.drop_zero, f0, f1, f2, f3, f4, f5, f6, f7, f8]
      clear f0 f1 f2 f3 f4 f5 f6 f7 f8
      go_wp2_with (first | ((with_reducible show wpList _ _ _ (⟨some 1, .box 71 (.tmp 0), _, _, _, _⟩ :: _) _ _); refine step_boxA (dst := some 1) S 71 (.tmp 0) _ rfl rfl ?_; clear S; intro g1 w S) | ((with_reducible show wpList _ _ _ (⟨some 6, .load 5 (.tmp 5), _, _, _, _⟩ :: _) _ _); first | (refine step_load1 5 (.tmp 5) _ _ rfl (S.cell (by (repeat (first | exact Pick.head _ _ | apply Pick.tail)); first | done | fail) (by (first | assumption | (exact Hid.out (by assumption)) | exact cellsH_t .. | exact cellsH_n .. | (simp only [List.setIfInBounds_toArray, List.set_cons_zero, List.set_cons_succ, List.getElem?_toArray, List.getElem?_cons_zero, List.getElem?_cons_succ]; rfl) | rfl))) _ Tryd.underlying5 rfl rfl ?_) | (refine step_load1 5 (.tmp 5) _ _ rfl (S.row_cell (by (repeat (first | exact Pick.head _ _ | apply Pick.tail)); first | done | fail) _ _ (by first | assumption | exact Hid.out (by assumption) | rfl)) _ Tryd.underlying5 rfl rfl ?_) | (refine step_load1 5 (.tmp 5) _ _ rfl (S.old_cell (by first | assumption | exact Hid.out (by assumption))) _ Tryd.underlying5 rfl rfl ?_)) | ((with_reducible show wpList _ _ _ (⟨some 14, .load 28 (.tmp 13), _, _, _, _⟩ :: _) _ _); first | (refine step_load1 28 (.tmp 13) _ _ rfl (S.cell (by (repeat (first | exact Pick.head _ _ | apply Pick.tail)); first | done | fail) (by (first | assumption | (exact Hid.out (by assumption)) | exact cellsH_t .. | exact cellsH_n .. | (simp only [List.setIfInBounds_toArray, List.set_cons_zero, List.set_cons_succ, List.getElem?_toArray, List.getElem?_cons_zero, List.getElem?_cons_succ]; rfl) | rfl))) _ Tryd.underlying28 rfl rfl ?_) | (refine step_load1 28 (.tmp 13) _ _ rfl (S.row_cell (by (repeat (first | exact Pick.head _ _ | apply Pick.tail)); first | done | fail) _ _ (by first | assumption | exact Hid.out (by assumption) | rfl)) _ Tryd.underlying28 rfl rfl ?_) | (refine step_load1 28 (.tmp 13) _ _ rfl (S.old_cell (by first | assumption | exact Hid.out (by assumption))) _ Tryd.underlying28 rfl rfl ?_)) | ((with_reducible show wpList _ _ _ (⟨some 21, .load 28 (.tmp 20), _, _, _, _⟩ :: _) _ _); first | (refine step_load1 28 (.tmp 20) _ _ rfl (S.cell (by (repeat (first | exact Pick.head _ _ | apply Pick.tail)); first | done | fail) (by (first | assumption | (exact Hid.out (by assumption)) | exact cellsH_t .. | exact cellsH_n .. | (simp only [List.setIfInBounds_toArray, List.set_cons_zero, List.set_cons_succ, List.getElem?_toArray, List.getElem?_cons_zero, List.getElem?_cons_succ]; rfl) | rfl))) _ Tryd.underlying28 rfl rfl ?_) | (refine step_load1 28 (.tmp 20) _ _ rfl (S.row_cell (by (repeat (first | exact Pick.head _ _ | apply Pick.tail)); first | done | fail) _ _ (by first | assumption | exact Hid.out (by assumption) | rfl)) _ Tryd.underlying28 rfl rfl ?_) | (refine step_load1 28 (.tmp 20) _ _ rfl (S.old_cell (by first | assumption | exact Hid.out (by assumption))) _ Tryd.underlying28 rfl rfl ?_)) | fail)
      go_ret2
      exact ⟨by push_cast; rfl, S.nil⟩
  · obtain rfl : j = 7 := by omega
    have e : n.toNat % 256 ^ (7 + 1) = n.toNat := Nat.mod_eq_of_lt hn
    rw [e]
    clear hj e
    go_enter Tryd.func39, Tryd.ntmps39
    go_wp2_with (first | ((with_reducible show wpList _ _ _ (⟨some 1, .box 71 (.tmp 0), _, _, _, _⟩ :: _) _ _); refine step_boxA (dst := some 1) S 71 (.tmp 0) _ rfl rfl ?_; clear S; intro g1 w S) | ((with_reducible show wpList _ _ _ (⟨some 6, .load 5 (.tmp 5), _, _, _, _⟩ :: _) _ _); first | (refine step_load1 5 (.tmp 5) _ _ rfl (S.cell (by (repeat (first | exact Pick.head _ _ | apply Pick.tail)); first | done | fail) (by (first | assumption | (exact Hid.out (by assumption)) | exact cellsH_t .. | exact cellsH_n .. | (simp only [List.setIfInBounds_toArray, List.set_cons_zero, List.set_cons_succ, List.getElem?_toArray, List.getElem?_cons_zero, List.getElem?_cons_succ]; rfl) | rfl))) _ Tryd.underlying5 rfl rfl ?_) | (refine step_load1 5 (.tmp 5) _ _ rfl (S.row_cell (by (repeat (first | exact Pick.head _ _ | apply Pick.tail)); first | done | fail) _ _ (by first | assumption | exact Hid.out (by assumption) | rfl)) _ Tryd.underlying5 rfl rfl ?_) | (refine step_load1 5 (.tmp 5) _ _ rfl (S.old_cell (by first | assumption | exact Hid.out (by assumption))) _ Tryd.underlying5 rfl rfl ?_)) | ((with_reducible show wpList _ _ _ (⟨some 14, .load 28 (.tmp 13), _, _, _, _⟩ :: _) _ _); first | (refine step_load1 28 (.tmp 13) _ _ rfl (S.cell (by (repeat (first | exact Pick.head _ _ | apply Pick.tail)); first | done | fail) (by (first | assumption | (exact Hid.out (by assumption)) | exact cellsH_t .. | exact cellsH_n .. | (simp only [List.setIfInBounds_toArray, List.set_cons_zero, List.set_cons_succ, List.getElem?_toArray, List.getElem?_cons_zero, List.getElem?_cons_succ]; rfl) | rfl))) _ Tryd.underlying28 rfl rfl ?_) | (refine step_load1 28 (.tmp 13) _ _ rfl (S.row_cell (by (repeat (first | exact Pick.head _ _ | apply Pick.tail)); first | done | fail) _ _ (by first | assumption | exact Hid.out (by assumption) | rfl)) _ Tryd.underlying28 rfl rfl ?_) | (refine step_load1 28 (.tmp 13) _ _ rfl (S.old_cell (by first | assumption | exact Hid.out (by assumption))) _ Tryd.underlying28 rfl rfl ?_)) | ((with_reducible show wpList _ _ _ (⟨some 21, .load 28 (.tmp 20), _, _, _, _⟩ :: _) _ _); first | (refine step_load1 28 (.tmp 20) _ _ rfl (S.cell (by (repeat (first | exact Pick.head _ _ | apply Pick.tail)); first | done | fail) (by (first | assumption | (exact Hid.out (by assumption)) | exact cellsH_t .. | exact cellsH_n .. | (simp only [List.setIfInBounds_toArray, List.set_cons_zero, List.set_cons_succ, List.getElem?_toArray, List.getElem?_cons_zero, List.getElem?_cons_succ]; rfl) | rfl))) _ Tryd.underlying28 rfl rfl ?_) | (refine step_load1 28 (.tmp 20) _ _ rfl (S.row_cell (by (repeat (first | exact Pick.head _ _ | apply Pick.tail)); first | done | fail) _ _ (by first | assumption | exact Hid.out (by assumption) | rfl)) _ Tryd.underlying28 rfl rfl ?_) | (refine step_load1 28 (.tmp 20) _ _ rfl (S.old_cell (by first | assumption | exact Hid.out (by assumption))) _ Tryd.underlying28 rfl rfl ?_)) | fail)
    refine wp_rely S [⟨[], [], [], fun _ v => v = (.int .i64 8), fun _ v => []⟩, ⟨[], [], [], fun _ v => v = .pointer (some ⟨g1, 0, none⟩), fun _ v => []⟩, ⟨[1], [], [], fun _ v => v = .int .u64 (n.toNat : Int), fun _ v => []⟩, ⟨[0], [], [], fun _ v => v = ((.int .i64 8)), fun _ v => []⟩, ⟨[0, 1, 2, 3], [], [], fun _ v => v = (.int .u64 (n.toNat : Int)), fun _ v => []⟩] ?A2 ?hA2 (by kernel_rfl) (by kernel_rfl) (by kernel_rfl) [0, 1, 2, 3, 4] (by kernel_rfl) ?hok2 ?fin2
    case hA2 => intro u; simp only [putAll, List.length_cons, List.length_nil, Nat.zero_add, Nat.reduceAdd, dstAt, List.getElem?_toArray, List.getElem?_cons_zero, List.getElem?_cons_succ, Option.bind_some, Act.put, List.setIfInBounds_toArray, List.set_cons_zero, List.set_cons_succ]; rfl
    case hok2 =>
      intro i hi
      obtain rfl | rfl | rfl | rfl | rfl : i = 0 ∨ i = 1 ∨ i = 2 ∨ i = 3 ∨ i = 4 := by simp only [List.length_cons, List.length_nil, Nat.zero_add, Nat.reduceAdd] at hi; omega
      · clear hi
        refine step_of rfl rfl rfl ?_
        intro u G w hf S
        simp only [resOf, spec, RSpec.resAt, List.getD_cons_zero, List.getD_cons_succ, List.flatMap_cons, List.flatMap_nil, List.nil_append, List.cons_append, List.append_nil, List.append_assoc, ptrBlk] at S ⊢
        simp only [does]
        go_simp
        try first | exact S | (refine ⟨?_, S⟩; (first | rfl | omega | (rw [IntWalk.i64_in _ (by omega)]; try omega) | (rw [IntKind.wrap_u64]; omega))) | (first | rfl | omega | (rw [IntWalk.i64_in _ (by omega)]; try omega) | (rw [IntKind.wrap_u64]; omega))
      · clear hi
        refine step_of rfl rfl rfl ?_
        intro u G w hf S
        simp only [resOf, spec, RSpec.resAt, List.getD_cons_zero, List.getD_cons_succ, List.flatMap_cons, List.flatMap_nil, List.nil_append, List.cons_append, List.append_nil, List.append_assoc, ptrBlk] at S ⊢
        simp only [does]
        go_simp
        try first | exact S | (refine ⟨?_, S⟩; (first | rfl | omega | (rw [IntWalk.i64_in _ (by omega)]; try omega) | (rw [IntKind.wrap_u64]; omega))) | (first | rfl | omega | (rw [IntWalk.i64_in _ (by omega)]; try omega) | (rw [IntKind.wrap_u64]; omega))
      · clear hi
        refine step_of rfl rfl rfl ?_
        intro u G w hf S
        have f1 : u 1 = .pointer (some ⟨g1, 0, none⟩) := hf 1 (by simp)
        simp only [resOf, spec, RSpec.resAt, List.getD_cons_zero, List.getD_cons_succ, List.flatMap_cons, List.flatMap_nil, List.nil_append, List.cons_append, List.append_nil, List.append_assoc, ptrBlk] at S ⊢
        simp only [f1]
        refine does_load1 28 (.tmp 20) _ _ rfl (S.cell (g := g1) (by (repeat (first | exact Pick.head _ _ | apply Pick.tail)); first | done | fail) (by (first | assumption | (exact Hid.out (by assumption)) | exact cellsH_t .. | exact cellsH_n .. | (simp only [List.setIfInBounds_toArray, List.set_cons_zero, List.set_cons_succ, List.getElem?_toArray, List.getElem?_cons_zero, List.getElem?_cons_succ]; rfl) | rfl))) _ Tryd.underlying28 rfl ?_; exact ⟨rfl, S⟩
      · clear hi
        refine step_of rfl rfl rfl ?_
        intro u G w hf S
        have f0 : u 0 = (.int .i64 8) := hf 0 (by simp)
        simp only [resOf, spec, RSpec.resAt, List.getD_cons_zero, List.getD_cons_succ, List.flatMap_cons, List.flatMap_nil, List.nil_append, List.cons_append, List.append_nil, List.append_assoc, ptrBlk] at S ⊢
        simp only [f0]
        simp only [does]
        go_simp
        try first | exact S | (refine ⟨?_, S⟩; (first | rfl | omega | (rw [IntWalk.i64_in _ (by omega)]; try omega) | (rw [IntKind.wrap_u64]; omega))) | (first | rfl | omega | (rw [IntWalk.i64_in _ (by omega)]; try omega) | (rw [IntKind.wrap_u64]; omega))
      · clear hi
        refine step_of rfl rfl rfl ?_
        intro u G w hf S
        have f0 : u 0 = (.int .i64 8) := hf 0 (by simp)
        have f1 : u 1 = .pointer (some ⟨g1, 0, none⟩) := hf 1 (by simp)
        have f2 : u 2 = .int .u64 (n.toNat : Int) := hf 2 (by simp)
        have f3 : u 3 = ((.int .i64 8)) := hf 3 (by simp)
        simp only [resOf, spec, RSpec.resAt, List.getD_cons_zero, List.getD_cons_succ, List.flatMap_cons, List.flatMap_nil, List.nil_append, List.cons_append, List.append_nil, List.append_assoc, ptrBlk] at S ⊢
        simp only [f0, f1, f2, f3]
        simp only [does]
        go_simp
        try first | exact S | (refine ⟨?_, S⟩; (first | rfl | omega | (rw [IntWalk.i64_in _ (by omega)]; try omega) | (rw [IntKind.wrap_u64]; omega))) | (first | rfl | omega | (rw [IntWalk.i64_in _ (by omega)]; try omega) | (rw [IntKind.wrap_u64]; omega))
    case fin2 =>
      intro u w hf S
      have f0 : u 0 = (.int .i64 8) := hf 0 (by simp)
      have f1 : u 1 = .pointer (some ⟨g1, 0, none⟩) := hf 1 (by simp)
      have f2 : u 2 = .int .u64 (n.toNat : Int) := hf 2 (by simp)
      have f3 : u 3 = ((.int .i64 8)) := hf 3 (by simp)
      have f4 : u 4 = (.int .u64 (n.toNat : Int)) := hf 4 (by simp)
      simp only [resOf, spec, RSpec.resAt, List.getD_cons_zero, List.getD_cons_succ, List.flatMap_cons, List.flatMap_nil, List.nil_append, List.cons_append, List.append_nil, List.append_assoc, ptrBlk] at S
      clear hf
      simp only [List.length_cons, List.length_nil, Nat.zero_add, Nat.reduceAdd, List.drop_succ_cons, List.drop_zero, f0, f1, f2, f3, f4]
      clear f0 f1 f2 f3 f4
      go_wp2_with (first | ((with_reducible show wpList _ _ _ (⟨some 1, .box 71 (.tmp 0), _, _, _, _⟩ :: _) _ _); refine step_boxA (dst := some 1) S 71 (.tmp 0) _ rfl rfl ?_; clear S; intro g1 w S) | ((with_reducible show wpList _ _ _ (⟨some 6, .load 5 (.tmp 5), _, _, _, _⟩ :: _) _ _); first | (refine step_load1 5 (.tmp 5) _ _ rfl (S.cell (by (repeat (first | exact Pick.head _ _ | apply Pick.tail)); first | done | fail) (by (first | assumption | (exact Hid.out (by assumption)) | exact cellsH_t .. | exact cellsH_n .. | (simp only [List.setIfInBounds_toArray, List.set_cons_zero, List.set_cons_succ, List.getElem?_toArray, List.getElem?_cons_zero, List.getElem?_cons_succ]; rfl) | rfl))) _ Tryd.underlying5 rfl rfl ?_) | (refine step_load1 5 (.tmp 5) _ _ rfl (S.row_cell (by (repeat (first | exact Pick.head _ _ | apply Pick.tail)); first | done | fail) _ _ (by first | assumption | exact Hid.out (by assumption) | rfl)) _ Tryd.underlying5 rfl rfl ?_) | (refine step_load1 5 (.tmp 5) _ _ rfl (S.old_cell (by first | assumption | exact Hid.out (by assumption))) _ Tryd.underlying5 rfl rfl ?_)) | ((with_reducible show wpList _ _ _ (⟨some 14, .load 28 (.tmp 13), _, _, _, _⟩ :: _) _ _); first | (refine step_load1 28 (.tmp 13) _ _ rfl (S.cell (by (repeat (first | exact Pick.head _ _ | apply Pick.tail)); first | done | fail) (by (first | assumption | (exact Hid.out (by assumption)) | exact cellsH_t .. | exact cellsH_n .. | (simp only [List.setIfInBounds_toArray, List.set_cons_zero, List.set_cons_succ, List.getElem?_toArray, List.getElem?_cons_zero, List.getElem?_cons_succ]; rfl) | rfl))) _ Tryd.underlying28 rfl rfl ?_) | (refine step_load1 28 (.tmp 13) _ _ rfl (S.row_cell (by (repeat (first | exact Pick.head _ _ | apply Pick.tail)); first | done | fail) _ _ (by first | assumption | exact Hid.out (by assumption) | rfl)) _ Tryd.underlying28 rfl rfl ?_) | (refine step_load1 28 (.tmp 13) _ _ rfl (S.old_cell (by first | assumption | exact Hid.out (by assumption))) _ Tryd.underlying28 rfl rfl ?_)) | ((with_reducible show wpList _ _ _ (⟨some 21, .load 28 (.tmp 20), _, _, _, _⟩ :: _) _ _); first | (refine step_load1 28 (.tmp 20) _ _ rfl (S.cell (by (repeat (first | exact Pick.head _ _ | apply Pick.tail)); first | done | fail) (by (first | assumption | (exact Hid.out (by assumption)) | exact cellsH_t .. | exact cellsH_n .. | (simp only [List.setIfInBounds_toArray, List.set_cons_zero, List.set_cons_succ, List.getElem?_toArray, List.getElem?_cons_zero, List.getElem?_cons_succ]; rfl) | rfl))) _ Tryd.underlying28 rfl rfl ?_) | (refine step_load1 28 (.tmp 20) _ _ rfl (S.row_cell (by (repeat (first | exact Pick.head _ _ | apply Pick.tail)); first | done | fail) _ _ (by first | assumption | exact Hid.out (by assumption) | rfl)) _ Tryd.underlying28 rfl rfl ?_) | (refine step_load1 28 (.tmp 20) _ _ rfl (S.old_cell (by first | assumption | exact Hid.out (by assumption))) _ Tryd.underlying28 rfl rfl ?_)) | fail)
      go_ret2
      exact ⟨rfl, S.nil⟩

set_option maxRecDepth 100000 in
set_option maxHeartbeats 4000000 in
theorem digestFields_walk (v : Value) (l : List Fld) (n : Int) (w0 : World) (h1 : Sl w0 2 v l.length (l.flatMap fldL)) (hn : -9223372036854775808 ≤ n ∧ n ≤ 9223372036854775807) (hK : KT w0) :
    Calls Tryd.prog 8 #[v, .int .i64 n] w0 fun e w' => e = .returned (.bool true) ∧ Has w0 w' [] := by
  have S := Has.start w0
  obtain ⟨a0, c0, rfl, k1, k2⟩ := Sl.shape h1
  unfold maxLen at k2
  by_cases h500 : 500 < l.length
  · have hi : 500 < (l.length : Int) := by omega
    have H1 := Lib.hid h1; have HK := Lib.hid hK; clear h1 hK
    go_enter Tryd.func8, Tryd.ntmps8
    go_wp2_with (first | (go_at_call 32; (with_reducible refine (alive_s _ (S.kt (Hid.out (by assumption)))).mono ?_); rintro e w1 ⟨rfl, T⟩; replace S := S.call T; clear T; (try simp only [List.nil_append, List.cons_append] at S)) | ((with_reducible show wpList _ _ _ (⟨some 37, .load 71 (.tmp 36), _, _, _, _⟩ :: _) _ _); first | (refine step_loadR 71 (.tmp 36) _ _ rfl _ (S.old_range (by first | assumption | exact Hid.out (by assumption))) _ Tryd.underlying71 rfl 2 (by kernel_rfl) (by first | rfl | (first | rfl | assumption | (exact Hid.out (by assumption)) | (rw [arr8_size]; first | rfl | assumption | (exact Hid.out (by assumption)) | exact List.length_replicate ..) | (simp [arr8_size]; done))) _ rfl rfl ?_) | (refine step_loadP S 71 (.tmp 36) _ _ rfl _ _ _ (by (repeat (first | exact Pick.head _ _ | apply Pick.tail)); first | done | fail) 2 _ (by (first | exact cellsH_st .. | assumption | rfl)) (by first | rfl | (first | rfl | assumption | (exact Hid.out (by assumption)) | (rw [arr8_size]; first | rfl | assumption | (exact Hid.out (by assumption)) | exact List.length_replicate ..) | (simp [arr8_size]; done))) _ Tryd.underlying71 rfl (by kernel_rfl) rfl ?_)) | (go_at_call 31; (with_reducible refine (putUint_s _ _ _ _ _ rfl _ (by first | assumption | exact S.oldB (Hid.out (by assumption)) | exact Bs.mk0 _ _ | exact S.bs (by (repeat (first | exact Pick.head _ _ | apply Pick.tail)); first | done | fail) | exact S.bsr (by (repeat (first | exact Pick.head _ _ | apply Pick.tail)); first | done | fail)) (by (first | omega | assumption | (exact Hid.out (by assumption)) | (simp only [List.length_append, List.length_cons, List.length_nil]; omega))) (by (first | omega | assumption | (exact Hid.out (by assumption)) | (simp only [List.length_append, List.length_cons, List.length_nil]; omega))) (by (first | omega | assumption | (exact Hid.out (by assumption)) | (simp only [List.length_append, List.length_cons, List.length_nil]; omega)))).mono ?_); rintro e w1 ⟨v, rfl, T⟩; replace S := S.call T; clear T; (try simp only [List.nil_append, List.cons_append] at S)) | ((with_reducible show wpList _ _ _ (⟨some 63, .slice 27 (.tmp 60) _ _ _, _, _, _, _⟩ :: _) _ _); refine step_cutH 27 5 1 (.tmp 60) (.tmp 62) _ _ _ _ _ _ rfl rfl (by first | rfl | omega) (by first | (first | omega | assumption | (exact Hid.out (by assumption)) | (simp only [List.length_append, List.length_cons, List.length_nil]; omega)) | decide) Tryd.underlying27 (by kernel_rfl) rfl ?_) | ((with_reducible show wpList _ _ _ (⟨some 64, .convert 27 9 (.tmp 63), _, _, _, _⟩ :: _) _ _); refine step_conv 27 9 5 (.tmp 63) _ _ rfl Tryd.underlying27 Tryd.underlying5 Tryd.underlying9 (by first | assumption | exact S.oldB (Hid.out (by assumption)) | exact Bs.mk0 _ _ | exact S.bs (by (repeat (first | exact Pick.head _ _ | apply Pick.tail)); first | done | fail) | exact S.bsr (by (repeat (first | exact Pick.head _ _ | apply Pick.tail)); first | done | fail)) rfl ?_) | ((with_reducible show wpList _ _ _ (⟨some 66, .convert 27 9 (.tmp 65), _, _, _, _⟩ :: _) _ _); refine step_conv 27 9 5 (.tmp 65) _ _ rfl Tryd.underlying27 Tryd.underlying5 Tryd.underlying9 (by first | assumption | exact S.oldB (Hid.out (by assumption)) | exact Bs.mk0 _ _ | exact S.bs (by (repeat (first | exact Pick.head _ _ | apply Pick.tail)); first | done | fail) | exact S.bsr (by (repeat (first | exact Pick.head _ _ | apply Pick.tail)); first | done | fail)) rfl ?_) | ((with_reducible show wpList _ _ _ (⟨some 80, .load 71 (.tmp 79), _, _, _, _⟩ :: _) _ _); first | (refine step_loadR 71 (.tmp 79) _ _ rfl _ (S.old_range (by first | assumption | exact Hid.out (by assumption))) _ Tryd.underlying71 rfl 2 (by kernel_rfl) (by first | rfl | (first | rfl | assumption | (exact Hid.out (by assumption)) | (rw [arr8_size]; first | rfl | assumption | (exact Hid.out (by assumption)) | exact List.length_replicate ..) | (simp [arr8_size]; done))) _ rfl rfl ?_) | (refine step_loadP S 71 (.tmp 79) _ _ rfl _ _ _ (by (repeat (first | exact Pick.head _ _ | apply Pick.tail)); first | done | fail) 2 _ (by (first | exact cellsH_st .. | assumption | rfl)) (by first | rfl | (first | rfl | assumption | (exact Hid.out (by assumption)) | (rw [arr8_size]; first | rfl | assumption | (exact Hid.out (by assumption)) | exact List.length_replicate ..) | (simp [arr8_size]; done))) _ Tryd.underlying71 rfl (by kernel_rfl) rfl ?_)) | (go_at_call 33; (with_reducible refine (takeUint_s _ _ _ _ _ (by first | assumption | exact S.oldB (Hid.out (by assumption)) | exact Bs.mk0 _ _ | exact S.bs (by (repeat (first | exact Pick.head _ _ | apply Pick.tail)); first | done | fail) | exact S.bsr (by (repeat (first | exact Pick.head _ _ | apply Pick.tail)); first | done | fail)) (by (first | omega | assumption | (exact Hid.out (by assumption)) | (simp only [List.length_append, List.length_cons, List.length_nil]; omega))) (by (first | omega | assumption | (exact Hid.out (by assumption)) | (simp only [List.length_append, List.length_cons, List.length_nil]; omega))) (by (first | omega | assumption | (exact Hid.out (by assumption)) | (simp only [List.length_append, List.length_cons, List.length_nil]; omega)))).mono ?_); rintro e w1 ⟨rfl, T⟩; replace S := S.call T; clear T; (try simp only [List.nil_append, List.cons_append] at S)) | ((with_reducible show wpList _ _ _ (⟨some 117, .slice 27 (.tmp 115) _ _ _, _, _, _, _⟩ :: _) _ _); refine step_cutH 27 5 1 (.tmp 115) (.tmp 116) _ _ _ _ _ _ rfl rfl (by first | rfl | omega) (by first | (first | omega | assumption | (exact Hid.out (by assumption)) | (simp only [List.length_append, List.length_cons, List.length_nil]; omega)) | decide) Tryd.underlying27 (by kernel_rfl) rfl ?_) | fail)
    go_ret
    exact ⟨rfl, S.nil⟩
  have hi : ¬ 500 < (l.length : Int) := by omega
  have H1 := Lib.hid h1; have HK := Lib.hid hK; clear h1 hK
  go_enter Tryd.func8, Tryd.ntmps8
  go_wp2_with (first | (go_at_call 32; (with_reducible refine (alive_s _ (S.kt (Hid.out (by assumption)))).mono ?_); rintro e w1 ⟨rfl, T⟩; replace S := S.call T; clear T; (try simp only [List.nil_append, List.cons_append] at S)) | ((with_reducible show wpList _ _ _ (⟨some 37, .load 71 (.tmp 36), _, _, _, _⟩ :: _) _ _); first | (refine step_loadR 71 (.tmp 36) _ _ rfl _ (S.old_range (by first | assumption | exact Hid.out (by assumption))) _ Tryd.underlying71 rfl 2 (by kernel_rfl) (by first | rfl | (first | rfl | assumption | (exact Hid.out (by assumption)) | (rw [arr8_size]; first | rfl | assumption | (exact Hid.out (by assumption)) | exact List.length_replicate ..) | (simp [arr8_size]; done))) _ rfl rfl ?_) | (refine step_loadP S 71 (.tmp 36) _ _ rfl _ _ _ (by (repeat (first | exact Pick.head _ _ | apply Pick.tail)); first | done | fail) 2 _ (by (first | exact cellsH_st .. | assumption | rfl)) (by first | rfl | (first | rfl | assumption | (exact Hid.out (by assumption)) | (rw [arr8_size]; first | rfl | assumption | (exact Hid.out (by assumption)) | exact List.length_replicate ..) | (simp [arr8_size]; done))) _ Tryd.underlying71 rfl (by kernel_rfl) rfl ?_)) | (go_at_call 31; (with_reducible refine (putUint_s _ _ _ _ _ rfl _ (by first | assumption | exact S.oldB (Hid.out (by assumption)) | exact Bs.mk0 _ _ | exact S.bs (by (repeat (first | exact Pick.head _ _ | apply Pick.tail)); first | done | fail) | exact S.bsr (by (repeat (first | exact Pick.head _ _ | apply Pick.tail)); first | done | fail)) (by (first | omega | assumption | (exact Hid.out (by assumption)) | (simp only [List.length_append, List.length_cons, List.length_nil]; omega))) (by (first | omega | assumption | (exact Hid.out (by assumption)) | (simp only [List.length_append, List.length_cons, List.length_nil]; omega))) (by (first | omega | assumption | (exact Hid.out (by assumption)) | (simp only [List.length_append, List.length_cons, List.length_nil]; omega)))).mono ?_); rintro e w1 ⟨v, rfl, T⟩; replace S := S.call T; clear T; (try simp only [List.nil_append, List.cons_append] at S)) | ((with_reducible show wpList _ _ _ (⟨some 63, .slice 27 (.tmp 60) _ _ _, _, _, _, _⟩ :: _) _ _); refine step_cutH 27 5 1 (.tmp 60) (.tmp 62) _ _ _ _ _ _ rfl rfl (by first | rfl | omega) (by first | (first | omega | assumption | (exact Hid.out (by assumption)) | (simp only [List.length_append, List.length_cons, List.length_nil]; omega)) | decide) Tryd.underlying27 (by kernel_rfl) rfl ?_) | ((with_reducible show wpList _ _ _ (⟨some 64, .convert 27 9 (.tmp 63), _, _, _, _⟩ :: _) _ _); refine step_conv 27 9 5 (.tmp 63) _ _ rfl Tryd.underlying27 Tryd.underlying5 Tryd.underlying9 (by first | assumption | exact S.oldB (Hid.out (by assumption)) | exact Bs.mk0 _ _ | exact S.bs (by (repeat (first | exact Pick.head _ _ | apply Pick.tail)); first | done | fail) | exact S.bsr (by (repeat (first | exact Pick.head _ _ | apply Pick.tail)); first | done | fail)) rfl ?_) | ((with_reducible show wpList _ _ _ (⟨some 66, .convert 27 9 (.tmp 65), _, _, _, _⟩ :: _) _ _); refine step_conv 27 9 5 (.tmp 65) _ _ rfl Tryd.underlying27 Tryd.underlying5 Tryd.underlying9 (by first | assumption | exact S.oldB (Hid.out (by assumption)) | exact Bs.mk0 _ _ | exact S.bs (by (repeat (first | exact Pick.head _ _ | apply Pick.tail)); first | done | fail) | exact S.bsr (by (repeat (first | exact Pick.head _ _ | apply Pick.tail)); first | done | fail)) rfl ?_) | ((with_reducible show wpList _ _ _ (⟨some 80, .load 71 (.tmp 79), _, _, _, _⟩ :: _) _ _); first | (refine step_loadR 71 (.tmp 79) _ _ rfl _ (S.old_range (by first | assumption | exact Hid.out (by assumption))) _ Tryd.underlying71 rfl 2 (by kernel_rfl) (by first | rfl | (first | rfl | assumption | (exact Hid.out (by assumption)) | (rw [arr8_size]; first | rfl | assumption | (exact Hid.out (by assumption)) | exact List.length_replicate ..) | (simp [arr8_size]; done))) _ rfl rfl ?_) | (refine step_loadP S 71 (.tmp 79) _ _ rfl _ _ _ (by (repeat (first | exact Pick.head _ _ | apply Pick.tail)); first | done | fail) 2 _ (by (first | exact cellsH_st .. | assumption | rfl)) (by first | rfl | (first | rfl | assumption | (exact Hid.out (by assumption)) | (rw [arr8_size]; first | rfl | assumption | (exact Hid.out (by assumption)) | exact List.length_replicate ..) | (simp [arr8_size]; done))) _ Tryd.underlying71 rfl (by kernel_rfl) rfl ?_)) | (go_at_call 33; (with_reducible refine (takeUint_s _ _ _ _ _ (by first | assumption | exact S.oldB (Hid.out (by assumption)) | exact Bs.mk0 _ _ | exact S.bs (by (repeat (first | exact Pick.head _ _ | apply Pick.tail)); first | done | fail) | exact S.bsr (by (repeat (first | exact Pick.head _ _ | apply Pick.tail)); first | done | fail)) (by (first | omega | assumption | (exact Hid.out (by assumption)) | (simp only [List.length_append, List.length_cons, List.length_nil]; omega))) (by (first | omega | assumption | (exact Hid.out (by assumption)) | (simp only [List.length_append, List.length_cons, List.length_nil]; omega))) (by (first | omega | assumption | (exact Hid.out (by assumption)) | (simp only [List.length_append, List.length_cons, List.length_nil]; omega)))).mono ?_); rintro e w1 ⟨rfl, T⟩; replace S := S.call T; clear T; (try simp only [List.nil_append, List.cons_append] at S)) | ((with_reducible show wpList _ _ _ (⟨some 117, .slice 27 (.tmp 115) _ _ _, _, _, _, _⟩ :: _) _ _); refine step_cutH 27 5 1 (.tmp 115) (.tmp 116) _ _ _ _ _ _ rfl rfl (by first | rfl | omega) (by first | (first | omega | assumption | (exact Hid.out (by assumption)) | (simp only [List.length_append, List.length_cons, List.length_nil]; omega)) | decide) Tryd.underlying27 (by kernel_rfl) rfl ?_) | fail)
  have S := S.nil_row 5 1
  go_loopw [6, 7] (fun v6 t wr => ∃ (k : Nat), k ≤ l.length ∧ t = .int .i64 (k : Int) ∧ Has w0 wr [row8 v6 (catF l k)]) (fun _ t _ => l.length - (intOf t).toNat)
  case atStart => exact ⟨0, Nat.zero_le _, rfl, S⟩
  case round =>
    obtain ⟨k, hk, rfl, S⟩ := hrel
    by_cases hlt : k < l.length
    · have hf : l[k]? = some l[k] := List.getElem?_eq_getElem hlt
      have hsucc := catF_succ l k _ hf
      have hXl := catF_le l k
      obtain ⟨b, off, rfl, _⟩ := H1.out.atA (by omega)
      have hrg := H1.out.elem fldL_length (by decide) k _ hf
      obtain ⟨f, hfe⟩ : ∃ f, f = l[k] := ⟨_, rfl⟩
      rw [← hfe] at hsucc hrg
      have hsz := szF_le f
      have hnm := nmF_lt f
      have hcs := fun w => cut_s f w
      obtain ⟨s, hs⟩ : ∃ s, s = szF f := ⟨_, rfl⟩
      obtain ⟨m, hm⟩ : ∃ m, m = nmF f := ⟨_, rfl⟩
      obtain ⟨X, hX⟩ : ∃ X, X = catF l k := ⟨_, rfl⟩
      rw [← hs, ← hm] at hsucc hcs hnm
      rw [← hs] at hsz
      rw [← hX] at S hsucc hXl
      have hnl := numB_length m s
      obtain ⟨N, hN⟩ : ∃ N, N = numB m s := ⟨_, rfl⟩
      have hpg := fun v w hv => put_go v X m s _ _ rfl rfl w hv hsz.1 hsz.2 hnm (by omega)
      rw [← hN] at hsucc hnl hpg
      have hki : (k : Int) < l.length := by omega
      have hXN : (X ++ N).length = X.length + s := by rw [List.length_append, hnl]
      have htk : ((X ++ N).drop 0).take X.length = X := by simp
      obtain ⟨Y, hY⟩ : ∃ Y, Y = X ++ N := ⟨_, rfl⟩
      rw [← hY] at hsucc hpg hXN htk
      obtain ⟨a6, c6, hv6, _, hc62⟩ := Sl.shape (S.bs (xs := X) (by (repeat (first | exact Pick.head _ _ | apply Pick.tail)); first | done | fail))
      subst hv6
      unfold maxLen at hc62
      obtain ⟨hsz1, hsz2⟩ := hsz
      have HRG := Lib.hid hrg; have HCS := Lib.hid hcs; have HPG := Lib.hid hpg; have HSUCC := Lib.hid hsucc; have HXN := Lib.hid hXN; have HTK := Lib.hid htk; clear hrg hcs hpg hsucc hXN htk
      clear hf hfe hs hm hX hN hY hnl hnm
      go_wp2_with (first | ((with_reducible show wpList _ _ _ (⟨some 37, .load 71 (.tmp 36), _, _, _, _⟩ :: _) _ _); first | (refine step_loadR 71 (.tmp 36) _ _ rfl _ (S.old_range (by first | assumption | exact Hid.out (by assumption))) _ Tryd.underlying71 rfl 2 (by kernel_rfl) (by first | rfl | (first | rfl | assumption | (exact Hid.out (by assumption)) | (rw [arr8_size]; first | rfl | assumption | (exact Hid.out (by assumption)) | exact List.length_replicate ..) | (simp [arr8_size]; done))) _ rfl rfl ?_) | (refine step_loadP S 71 (.tmp 36) _ _ rfl _ _ _ (by (repeat (first | exact Pick.head _ _ | apply Pick.tail)); first | done | fail) 2 _ (by (first | exact cellsH_st .. | assumption | rfl)) (by first | rfl | (first | rfl | assumption | (exact Hid.out (by assumption)) | (rw [arr8_size]; first | rfl | assumption | (exact Hid.out (by assumption)) | exact List.length_replicate ..) | (simp [arr8_size]; done))) _ Tryd.underlying71 rfl (by kernel_rfl) rfl ?_)) | (go_at_call 39; (with_reducible refine (HCS.out _).mono ?_); rintro e w1 ⟨rfl, T⟩; replace S := S.call T; clear T; (try simp only [List.nil_append, List.cons_append] at S)) | (go_at_call 31; (with_reducible refine (HPG.out _ _ (by first | assumption | exact S.oldB (Hid.out (by assumption)) | exact Bs.mk0 _ _ | exact S.bs (by (repeat (first | exact Pick.head _ _ | apply Pick.tail)); first | done | fail) | exact S.bsr (by (repeat (first | exact Pick.head _ _ | apply Pick.tail)); first | done | fail))).mono ?_); rintro e w1 ⟨v46, rfl, T⟩; replace S := S.call T; clear T; (try simp only [List.nil_append, List.cons_append] at S)) | ((with_reducible show wpList _ _ _ (⟨some 63, .slice 27 (.tmp 60) _ _ _, _, _, _, _⟩ :: _) _ _); refine step_cutH 27 5 1 (.tmp 60) (.tmp 62) _ _ _ _ _ _ rfl rfl (by first | rfl | omega) (by first | (first | omega | assumption | (exact Hid.out (by assumption)) | (simp only [List.length_append, List.length_cons, List.length_nil]; omega)) | decide) Tryd.underlying27 (by kernel_rfl) rfl ?_) | ((with_reducible show wpList _ _ _ (⟨some 64, .convert 27 9 (.tmp 63), _, _, _, _⟩ :: _) _ _); refine step_conv 27 9 5 (.tmp 63) _ _ rfl Tryd.underlying27 Tryd.underlying5 Tryd.underlying9 (by first | assumption | exact S.oldB (Hid.out (by assumption)) | exact Bs.mk0 _ _ | exact S.bs (by (repeat (first | exact Pick.head _ _ | apply Pick.tail)); first | done | fail) | exact S.bsr (by (repeat (first | exact Pick.head _ _ | apply Pick.tail)); first | done | fail)) rfl ?_) | ((with_reducible show wpList _ _ _ (⟨some 66, .convert 27 9 (.tmp 65), _, _, _, _⟩ :: _) _ _); refine step_conv 27 9 5 (.tmp 65) _ _ rfl Tryd.underlying27 Tryd.underlying5 Tryd.underlying9 (by first | assumption | exact S.oldB (Hid.out (by assumption)) | exact Bs.mk0 _ _ | exact S.bs (by (repeat (first | exact Pick.head _ _ | apply Pick.tail)); first | done | fail) | exact S.bsr (by (repeat (first | exact Pick.head _ _ | apply Pick.tail)); first | done | fail)) rfl ?_) | ((with_reducible show wpList _ _ _ (⟨some 80, .load 71 (.tmp 79), _, _, _, _⟩ :: _) _ _); first | (refine step_loadR 71 (.tmp 79) _ _ rfl _ (S.old_range (by first | assumption | exact Hid.out (by assumption))) _ Tryd.underlying71 rfl 2 (by kernel_rfl) (by first | rfl | (first | rfl | assumption | (exact Hid.out (by assumption)) | (rw [arr8_size]; first | rfl | assumption | (exact Hid.out (by assumption)) | exact List.length_replicate ..) | (simp [arr8_size]; done))) _ rfl rfl ?_) | (refine step_loadP S 71 (.tmp 79) _ _ rfl _ _ _ (by (repeat (first | exact Pick.head _ _ | apply Pick.tail)); first | done | fail) 2 _ (by (first | exact cellsH_st .. | assumption | rfl)) (by first | rfl | (first | rfl | assumption | (exact Hid.out (by assumption)) | (rw [arr8_size]; first | rfl | assumption | (exact Hid.out (by assumption)) | exact List.length_replicate ..) | (simp [arr8_size]; done))) _ Tryd.underlying71 rfl (by kernel_rfl) rfl ?_)) | (go_at_call 33; (with_reducible refine (takeUint_s _ _ _ _ _ (by first | assumption | exact S.oldB (Hid.out (by assumption)) | exact Bs.mk0 _ _ | exact S.bs (by (repeat (first | exact Pick.head _ _ | apply Pick.tail)); first | done | fail) | exact S.bsr (by (repeat (first | exact Pick.head _ _ | apply Pick.tail)); first | done | fail)) (by (first | omega | assumption | (exact Hid.out (by assumption)) | (simp only [List.length_append, List.length_cons, List.length_nil]; omega))) (by (first | omega | assumption | (exact Hid.out (by assumption)) | (simp only [List.length_append, List.length_cons, List.length_nil]; omega))) (by (first | omega | assumption | (exact Hid.out (by assumption)) | (simp only [List.length_append, List.length_cons, List.length_nil]; omega)))).mono ?_); rintro e w1 ⟨rfl, T⟩; replace S := S.call T; clear T; (try simp only [List.nil_append, List.cons_append] at S)) | ((with_reducible show wpList _ _ _ (⟨some 117, .slice 27 (.tmp 115) _ _ _, _, _, _, _⟩ :: _) _ _); refine step_cutH 27 5 1 (.tmp 115) (.tmp 116) _ _ _ _ _ _ rfl rfl (by first | rfl | omega) (by first | (first | omega | assumption | (exact Hid.out (by assumption)) | (simp only [List.length_append, List.length_cons, List.length_nil]; omega)) | decide) Tryd.underlying27 (by kernel_rfl) rfl ?_) | fail)
      obtain ⟨a10, c10, hv10, hc101, hc102⟩ := Sl.shape (S.bs (xs := Y) (by (repeat (first | exact Pick.head _ _ | apply Pick.tail)); first | done | fail))
      rw [HXN.out] at hv10 hc101
      subst hv10
      refine wp_rely S [⟨[], [], [], fun _ v => v = (.int .i64 0), fun _ v => []⟩, ⟨[0], [], [], fun _ v => v = .bool false, fun _ v => []⟩, ⟨[0, 1], [], [], fun _ v => v = (.bool false), fun _ v => []⟩, ⟨[0, 1, 2], [], [], fun _ v => v = (.slice a10 (X.length + s) c10), fun _ v => []⟩, ⟨[0, 1, 2, 3], [], [], fun _ v => v = .int .i64 ((X.length + s : Nat) : Int), fun _ v => []⟩, ⟨[0, 1, 2], [], [], fun _ v => v = (.slice a6 X.length c6), fun _ v => []⟩, ⟨[0, 1, 2, 5], [], [], fun _ v => v = .int .i64 (X.length : Int), fun _ v => []⟩, ⟨[0, 1, 2], [], [], fun _ v => v = (.int .i64 (s : Int)), fun _ v => []⟩, ⟨[0, 1, 2, 5, 6, 7], [], [], fun _ v => v = .int .i64 ((X.length + s : Nat) : Int), fun _ v => []⟩, ⟨[0, 1, 2, 3, 4, 5, 6, 7, 8], [], [], fun _ v => v = .bool false, fun _ v => []⟩, ⟨[0, 1, 2, 3, 4, 5, 6, 7, 8, 9], [], [], fun _ v => v = .bool false, fun _ v => []⟩, ⟨[0, 1, 2, 3, 4, 5, 6, 7, 8, 9, 10], [], [], fun _ v => v = (.bool false), fun _ v => []⟩, ⟨[0, 1, 2, 3, 4, 5, 6, 7, 8, 9, 10, 11], [], [], fun _ v => v = (.slice a10 (X.length + s) c10), fun _ v => []⟩, ⟨[0, 1, 2, 3, 4, 5, 6, 7, 8, 9, 10, 11], [], [], fun _ v => v = (.slice a6 X.length c6), fun _ v => []⟩, ⟨[0, 1, 2, 3, 4, 5, 6, 7, 8, 9, 10, 11, 13], [], [], fun _ v => v = .int .i64 (X.length : Int), fun _ v => []⟩, ⟨[0, 1, 2, 3, 4, 5, 6, 7, 8, 9, 10, 11, 12, 13, 14], [], [], fun _ v => v = .slice (cutA a10 c10 0 1) X.length c10, fun _ v => []⟩, ⟨[0, 1, 2, 3, 4, 5, 6, 7, 8, 9, 10, 11, 12, 13, 14, 15], [], [], fun _ v => v = .string (strB X), fun _ v => []⟩, ⟨[0, 1, 2, 3, 4, 5, 6, 7, 8, 9, 10, 11], [], [], fun _ v => v = (.slice a6 X.length c6), fun _ v => []⟩, ⟨[0, 1, 2, 3, 4, 5, 6, 7, 8, 9, 10, 11, 17], [], [], fun _ v => v = .string (strB X), fun _ v => []⟩, ⟨[0, 1, 2, 3, 4, 5, 6, 7, 8, 9, 10, 11, 12, 13, 14, 15, 16, 17, 18], [], [], fun _ v => v = .bool false, fun _ v => []⟩, ⟨[0, 1, 2, 3, 4, 5, 6, 7, 8, 9, 10, 11, 12, 13, 14, 15, 16, 17, 18, 19], [], [], fun _ v => v = .bool false, fun _ v => []⟩] ?A3 ?hA3 (by kernel_rfl) (by kernel_rfl) (by kernel_rfl) [0, 1, 2, 3, 4, 5, 6, 7, 8, 9, 10, 11, 12, 13, 14, 15, 16, 17, 18, 19, 20] (by kernel_rfl) ?hok3 ?fin3
      case hA3 => intro u; simp only [putAll, List.length_cons, List.length_nil, Nat.zero_add, Nat.reduceAdd, dstAt, List.getElem?_toArray, List.getElem?_cons_zero, List.getElem?_cons_succ, Option.bind_some, Act.put, List.setIfInBounds_toArray, List.set_cons_zero, List.set_cons_succ]; rfl
      case hok3 =>
        intro i hi
        obtain rfl | rfl | rfl | rfl | rfl | rfl | rfl | rfl | rfl | rfl | rfl | rfl | rfl | rfl | rfl | rfl | rfl | rfl | rfl | rfl | rfl : i = 0 ∨ i = 1 ∨ i = 2 ∨ i = 3 ∨ i = 4 ∨ i = 5 ∨ i = 6 ∨ i = 7 ∨ i = 8 ∨ i = 9 ∨ i = 10 ∨ i = 11 ∨ i = 12 ∨ i = 13 ∨ i = 14 ∨ i = 15 ∨ i = 16 ∨ i = 17 ∨ i = 18 ∨ i = 19 ∨ i = 20 := by simp only [List.length_cons, List.length_nil, Nat.zero_add, Nat.reduceAdd] at hi; omega
        · clear hi
          refine step_of rfl rfl rfl ?_
          intro u G w hf S
          simp only [resOf, spec, RSpec.resAt, List.getD_cons_zero, List.getD_cons_succ, List.flatMap_cons, List.flatMap_nil, List.nil_append, List.cons_append, List.append_nil, List.append_assoc, ptrBlk] at S ⊢
          simp only [does]
          go_simp
          try first | exact S | (refine ⟨?_, S⟩; (first | rfl | omega | (rw [IntWalk.i64_in _ (by omega)]; try omega) | (rw [IntKind.wrap_u64]; omega))) | (first | rfl | omega | (rw [IntWalk.i64_in _ (by omega)]; try omega) | (rw [IntKind.wrap_u64]; omega))
        · clear hi
          refine step_of rfl rfl rfl ?_
          intro u G w hf S
          have f0 : u 0 = (.int .i64 0) := hf 0 (by simp)
          simp only [resOf, spec, RSpec.resAt, List.getD_cons_zero, List.getD_cons_succ, List.flatMap_cons, List.flatMap_nil, List.nil_append, List.cons_append, List.append_nil, List.append_assoc, ptrBlk] at S ⊢
          simp only [f0]
          simp only [does]
          go_simp
          try first | exact S | (refine ⟨?_, S⟩; (first | rfl | omega | (rw [IntWalk.i64_in _ (by omega)]; try omega) | (rw [IntKind.wrap_u64]; omega))) | (first | rfl | omega | (rw [IntWalk.i64_in _ (by omega)]; try omega) | (rw [IntKind.wrap_u64]; omega))
        · clear hi
          refine step_of rfl rfl rfl ?_
          intro u G w hf S
          have f0 : u 0 = (.int .i64 0) := hf 0 (by simp)
          have f1 : u 1 = .bool false := hf 1 (by simp)
          simp only [resOf, spec, RSpec.resAt, List.getD_cons_zero, List.getD_cons_succ, List.flatMap_cons, List.flatMap_nil, List.nil_append, List.cons_append, List.append_nil, List.append_assoc, ptrBlk] at S ⊢
          simp only [f0, f1]
          simp only [does]
          go_simp
          try first | exact S | (refine ⟨?_, S⟩; (first | rfl | omega | (rw [IntWalk.i64_in _ (by omega)]; try omega) | (rw [IntKind.wrap_u64]; omega))) | (first | rfl | omega | (rw [IntWalk.i64_in _ (by omega)]; try omega) | (rw [IntKind.wrap_u64]; omega))
        · clear hi
          refine step_of_g rfl rfl ?_
          intro u G w hf S
          have f0 : u 0 = (.int .i64 0) := hf 0 (by simp)
          have f1 : u 1 = .bool false := hf 1 (by simp)
          have f2 : u 2 = (.bool false) := hf 2 (by simp)
          simp only [resOf, spec, RSpec.resAt, List.getD_cons_zero, List.getD_cons_succ, List.flatMap_cons, List.flatMap_nil, List.nil_append, List.cons_append, List.append_nil, List.append_assoc, ptrBlk] at S ⊢
          simp only [f0, f1, f2]
          refine ⟨rfl, ?_⟩
          simp only [does]
          go_simp
          try first | exact S | (refine ⟨?_, S⟩; (first | rfl | omega | (rw [IntWalk.i64_in _ (by omega)]; try omega) | (rw [IntKind.wrap_u64]; omega))) | (first | rfl | omega | (rw [IntWalk.i64_in _ (by omega)]; try omega) | (rw [IntKind.wrap_u64]; omega))
        · clear hi
          refine step_of_g rfl rfl ?_
          intro u G w hf S
          have f0 : u 0 = (.int .i64 0) := hf 0 (by simp)
          have f1 : u 1 = .bool false := hf 1 (by simp)
          have f2 : u 2 = (.bool false) := hf 2 (by simp)
          have f3 : u 3 = (.slice a10 (X.length + s) c10) := hf 3 (by simp)
          simp only [resOf, spec, RSpec.resAt, List.getD_cons_zero, List.getD_cons_succ, List.flatMap_cons, List.flatMap_nil, List.nil_append, List.cons_append, List.append_nil, List.append_assoc, ptrBlk] at S ⊢
          simp only [f0, f1, f2, f3]
          refine ⟨rfl, ?_⟩
          simp only [does]
          go_simp
          try first | exact S | (refine ⟨?_, S⟩; (first | rfl | omega | (rw [IntWalk.i64_in _ (by omega)]; try omega) | (rw [IntKind.wrap_u64]; omega))) | (first | rfl | omega | (rw [IntWalk.i64_in _ (by omega)]; try omega) | (rw [IntKind.wrap_u64]; omega))
        · clear hi
          refine step_of_g rfl rfl ?_
          intro u G w hf S
          have f0 : u 0 = (.int .i64 0) := hf 0 (by simp)
          have f1 : u 1 = .bool false := hf 1 (by simp)
          have f2 : u 2 = (.bool false) := hf 2 (by simp)
          simp only [resOf, spec, RSpec.resAt, List.getD_cons_zero, List.getD_cons_succ, List.flatMap_cons, List.flatMap_nil, List.nil_append, List.cons_append, List.append_nil, List.append_assoc, ptrBlk] at S ⊢
          simp only [f0, f1, f2]
          refine ⟨rfl, ?_⟩
          simp only [does]
          go_simp
          try first | exact S | (refine ⟨?_, S⟩; (first | rfl | omega | (rw [IntWalk.i64_in _ (by omega)]; try omega) | (rw [IntKind.wrap_u64]; omega))) | (first | rfl | omega | (rw [IntWalk.i64_in _ (by omega)]; try omega) | (rw [IntKind.wrap_u64]; omega))
        · clear hi
          refine step_of_g rfl rfl ?_
          intro u G w hf S
          have f0 : u 0 = (.int .i64 0) := hf 0 (by simp)
          have f1 : u 1 = .bool false := hf 1 (by simp)
          have f2 : u 2 = (.bool false) := hf 2 (by simp)
          have f5 : u 5 = (.slice a6 X.length c6) := hf 5 (by simp)
          simp only [resOf, spec, RSpec.resAt, List.getD_cons_zero, List.getD_cons_succ, List.flatMap_cons, List.flatMap_nil, List.nil_append, List.cons_append, List.append_nil, List.append_assoc, ptrBlk] at S ⊢
          simp only [f0, f1, f2, f5]
          refine ⟨rfl, ?_⟩
          simp only [does]
          go_simp
          try first | exact S | (refine ⟨?_, S⟩; (first | rfl | omega | (rw [IntWalk.i64_in _ (by omega)]; try omega) | (rw [IntKind.wrap_u64]; omega))) | (first | rfl | omega | (rw [IntWalk.i64_in _ (by omega)]; try omega) | (rw [IntKind.wrap_u64]; omega))
        · clear hi
          refine step_of_g rfl rfl ?_
          intro u G w hf S
          have f0 : u 0 = (.int .i64 0) := hf 0 (by simp)
          have f1 : u 1 = .bool false := hf 1 (by simp)
          have f2 : u 2 = (.bool false) := hf 2 (by simp)
          simp only [resOf, spec, RSpec.resAt, List.getD_cons_zero, List.getD_cons_succ, List.flatMap_cons, List.flatMap_nil, List.nil_append, List.cons_append, List.append_nil, List.append_assoc, ptrBlk] at S ⊢
          simp only [f0, f1, f2]
          refine ⟨rfl, ?_⟩
          simp only [does]
          go_simp
          try first | exact S | (refine ⟨?_, S⟩; (first | rfl | omega | (rw [IntWalk.i64_in _ (by omega)]; try omega) | (rw [IntKind.wrap_u64]; omega))) | (first | rfl | omega | (rw [IntWalk.i64_in _ (by omega)]; try omega) | (rw [IntKind.wrap_u64]; omega))
        · clear hi
          refine step_of_g rfl rfl ?_
          intro u G w hf S
          have f0 : u 0 = (.int .i64 0) := hf 0 (by simp)
          have f1 : u 1 = .bool false := hf 1 (by simp)
          have f2 : u 2 = (.bool false) := hf 2 (by simp)
          have f5 : u 5 = (.slice a6 X.length c6) := hf 5 (by simp)
          have f6 : u 6 = .int .i64 (X.length : Int) := hf 6 (by simp)
          have f7 : u 7 = (.int .i64 (s : Int)) := hf 7 (by simp)
          simp only [resOf, spec, RSpec.resAt, List.getD_cons_zero, List.getD_cons_succ, List.flatMap_cons, List.flatMap_nil, List.nil_append, List.cons_append, List.append_nil, List.append_assoc, ptrBlk] at S ⊢
          simp only [f0, f1, f2, f5, f6, f7]
          refine ⟨rfl, ?_⟩
          simp only [does]
          go_simp
          try first | exact S | (refine ⟨?_, S⟩; (first | rfl | omega | (rw [IntWalk.i64_in _ (by omega)]; try omega) | (rw [IntKind.wrap_u64]; omega))) | (first | rfl | omega | (rw [IntWalk.i64_in _ (by omega)]; try omega) | (rw [IntKind.wrap_u64]; omega))
        · clear hi
          refine step_of_g rfl rfl ?_
          intro u G w hf S
          have f0 : u 0 = (.int .i64 0) := hf 0 (by simp)
          have f1 : u 1 = .bool false := hf 1 (by simp)
          have f2 : u 2 = (.bool false) := hf 2 (by simp)
          have f3 : u 3 = (.slice a10 (X.length + s) c10) := hf 3 (by simp)
          have f4 : u 4 = .int .i64 ((X.length + s : Nat) : Int) := hf 4 (by simp)
          have f5 : u 5 = (.slice a6 X.length c6) := hf 5 (by simp)
          have f6 : u 6 = .int .i64 (X.length : Int) := hf 6 (by simp)
          have f7 : u 7 = (.int .i64 (s : Int)) := hf 7 (by simp)
          have f8 : u 8 = .int .i64 ((X.length + s : Nat) : Int) := hf 8 (by simp)
          simp only [resOf, spec, RSpec.resAt, List.getD_cons_zero, List.getD_cons_succ, List.flatMap_cons, List.flatMap_nil, List.nil_append, List.cons_append, List.append_nil, List.append_assoc, ptrBlk] at S ⊢
          simp only [f0, f1, f2, f3, f4, f5, f6, f7, f8]
          refine ⟨rfl, ?_⟩
          simp only [does]
          go_simp
          try first | exact S | (refine ⟨?_, S⟩; (first | rfl | omega | (rw [IntWalk.i64_in _ (by omega)]; try omega) | (rw [IntKind.wrap_u64]; omega))) | (first | rfl | omega | (rw [IntWalk.i64_in _ (by omega)]; try omega) | (rw [IntKind.wrap_u64]; omega))
        · clear hi
          refine step_of rfl rfl rfl ?_
          intro u G w hf S
          have f0 : u 0 = (.int .i64 0) := hf 0 (by simp)
          have f1 : u 1 = .bool false := hf 1 (by simp)
          have f2 : u 2 = (.bool false) := hf 2 (by simp)
          have f3 : u 3 = (.slice a10 (X.length + s) c10) := hf 3 (by simp)
          have f4 : u 4 = .int .i64 ((X.length + s : Nat) : Int) := hf 4 (by simp)
          have f5 : u 5 = (.slice a6 X.length c6) := hf 5 (by simp)
          have f6 : u 6 = .int .i64 (X.length : Int) := hf 6 (by simp)
          have f7 : u 7 = (.int .i64 (s : Int)) := hf 7 (by simp)
          have f8 : u 8 = .int .i64 ((X.length + s : Nat) : Int) := hf 8 (by simp)
          have f9 : u 9 = .bool false := hf 9 (by simp)
          simp only [resOf, spec, RSpec.resAt, List.getD_cons_zero, List.getD_cons_succ, List.flatMap_cons, List.flatMap_nil, List.nil_append, List.cons_append, List.append_nil, List.append_assoc, ptrBlk] at S ⊢
          simp only [f0, f1, f2, f3, f4, f5, f6, f7, f8, f9]
          simp only [does]
          go_simp
          try first | exact S | (refine ⟨?_, S⟩; (first | rfl | omega | (rw [IntWalk.i64_in _ (by omega)]; try omega) | (rw [IntKind.wrap_u64]; omega))) | (first | rfl | omega | (rw [IntWalk.i64_in _ (by omega)]; try omega) | (rw [IntKind.wrap_u64]; omega))
        · clear hi
          refine step_of rfl rfl rfl ?_
          intro u G w hf S
          have f0 : u 0 = (.int .i64 0) := hf 0 (by simp)
          have f1 : u 1 = .bool false := hf 1 (by simp)
          have f2 : u 2 = (.bool false) := hf 2 (by simp)
          have f3 : u 3 = (.slice a10 (X.length + s) c10) := hf 3 (by simp)
          have f4 : u 4 = .int .i64 ((X.length + s : Nat) : Int) := hf 4 (by simp)
          have f5 : u 5 = (.slice a6 X.length c6) := hf 5 (by simp)
          have f6 : u 6 = .int .i64 (X.length : Int) := hf 6 (by simp)
          have f7 : u 7 = (.int .i64 (s : Int)) := hf 7 (by simp)
          have f8 : u 8 = .int .i64 ((X.length + s : Nat) : Int) := hf 8 (by simp)
          have f9 : u 9 = .bool false := hf 9 (by simp)
          have f10 : u 10 = .bool false := hf 10 (by simp)
          simp only [resOf, spec, RSpec.resAt, List.getD_cons_zero, List.getD_cons_succ, List.flatMap_cons, List.flatMap_nil, List.nil_append, List.cons_append, List.append_nil, List.append_assoc, ptrBlk] at S ⊢
          simp only [f0, f1, f2, f3, f4, f5, f6, f7, f8, f9, f10]
          simp only [does]
          go_simp
          try first | exact S | (refine ⟨?_, S⟩; (first | rfl | omega | (rw [IntWalk.i64_in _ (by omega)]; try omega) | (rw [IntKind.wrap_u64]; omega))) | (first | rfl | omega | (rw [IntWalk.i64_in _ (by omega)]; try omega) | (rw [IntKind.wrap_u64]; omega))
        · clear hi
          refine step_of_g rfl rfl ?_
          intro u G w hf S
          have f0 : u 0 = (.int .i64 0) := hf 0 (by simp)
          have f1 : u 1 = .bool false := hf 1 (by simp)
          have f2 : u 2 = (.bool false) := hf 2 (by simp)
          have f3 : u 3 = (.slice a10 (X.length + s) c10) := hf 3 (by simp)
          have f4 : u 4 = .int .i64 ((X.length + s : Nat) : Int) := hf 4 (by simp)
          have f5 : u 5 = (.slice a6 X.length c6) := hf 5 (by simp)
          have f6 : u 6 = .int .i64 (X.length : Int) := hf 6 (by simp)
          have f7 : u 7 = (.int .i64 (s : Int)) := hf 7 (by simp)
          have f8 : u 8 = .int .i64 ((X.length + s : Nat) : Int) := hf 8 (by simp)
          have f9 : u 9 = .bool false := hf 9 (by simp)
          have f10 : u 10 = .bool false := hf 10 (by simp)
          have f11 : u 11 = (.bool false) := hf 11 (by simp)
          simp only [resOf, spec, RSpec.resAt, List.getD_cons_zero, List.getD_cons_succ, List.flatMap_cons, List.flatMap_nil, List.nil_append, List.cons_append, List.append_nil, List.append_assoc, ptrBlk] at S ⊢
          simp only [f0, f1, f2, f3, f4, f5, f6, f7, f8, f9, f10, f11]
          refine ⟨rfl, ?_⟩
          simp only [does]
          go_simp
          try first | exact S | (refine ⟨?_, S⟩; (first | rfl | omega | (rw [IntWalk.i64_in _ (by omega)]; try omega) | (rw [IntKind.wrap_u64]; omega))) | (first | rfl | omega | (rw [IntWalk.i64_in _ (by omega)]; try omega) | (rw [IntKind.wrap_u64]; omega))
        · clear hi
          refine step_of_g rfl rfl ?_
          intro u G w hf S
          have f0 : u 0 = (.int .i64 0) := hf 0 (by simp)
          have f1 : u 1 = .bool false := hf 1 (by simp)
          have f2 : u 2 = (.bool false) := hf 2 (by simp)
          have f3 : u 3 = (.slice a10 (X.length + s) c10) := hf 3 (by simp)
          have f4 : u 4 = .int .i64 ((X.length + s : Nat) : Int) := hf 4 (by simp)
          have f5 : u 5 = (.slice a6 X.length c6) := hf 5 (by simp)
          have f6 : u 6 = .int .i64 (X.length : Int) := hf 6 (by simp)
          have f7 : u 7 = (.int .i64 (s : Int)) := hf 7 (by simp)
          have f8 : u 8 = .int .i64 ((X.length + s : Nat) : Int) := hf 8 (by simp)
          have f9 : u 9 = .bool false := hf 9 (by simp)
          have f10 : u 10 = .bool false := hf 10 (by simp)
          have f11 : u 11 = (.bool false) := hf 11 (by simp)
          simp only [resOf, spec, RSpec.resAt, List.getD_cons_zero, List.getD_cons_succ, List.flatMap_cons, List.flatMap_nil, List.nil_append, List.cons_append, List.append_nil, List.append_assoc, ptrBlk] at S ⊢
          simp only [f0, f1, f2, f3, f4, f5, f6, f7, f8, f9, f10, f11]
          refine ⟨rfl, ?_⟩
          simp only [does]
          go_simp
          try first | exact S | (refine ⟨?_, S⟩; (first | rfl | omega | (rw [IntWalk.i64_in _ (by omega)]; try omega) | (rw [IntKind.wrap_u64]; omega))) | (first | rfl | omega | (rw [IntWalk.i64_in _ (by omega)]; try omega) | (rw [IntKind.wrap_u64]; omega))
        · clear hi
          refine step_of_g rfl rfl ?_
          intro u G w hf S
          have f0 : u 0 = (.int .i64 0) := hf 0 (by simp)
          have f1 : u 1 = .bool false := hf 1 (by simp)
          have f2 : u 2 = (.bool false) := hf 2 (by simp)
          have f3 : u 3 = (.slice a10 (X.length + s) c10) := hf 3 (by simp)
          have f4 : u 4 = .int .i64 ((X.length + s : Nat) : Int) := hf 4 (by simp)
          have f5 : u 5 = (.slice a6 X.length c6) := hf 5 (by simp)
          have f6 : u 6 = .int .i64 (X.length : Int) := hf 6 (by simp)
          have f7 : u 7 = (.int .i64 (s : Int)) := hf 7 (by simp)
          have f8 : u 8 = .int .i64 ((X.length + s : Nat) : Int) := hf 8 (by simp)
          have f9 : u 9 = .bool false := hf 9 (by simp)
          have f10 : u 10 = .bool false := hf 10 (by simp)
          have f11 : u 11 = (.bool false) := hf 11 (by simp)
          have f13 : u 13 = (.slice a6 X.length c6) := hf 13 (by simp)
          simp only [resOf, spec, RSpec.resAt, List.getD_cons_zero, List.getD_cons_succ, List.flatMap_cons, List.flatMap_nil, List.nil_append, List.cons_append, List.append_nil, List.append_assoc, ptrBlk] at S ⊢
          simp only [f0, f1, f2, f3, f4, f5, f6, f7, f8, f9, f10, f11, f13]
          refine ⟨rfl, ?_⟩
          simp only [does]
          go_simp
          try first | exact S | (refine ⟨?_, S⟩; (first | rfl | omega | (rw [IntWalk.i64_in _ (by omega)]; try omega) | (rw [IntKind.wrap_u64]; omega))) | (first | rfl | omega | (rw [IntWalk.i64_in _ (by omega)]; try omega) | (rw [IntKind.wrap_u64]; omega))
        · clear hi
          refine step_of_g rfl rfl ?_
          intro u G w hf S
          have f0 : u 0 = (.int .i64 0) := hf 0 (by simp)
          have f1 : u 1 = .bool false := hf 1 (by simp)
          have f2 : u 2 = (.bool false) := hf 2 (by simp)
          have f3 : u 3 = (.slice a10 (X.length + s) c10) := hf 3 (by simp)
          have f4 : u 4 = .int .i64 ((X.length + s : Nat) : Int) := hf 4 (by simp)
          have f5 : u 5 = (.slice a6 X.length c6) := hf 5 (by simp)
          have f6 : u 6 = .int .i64 (X.length : Int) := hf 6 (by simp)
          have f7 : u 7 = (.int .i64 (s : Int)) := hf 7 (by simp)
          have f8 : u 8 = .int .i64 ((X.length + s : Nat) : Int) := hf 8 (by simp)
          have f9 : u 9 = .bool false := hf 9 (by simp)
          have f10 : u 10 = .bool false := hf 10 (by simp)
          have f11 : u 11 = (.bool false) := hf 11 (by simp)
          have f12 : u 12 = (.slice a10 (X.length + s) c10) := hf 12 (by simp)
          have f13 : u 13 = (.slice a6 X.length c6) := hf 13 (by simp)
          have f14 : u 14 = .int .i64 (X.length : Int) := hf 14 (by simp)
          simp only [resOf, spec, RSpec.resAt, List.getD_cons_zero, List.getD_cons_succ, List.flatMap_cons, List.flatMap_nil, List.nil_append, List.cons_append, List.append_nil, List.append_assoc, ptrBlk] at S ⊢
          simp only [f0, f1, f2, f3, f4, f5, f6, f7, f8, f9, f10, f11, f12, f13, f14]
          refine ⟨rfl, ?_⟩
          refine does_cutH 27 5 1 (.tmp 60) (.tmp 62) _ _ _ _ _ X.length rfl rfl rfl (by omega) Tryd.underlying27 (by kernel_rfl) ?_; exact ⟨rfl, S⟩
        · clear hi
          refine step_of_g rfl rfl ?_
          intro u G w hf S
          have f0 : u 0 = (.int .i64 0) := hf 0 (by simp)
          have f1 : u 1 = .bool false := hf 1 (by simp)
          have f2 : u 2 = (.bool false) := hf 2 (by simp)
          have f3 : u 3 = (.slice a10 (X.length + s) c10) := hf 3 (by simp)
          have f4 : u 4 = .int .i64 ((X.length + s : Nat) : Int) := hf 4 (by simp)
          have f5 : u 5 = (.slice a6 X.length c6) := hf 5 (by simp)
          have f6 : u 6 = .int .i64 (X.length : Int) := hf 6 (by simp)
          have f7 : u 7 = (.int .i64 (s : Int)) := hf 7 (by simp)
          have f8 : u 8 = .int .i64 ((X.length + s : Nat) : Int) := hf 8 (by simp)
          have f9 : u 9 = .bool false := hf 9 (by simp)
          have f10 : u 10 = .bool false := hf 10 (by simp)
          have f11 : u 11 = (.bool false) := hf 11 (by simp)
          have f12 : u 12 = (.slice a10 (X.length + s) c10) := hf 12 (by simp)
          have f13 : u 13 = (.slice a6 X.length c6) := hf 13 (by simp)
          have f14 : u 14 = .int .i64 (X.length : Int) := hf 14 (by simp)
          have f15 : u 15 = .slice (cutA a10 c10 0 1) X.length c10 := hf 15 (by simp)
          simp only [resOf, spec, RSpec.resAt, List.getD_cons_zero, List.getD_cons_succ, List.flatMap_cons, List.flatMap_nil, List.nil_append, List.cons_append, List.append_nil, List.append_assoc, ptrBlk] at S ⊢
          simp only [f0, f1, f2, f3, f4, f5, f6, f7, f8, f9, f10, f11, f12, f13, f14, f15]
          refine ⟨rfl, ?_⟩
          refine does_conv 27 9 5 (.tmp 63) _ _ rfl Tryd.underlying27 Tryd.underlying5 Tryd.underlying9 (show Bs w (.slice (cutA a10 c10 0 1) X.length c10) X from by have := Bs.cut (S.bs (xs := Y) (by (repeat (first | exact Pick.head _ _ | apply Pick.tail)); first | done | fail)) 0 X.length (by omega) HXN.out; rwa [HTK.out] at this) ?_; exact ⟨rfl, S⟩
        · clear hi
          refine step_of_g rfl rfl ?_
          intro u G w hf S
          have f0 : u 0 = (.int .i64 0) := hf 0 (by simp)
          have f1 : u 1 = .bool false := hf 1 (by simp)
          have f2 : u 2 = (.bool false) := hf 2 (by simp)
          have f3 : u 3 = (.slice a10 (X.length + s) c10) := hf 3 (by simp)
          have f4 : u 4 = .int .i64 ((X.length + s : Nat) : Int) := hf 4 (by simp)
          have f5 : u 5 = (.slice a6 X.length c6) := hf 5 (by simp)
          have f6 : u 6 = .int .i64 (X.length : Int) := hf 6 (by simp)
          have f7 : u 7 = (.int .i64 (s : Int)) := hf 7 (by simp)
          have f8 : u 8 = .int .i64 ((X.length + s : Nat) : Int) := hf 8 (by simp)
          have f9 : u 9 = .bool false := hf 9 (by simp)
          have f10 : u 10 = .bool false := hf 10 (by simp)
          have f11 : u 11 = (.bool false) := hf 11 (by simp)
          simp only [resOf, spec, RSpec.resAt, List.getD_cons_zero, List.getD_cons_succ, List.flatMap_cons, List.flatMap_nil, List.nil_append, List.cons_append, List.append_nil, List.append_assoc, ptrBlk] at S ⊢
          simp only [f0, f1, f2, f3, f4, f5, f6, f7, f8, f9, f10, f11]
          refine ⟨rfl, ?_⟩
          simp only [does]
          go_simp
          try first | exact S | (refine ⟨?_, S⟩; (first | rfl | omega | (rw [IntWalk.i64_in _ (by omega)]; try omega) | (rw [IntKind.wrap_u64]; omega))) | (first | rfl | omega | (rw [IntWalk.i64_in _ (by omega)]; try omega) | (rw [IntKind.wrap_u64]; omega))
        · clear hi
          refine step_of_g rfl rfl ?_
          intro u G w hf S
          have f0 : u 0 = (.int .i64 0) := hf 0 (by simp)
          have f1 : u 1 = .bool false := hf 1 (by simp)
          have f2 : u 2 = (.bool false) := hf 2 (by simp)
          have f3 : u 3 = (.slice a10 (X.length + s) c10) := hf 3 (by simp)
          have f4 : u 4 = .int .i64 ((X.length + s : Nat) : Int) := hf 4 (by simp)
          have f5 : u 5 = (.slice a6 X.length c6) := hf 5 (by simp)
          have f6 : u 6 = .int .i64 (X.length : Int) := hf 6 (by simp)
          have f7 : u 7 = (.int .i64 (s : Int)) := hf 7 (by simp)
          have f8 : u 8 = .int .i64 ((X.length + s : Nat) : Int) := hf 8 (by simp)
          have f9 : u 9 = .bool false := hf 9 (by simp)
          have f10 : u 10 = .bool false := hf 10 (by simp)
          have f11 : u 11 = (.bool false) := hf 11 (by simp)
          have f17 : u 17 = (.slice a6 X.length c6) := hf 17 (by simp)
          simp only [resOf, spec, RSpec.resAt, List.getD_cons_zero, List.getD_cons_succ, List.flatMap_cons, List.flatMap_nil, List.nil_append, List.cons_append, List.append_nil, List.append_assoc, ptrBlk] at S ⊢
          simp only [f0, f1, f2, f3, f4, f5, f6, f7, f8, f9, f10, f11, f17]
          refine ⟨rfl, ?_⟩
          refine does_conv 27 9 5 (.tmp 65) _ _ rfl Tryd.underlying27 Tryd.underlying5 Tryd.underlying9 (S.bs (xs := X) (by (repeat (first | exact Pick.head _ _ | apply Pick.tail)); first | done | fail)) ?_; exact ⟨rfl, S⟩
        · clear hi
          refine step_of_g rfl rfl ?_
          intro u G w hf S
          have f0 : u 0 = (.int .i64 0) := hf 0 (by simp)
          have f1 : u 1 = .bool false := hf 1 (by simp)
          have f2 : u 2 = (.bool false) := hf 2 (by simp)
          have f3 : u 3 = (.slice a10 (X.length + s) c10) := hf 3 (by simp)
          have f4 : u 4 = .int .i64 ((X.length + s : Nat) : Int) := hf 4 (by simp)
          have f5 : u 5 = (.slice a6 X.length c6) := hf 5 (by simp)
          have f6 : u 6 = .int .i64 (X.length : Int) := hf 6 (by simp)
          have f7 : u 7 = (.int .i64 (s : Int)) := hf 7 (by simp)
          have f8 : u 8 = .int .i64 ((X.length + s : Nat) : Int) := hf 8 (by simp)
          have f9 : u 9 = .bool false := hf 9 (by simp)
          have f10 : u 10 = .bool false := hf 10 (by simp)
          have f11 : u 11 = (.bool false) := hf 11 (by simp)
          have f12 : u 12 = (.slice a10 (X.length + s) c10) := hf 12 (by simp)
          have f13 : u 13 = (.slice a6 X.length c6) := hf 13 (by simp)
          have f14 : u 14 = .int .i64 (X.length : Int) := hf 14 (by simp)
          have f15 : u 15 = .slice (cutA a10 c10 0 1) X.length c10 := hf 15 (by simp)
          have f16 : u 16 = .string (strB X) := hf 16 (by simp)
          have f17 : u 17 = (.slice a6 X.length c6) := hf 17 (by simp)
          have f18 : u 18 = .string (strB X) := hf 18 (by simp)
          simp only [resOf, spec, RSpec.resAt, List.getD_cons_zero, List.getD_cons_succ, List.flatMap_cons, List.flatMap_nil, List.nil_append, List.cons_append, List.append_nil, List.append_assoc, ptrBlk] at S ⊢
          simp only [f0, f1, f2, f3, f4, f5, f6, f7, f8, f9, f10, f11, f12, f13, f14, f15, f16, f17, f18]
          refine ⟨rfl, ?_⟩
          simp only [does]
          go_simp
          try first | exact S | (refine ⟨?_, S⟩; (first | rfl | omega | (rw [IntWalk.i64_in _ (by omega)]; try omega) | (rw [IntKind.wrap_u64]; omega))) | (first | rfl | omega | (rw [IntWalk.i64_in _ (by omega)]; try omega) | (rw [IntKind.wrap_u64]; omega))
        · clear hi
          refine step_of rfl rfl rfl ?_
          intro u G w hf S
          have f0 : u 0 = (.int .i64 0) := hf 0 (by simp)
          have f1 : u 1 = .bool false := hf 1 (by simp)
          have f2 : u 2 = (.bool false) := hf 2 (by simp)
          have f3 : u 3 = (.slice a10 (X.length + s) c10) := hf 3 (by simp)
          have f4 : u 4 = .int .i64 ((X.length + s : Nat) : Int) := hf 4 (by simp)
          have f5 : u 5 = (.slice a6 X.length c6) := hf 5 (by simp)
          have f6 : u 6 = .int .i64 (X.length : Int) := hf 6 (by simp)
          have f7 : u 7 = (.int .i64 (s : Int)) := hf 7 (by simp)
          have f8 : u 8 = .int .i64 ((X.length + s : Nat) : Int) := hf 8 (by simp)
          have f9 : u 9 = .bool false := hf 9 (by simp)
          have f10 : u 10 = .bool false := hf 10 (by simp)
          have f11 : u 11 = (.bool false) := hf 11 (by simp)
          have f12 : u 12 = (.slice a10 (X.length + s) c10) := hf 12 (by simp)
          have f13 : u 13 = (.slice a6 X.length c6) := hf 13 (by simp)
          have f14 : u 14 = .int .i64 (X.length : Int) := hf 14 (by simp)
          have f15 : u 15 = .slice (cutA a10 c10 0 1) X.length c10 := hf 15 (by simp)
          have f16 : u 16 = .string (strB X) := hf 16 (by simp)
          have f17 : u 17 = (.slice a6 X.length c6) := hf 17 (by simp)
          have f18 : u 18 = .string (strB X) := hf 18 (by simp)
          have f19 : u 19 = .bool false := hf 19 (by simp)
          simp only [resOf, spec, RSpec.resAt, List.getD_cons_zero, List.getD_cons_succ, List.flatMap_cons, List.flatMap_nil, List.nil_append, List.cons_append, List.append_nil, List.append_assoc, ptrBlk] at S ⊢
          simp only [f0, f1, f2, f3, f4, f5, f6, f7, f8, f9, f10, f11, f12, f13, f14, f15, f16, f17, f18, f19]
          simp only [does]
          go_simp
          try first | exact S | (refine ⟨?_, S⟩; (first | rfl | omega | (rw [IntWalk.i64_in _ (by omega)]; try omega) | (rw [IntKind.wrap_u64]; omega))) | (first | rfl | omega | (rw [IntWalk.i64_in _ (by omega)]; try omega) | (rw [IntKind.wrap_u64]; omega))
      case fin3 =>
        intro u w hf S
        have f0 : u 0 = (.int .i64 0) := hf 0 (by simp)
        have f1 : u 1 = .bool false := hf 1 (by simp)
        have f2 : u 2 = (.bool false) := hf 2 (by simp)
        have f3 : u 3 = (.slice a10 (X.length + s) c10) := hf 3 (by simp)
        have f4 : u 4 = .int .i64 ((X.length + s : Nat) : Int) := hf 4 (by simp)
        have f5 : u 5 = (.slice a6 X.length c6) := hf 5 (by simp)
        have f6 : u 6 = .int .i64 (X.length : Int) := hf 6 (by simp)
        have f7 : u 7 = (.int .i64 (s : Int)) := hf 7 (by simp)
        have f8 : u 8 = .int .i64 ((X.length + s : Nat) : Int) := hf 8 (by simp)
        have f9 : u 9 = .bool false := hf 9 (by simp)
        have f10 : u 10 = .bool false := hf 10 (by simp)
        have f11 : u 11 = (.bool false) := hf 11 (by simp)
        have f12 : u 12 = (.slice a10 (X.length + s) c10) := hf 12 (by simp)
        have f13 : u 13 = (.slice a6 X.length c6) := hf 13 (by simp)
        have f14 : u 14 = .int .i64 (X.length : Int) := hf 14 (by simp)
        have f15 : u 15 = .slice (cutA a10 c10 0 1) X.length c10 := hf 15 (by simp)
        have f16 : u 16 = .string (strB X) := hf 16 (by simp)
        have f17 : u 17 = (.slice a6 X.length c6) := hf 17 (by simp)
        have f18 : u 18 = .string (strB X) := hf 18 (by simp)
        have f19 : u 19 = .bool false := hf 19 (by simp)
        have f20 : u 20 = .bool false := hf 20 (by simp)
        simp only [resOf, spec, RSpec.resAt, List.getD_cons_zero, List.getD_cons_succ, List.flatMap_cons, List.flatMap_nil, List.nil_append, List.cons_append, List.append_nil, List.append_assoc, ptrBlk] at S
        clear hf
        simp only [List.length_cons, List.length_nil, Nat.zero_add, Nat.reduceAdd, List.drop_succ_cons, List.drop_zero, f0, f1, f2, f3, f4, f5, f6, f7, f8, f9, f10, f11, f12, f13, f14, f15, f16, f17, f18, f19, f20]
        clear f0 f1 f2 f3 f4 f5 f6 f7 f8 f9 f10 f11 f12 f13 f14 f15 f16 f17 f18 f19 f20
        go_wp2_with (first | ((with_reducible show wpList _ _ _ (⟨some 37, .load 71 (.tmp 36), _, _, _, _⟩ :: _) _ _); first | (refine step_loadR 71 (.tmp 36) _ _ rfl _ (S.old_range (by first | assumption | exact Hid.out (by assumption))) _ Tryd.underlying71 rfl 2 (by kernel_rfl) (by first | rfl | (first | rfl | assumption | (exact Hid.out (by assumption)) | (rw [arr8_size]; first | rfl | assumption | (exact Hid.out (by assumption)) | exact List.length_replicate ..) | (simp [arr8_size]; done))) _ rfl rfl ?_) | (refine step_loadP S 71 (.tmp 36) _ _ rfl _ _ _ (by (repeat (first | exact Pick.head _ _ | apply Pick.tail)); first | done | fail) 2 _ (by (first | exact cellsH_st .. | assumption | rfl)) (by first | rfl | (first | rfl | assumption | (exact Hid.out (by assumption)) | (rw [arr8_size]; first | rfl | assumption | (exact Hid.out (by assumption)) | exact List.length_replicate ..) | (simp [arr8_size]; done))) _ Tryd.underlying71 rfl (by kernel_rfl) rfl ?_)) | (go_at_call 31; (with_reducible refine (putUint_s _ _ _ _ _ rfl _ (by first | assumption | exact S.oldB (Hid.out (by assumption)) | exact Bs.mk0 _ _ | exact S.bs (by (repeat (first | exact Pick.head _ _ | apply Pick.tail)); first | done | fail) | exact S.bsr (by (repeat (first | exact Pick.head _ _ | apply Pick.tail)); first | done | fail)) (by (first | omega | assumption | (exact Hid.out (by assumption)) | (simp only [List.length_append, List.length_cons, List.length_nil]; omega))) (by (first | omega | assumption | (exact Hid.out (by assumption)) | (simp only [List.length_append, List.length_cons, List.length_nil]; omega))) (by (first | omega | assumption | (exact Hid.out (by assumption)) | (simp only [List.length_append, List.length_cons, List.length_nil]; omega)))).mono ?_); rintro e w1 ⟨v, rfl, T⟩; replace S := S.call T; clear T; (try simp only [List.nil_append, List.cons_append] at S)) | ((with_reducible show wpList _ _ _ (⟨some 63, .slice 27 (.tmp 60) _ _ _, _, _, _, _⟩ :: _) _ _); refine step_cutH 27 5 1 (.tmp 60) (.tmp 62) _ _ _ _ _ _ rfl rfl (by first | rfl | omega) (by first | (first | omega | assumption | (exact Hid.out (by assumption)) | (simp only [List.length_append, List.length_cons, List.length_nil]; omega)) | decide) Tryd.underlying27 (by kernel_rfl) rfl ?_) | ((with_reducible show wpList _ _ _ (⟨some 64, .convert 27 9 (.tmp 63), _, _, _, _⟩ :: _) _ _); refine step_conv 27 9 5 (.tmp 63) _ _ rfl Tryd.underlying27 Tryd.underlying5 Tryd.underlying9 (by first | assumption | exact S.oldB (Hid.out (by assumption)) | exact Bs.mk0 _ _ | exact S.bs (by (repeat (first | exact Pick.head _ _ | apply Pick.tail)); first | done | fail) | exact S.bsr (by (repeat (first | exact Pick.head _ _ | apply Pick.tail)); first | done | fail)) rfl ?_) | ((with_reducible show wpList _ _ _ (⟨some 66, .convert 27 9 (.tmp 65), _, _, _, _⟩ :: _) _ _); refine step_conv 27 9 5 (.tmp 65) _ _ rfl Tryd.underlying27 Tryd.underlying5 Tryd.underlying9 (by first | assumption | exact S.oldB (Hid.out (by assumption)) | exact Bs.mk0 _ _ | exact S.bs (by (repeat (first | exact Pick.head _ _ | apply Pick.tail)); first | done | fail) | exact S.bsr (by (repeat (first | exact Pick.head _ _ | apply Pick.tail)); first | done | fail)) rfl ?_) | ((with_reducible show wpList _ _ _ (⟨some 80, .load 71 (.tmp 79), _, _, _, _⟩ :: _) _ _); first | (refine step_loadR 71 (.tmp 79) _ _ rfl _ (S.old_range (by first | assumption | exact Hid.out (by assumption))) _ Tryd.underlying71 rfl 2 (by kernel_rfl) (by first | rfl | (first | rfl | assumption | (exact Hid.out (by assumption)) | (rw [arr8_size]; first | rfl | assumption | (exact Hid.out (by assumption)) | exact List.length_replicate ..) | (simp [arr8_size]; done))) _ rfl rfl ?_) | (refine step_loadP S 71 (.tmp 79) _ _ rfl _ _ _ (by (repeat (first | exact Pick.head _ _ | apply Pick.tail)); first | done | fail) 2 _ (by (first | exact cellsH_st .. | assumption | rfl)) (by first | rfl | (first | rfl | assumption | (exact Hid.out (by assumption)) | (rw [arr8_size]; first | rfl | assumption | (exact Hid.out (by assumption)) | exact List.length_replicate ..) | (simp [arr8_size]; done))) _ Tryd.underlying71 rfl (by kernel_rfl) rfl ?_)) | (go_at_call 33; (with_reducible refine (takeUint_s _ _ _ _ _ (by first | assumption | exact S.oldB (Hid.out (by assumption)) | exact Bs.mk0 _ _ | exact S.bs (by (repeat (first | exact Pick.head _ _ | apply Pick.tail)); first | done | fail) | exact S.bsr (by (repeat (first | exact Pick.head _ _ | apply Pick.tail)); first | done | fail)) (by (first | omega | assumption | (exact Hid.out (by assumption)) | (simp only [List.length_append, List.length_cons, List.length_nil]; omega))) (by (first | omega | assumption | (exact Hid.out (by assumption)) | (simp only [List.length_append, List.length_cons, List.length_nil]; omega))) (by (first | omega | assumption | (exact Hid.out (by assumption)) | (simp only [List.length_append, List.length_cons, List.length_nil]; omega)))).mono ?_); rintro e w1 ⟨rfl, T⟩; replace S := S.call T; clear T; (try simp only [List.nil_append, List.cons_append] at S)) | ((with_reducible show wpList _ _ _ (⟨some 117, .slice 27 (.tmp 115) _ _ _, _, _, _, _⟩ :: _) _ _); refine step_cutH 27 5 1 (.tmp 115) (.tmp 116) _ _ _ _ _ _ rfl rfl (by first | rfl | omega) (by first | (first | omega | assumption | (exact Hid.out (by assumption)) | (simp only [List.length_append, List.length_cons, List.length_nil]; omega)) | decide) Tryd.underlying27 (by kernel_rfl) rfl ?_) | fail)
        go_roundw
        case rel => exact ⟨k + 1, by omega, by go_num, by rw [HSUCC.out]; exact S.sub (by repeat (first | exact Sub.nil _ | refine Sub.cons (by (repeat (first | exact Pick.head _ _ | apply Pick.tail)); first | done | fail) ?_))⟩
        case measure => simp [intOf]; omega
    · obtain rfl : k = l.length := by omega
      obtain ⟨X, hX⟩ : ∃ X, X = catF l l.length := ⟨_, rfl⟩
      have hXl := catF_le l l.length
      rw [← hX] at S hXl
      obtain ⟨a6, c6, hv6, _, hc62⟩ := Sl.shape (S.bs (xs := X) (by (repeat (first | exact Pick.head _ _ | apply Pick.tail)); first | done | fail))
      subst hv6
      unfold maxLen at hc62
      have HX := Lib.hid hX
      clear hX
      go_wp2_with (first | ((with_reducible show wpList _ _ _ (⟨some 37, .load 71 (.tmp 36), _, _, _, _⟩ :: _) _ _); first | (refine step_loadR 71 (.tmp 36) _ _ rfl _ (S.old_range (by first | assumption | exact Hid.out (by assumption))) _ Tryd.underlying71 rfl 2 (by kernel_rfl) (by first | rfl | (first | rfl | assumption | (exact Hid.out (by assumption)) | (rw [arr8_size]; first | rfl | assumption | (exact Hid.out (by assumption)) | exact List.length_replicate ..) | (simp [arr8_size]; done))) _ rfl rfl ?_) | (refine step_loadP S 71 (.tmp 36) _ _ rfl _ _ _ (by (repeat (first | exact Pick.head _ _ | apply Pick.tail)); first | done | fail) 2 _ (by (first | exact cellsH_st .. | assumption | rfl)) (by first | rfl | (first | rfl | assumption | (exact Hid.out (by assumption)) | (rw [arr8_size]; first | rfl | assumption | (exact Hid.out (by assumption)) | exact List.length_replicate ..) | (simp [arr8_size]; done))) _ Tryd.underlying71 rfl (by kernel_rfl) rfl ?_)) | (go_at_call 31; (with_reducible refine (putUint_s _ _ _ _ _ rfl _ (by first | assumption | exact S.oldB (Hid.out (by assumption)) | exact Bs.mk0 _ _ | exact S.bs (by (repeat (first | exact Pick.head _ _ | apply Pick.tail)); first | done | fail) | exact S.bsr (by (repeat (first | exact Pick.head _ _ | apply Pick.tail)); first | done | fail)) (by (first | omega | assumption | (exact Hid.out (by assumption)) | (simp only [List.length_append, List.length_cons, List.length_nil]; omega))) (by (first | omega | assumption | (exact Hid.out (by assumption)) | (simp only [List.length_append, List.length_cons, List.length_nil]; omega))) (by (first | omega | assumption | (exact Hid.out (by assumption)) | (simp only [List.length_append, List.length_cons, List.length_nil]; omega)))).mono ?_); rintro e w1 ⟨v, rfl, T⟩; replace S := S.call T; clear T; (try simp only [List.nil_append, List.cons_append] at S)) | ((with_reducible show wpList _ _ _ (⟨some 63, .slice 27 (.tmp 60) _ _ _, _, _, _, _⟩ :: _) _ _); refine step_cutH 27 5 1 (.tmp 60) (.tmp 62) _ _ _ _ _ _ rfl rfl (by first | rfl | omega) (by first | (first | omega | assumption | (exact Hid.out (by assumption)) | (simp only [List.length_append, List.length_cons, List.length_nil]; omega)) | decide) Tryd.underlying27 (by kernel_rfl) rfl ?_) | ((with_reducible show wpList _ _ _ (⟨some 64, .convert 27 9 (.tmp 63), _, _, _, _⟩ :: _) _ _); refine step_conv 27 9 5 (.tmp 63) _ _ rfl Tryd.underlying27 Tryd.underlying5 Tryd.underlying9 (by first | assumption | exact S.oldB (Hid.out (by assumption)) | exact Bs.mk0 _ _ | exact S.bs (by (repeat (first | exact Pick.head _ _ | apply Pick.tail)); first | done | fail) | exact S.bsr (by (repeat (first | exact Pick.head _ _ | apply Pick.tail)); first | done | fail)) rfl ?_) | ((with_reducible show wpList _ _ _ (⟨some 66, .convert 27 9 (.tmp 65), _, _, _, _⟩ :: _) _ _); refine step_conv 27 9 5 (.tmp 65) _ _ rfl Tryd.underlying27 Tryd.underlying5 Tryd.underlying9 (by first | assumption | exact S.oldB (Hid.out (by assumption)) | exact Bs.mk0 _ _ | exact S.bs (by (repeat (first | exact Pick.head _ _ | apply Pick.tail)); first | done | fail) | exact S.bsr (by (repeat (first | exact Pick.head _ _ | apply Pick.tail)); first | done | fail)) rfl ?_) | ((with_reducible show wpList _ _ _ (⟨some 80, .load 71 (.tmp 79), _, _, _, _⟩ :: _) _ _); first | (refine step_loadR 71 (.tmp 79) _ _ rfl _ (S.old_range (by first | assumption | exact Hid.out (by assumption))) _ Tryd.underlying71 rfl 2 (by kernel_rfl) (by first | rfl | (first | rfl | assumption | (exact Hid.out (by assumption)) | (rw [arr8_size]; first | rfl | assumption | (exact Hid.out (by assumption)) | exact List.length_replicate ..) | (simp [arr8_size]; done))) _ rfl rfl ?_) | (refine step_loadP S 71 (.tmp 79) _ _ rfl _ _ _ (by (repeat (first | exact Pick.head _ _ | apply Pick.tail)); first | done | fail) 2 _ (by (first | exact cellsH_st .. | assumption | rfl)) (by first | rfl | (first | rfl | assumption | (exact Hid.out (by assumption)) | (rw [arr8_size]; first | rfl | assumption | (exact Hid.out (by assumption)) | exact List.length_replicate ..) | (simp [arr8_size]; done))) _ Tryd.underlying71 rfl (by kernel_rfl) rfl ?_)) | (go_at_call 33; (with_reducible refine (takeUint_s _ _ _ _ _ (by first | assumption | exact S.oldB (Hid.out (by assumption)) | exact Bs.mk0 _ _ | exact S.bs (by (repeat (first | exact Pick.head _ _ | apply Pick.tail)); first | done | fail) | exact S.bsr (by (repeat (first | exact Pick.head _ _ | apply Pick.tail)); first | done | fail)) (by (first | omega | assumption | (exact Hid.out (by assumption)) | (simp only [List.length_append, List.length_cons, List.length_nil]; omega))) (by (first | omega | assumption | (exact Hid.out (by assumption)) | (simp only [List.length_append, List.length_cons, List.length_nil]; omega))) (by (first | omega | assumption | (exact Hid.out (by assumption)) | (simp only [List.length_append, List.length_cons, List.length_nil]; omega)))).mono ?_); rintro e w1 ⟨rfl, T⟩; replace S := S.call T; clear T; (try simp only [List.nil_append, List.cons_append] at S)) | ((with_reducible show wpList _ _ _ (⟨some 117, .slice 27 (.tmp 115) _ _ _, _, _, _, _⟩ :: _) _ _); refine step_cutH 27 5 1 (.tmp 115) (.tmp 116) _ _ _ _ _ _ rfl rfl (by first | rfl | omega) (by first | (first | omega | assumption | (exact Hid.out (by assumption)) | (simp only [List.length_append, List.length_cons, List.length_nil]; omega)) | decide) Tryd.underlying27 (by kernel_rfl) rfl ?_) | fail)
      go_loopw [12, 13] (fun q t wr => ∃ (k : Nat), k ≤ l.length ∧ t = .int .i64 (k : Int) ∧ q = .int .i64 ((catF l k).length : Int) ∧ Has w0 wr [row8 (.slice a6 X.length c6) X]) (fun _ t _ => l.length - (intOf t).toNat)
      case atStart => exact ⟨0, Nat.zero_le _, rfl, rfl, S⟩
      case round =>
        obtain ⟨k, hk, rfl, rfl, S⟩ := hrel
        by_cases hlt : k < l.length
        · have hf : l[k]? = some l[k] := List.getElem?_eq_getElem hlt
          have hsucc := catF_succ l k _ hf
          obtain ⟨B, hB⟩ := catF_all l k _ hf
          obtain ⟨b, off, rfl, _⟩ := H1.out.atA (by omega)
          have hrg := H1.out.elem fldL_length (by decide) k _ hf
          obtain ⟨f, hfe⟩ : ∃ f, f = l[k] := ⟨_, rfl⟩
          rw [← hfe] at hsucc hrg hB
          have hsz := szF_le f
          have hnm := nmF_lt f
          have hcs := fun w => cut_s f w
          obtain ⟨s, hs⟩ : ∃ s, s = szF f := ⟨_, rfl⟩
          obtain ⟨m, hm⟩ : ∃ m, m = nmF f := ⟨_, rfl⟩
          obtain ⟨A, hA⟩ : ∃ A, A = catF l k := ⟨_, rfl⟩
          rw [← hs, ← hm] at hsucc hcs hnm hB
          rw [← hs] at hsz
          rw [← hA] at hB hsucc ⊢
          obtain ⟨hsz1, hsz2⟩ := hsz
          have hnx : (catF l (k + 1)).length = A.length + s := by rw [hsucc, List.length_append, numB_length]
          have hXe : X = A ++ numB m s ++ B := HX.out.trans hB
          have hXs : A.length + s ≤ X.length := by rw [hXe]; simp [numB_length]; try omega
          have htg := fun v w hv => takeU_go v A B m s _ _ rfl rfl w hv hsz1 hsz2 hnm (by rw [← hXe]; omega)
          rw [← hXe] at htg
          have hki : (k : Int) < l.length := by omega
          have HRG := Lib.hid hrg; have HCS := Lib.hid hcs; have HTG := Lib.hid htg; have HNX := Lib.hid hnx; clear hrg hcs htg hnx
          clear hf hfe hs hm hA hnm hsucc hXe hB
          by_cases hin : (A.length : Int) ≤ n ∧ n < ((A.length + s : Nat) : Int)
          · obtain ⟨p, rfl⟩ : ∃ p : Nat, n = (p : Int) := ⟨n.toNat, by omega⟩
            obtain ⟨hin1, hin2⟩ := hin
            have hzl : (X.take p).length = p := by simp; omega
            have hts := fun v w hv => takeU_short v (X.take p) A.length s _ _ rfl rfl w hv hsz1 hsz2 (by omega) (by omega) (by omega)
            obtain ⟨z1, hz1⟩ : ∃ z, z = ((tuV (X.take p) A.length s : Nat) : Int) := ⟨_, rfl⟩
            obtain ⟨z2, hz2⟩ : ∃ z, z = tuN (X.take p).length A.length s := ⟨_, rfl⟩
            rw [← hz1, ← hz2] at hts
            have HTS := Lib.hid hts; clear hts
            clear hz1 hz2 hzl
            go_wp2_with (first | ((with_reducible show wpList _ _ _ (⟨some 37, .load 71 (.tmp 36), _, _, _, _⟩ :: _) _ _); first | (refine step_loadR 71 (.tmp 36) _ _ rfl _ (S.old_range (by first | assumption | exact Hid.out (by assumption))) _ Tryd.underlying71 rfl 2 (by kernel_rfl) (by first | rfl | (first | rfl | assumption | (exact Hid.out (by assumption)) | (rw [arr8_size]; first | rfl | assumption | (exact Hid.out (by assumption)) | exact List.length_replicate ..) | (simp [arr8_size]; done))) _ rfl rfl ?_) | (refine step_loadP S 71 (.tmp 36) _ _ rfl _ _ _ (by (repeat (first | exact Pick.head _ _ | apply Pick.tail)); first | done | fail) 2 _ (by (first | exact cellsH_st .. | assumption | rfl)) (by first | rfl | (first | rfl | assumption | (exact Hid.out (by assumption)) | (rw [arr8_size]; first | rfl | assumption | (exact Hid.out (by assumption)) | exact List.length_replicate ..) | (simp [arr8_size]; done))) _ Tryd.underlying71 rfl (by kernel_rfl) rfl ?_)) | (go_at_call 39; (with_reducible refine (HCS.out _).mono ?_); rintro e w1 ⟨rfl, T⟩; replace S := S.call T; clear T; (try simp only [List.nil_append, List.cons_append] at S)) | (go_at_call 31; (with_reducible refine (putUint_s _ _ _ _ _ rfl _ (by first | assumption | exact S.oldB (Hid.out (by assumption)) | exact Bs.mk0 _ _ | exact S.bs (by (repeat (first | exact Pick.head _ _ | apply Pick.tail)); first | done | fail) | exact S.bsr (by (repeat (first | exact Pick.head _ _ | apply Pick.tail)); first | done | fail)) (by (first | omega | assumption | (exact Hid.out (by assumption)) | (simp only [List.length_append, List.length_cons, List.length_nil]; omega))) (by (first | omega | assumption | (exact Hid.out (by assumption)) | (simp only [List.length_append, List.length_cons, List.length_nil]; omega))) (by (first | omega | assumption | (exact Hid.out (by assumption)) | (simp only [List.length_append, List.length_cons, List.length_nil]; omega)))).mono ?_); rintro e w1 ⟨v, rfl, T⟩; replace S := S.call T; clear T; (try simp only [List.nil_append, List.cons_append] at S)) | ((with_reducible show wpList _ _ _ (⟨some 63, .slice 27 (.tmp 60) _ _ _, _, _, _, _⟩ :: _) _ _); refine step_cutH 27 5 1 (.tmp 60) (.tmp 62) _ _ _ _ _ _ rfl rfl (by first | rfl | omega) (by first | (first | omega | assumption | (exact Hid.out (by assumption)) | (simp only [List.length_append, List.length_cons, List.length_nil]; omega)) | decide) Tryd.underlying27 (by kernel_rfl) rfl ?_) | ((with_reducible show wpList _ _ _ (⟨some 64, .convert 27 9 (.tmp 63), _, _, _, _⟩ :: _) _ _); refine step_conv 27 9 5 (.tmp 63) _ _ rfl Tryd.underlying27 Tryd.underlying5 Tryd.underlying9 (by first | assumption | exact S.oldB (Hid.out (by assumption)) | exact Bs.mk0 _ _ | exact S.bs (by (repeat (first | exact Pick.head _ _ | apply Pick.tail)); first | done | fail) | exact S.bsr (by (repeat (first | exact Pick.head _ _ | apply Pick.tail)); first | done | fail)) rfl ?_) | ((with_reducible show wpList _ _ _ (⟨some 66, .convert 27 9 (.tmp 65), _, _, _, _⟩ :: _) _ _); refine step_conv 27 9 5 (.tmp 65) _ _ rfl Tryd.underlying27 Tryd.underlying5 Tryd.underlying9 (by first | assumption | exact S.oldB (Hid.out (by assumption)) | exact Bs.mk0 _ _ | exact S.bs (by (repeat (first | exact Pick.head _ _ | apply Pick.tail)); first | done | fail) | exact S.bsr (by (repeat (first | exact Pick.head _ _ | apply Pick.tail)); first | done | fail)) rfl ?_) | ((with_reducible show wpList _ _ _ (⟨some 80, .load 71 (.tmp 79), _, _, _, _⟩ :: _) _ _); first | (refine step_loadR 71 (.tmp 79) _ _ rfl _ (S.old_range (by first | assumption | exact Hid.out (by assumption))) _ Tryd.underlying71 rfl 2 (by kernel_rfl) (by first | rfl | (first | rfl | assumption | (exact Hid.out (by assumption)) | (rw [arr8_size]; first | rfl | assumption | (exact Hid.out (by assumption)) | exact List.length_replicate ..) | (simp [arr8_size]; done))) _ rfl rfl ?_) | (refine step_loadP S 71 (.tmp 79) _ _ rfl _ _ _ (by (repeat (first | exact Pick.head _ _ | apply Pick.tail)); first | done | fail) 2 _ (by (first | exact cellsH_st .. | assumption | rfl)) (by first | rfl | (first | rfl | assumption | (exact Hid.out (by assumption)) | (rw [arr8_size]; first | rfl | assumption | (exact Hid.out (by assumption)) | exact List.length_replicate ..) | (simp [arr8_size]; done))) _ Tryd.underlying71 rfl (by kernel_rfl) rfl ?_)) | (go_at_call 33; (with_reducible refine (HTG.out _ _ (by first | assumption | exact S.oldB (Hid.out (by assumption)) | exact Bs.mk0 _ _ | exact S.bs (by (repeat (first | exact Pick.head _ _ | apply Pick.tail)); first | done | fail) | exact S.bsr (by (repeat (first | exact Pick.head _ _ | apply Pick.tail)); first | done | fail))).mono ?_); rintro e w1 ⟨rfl, T⟩; replace S := S.call T; clear T; (try simp only [List.nil_append, List.cons_append] at S)) | (go_at_call 33; (with_reducible refine (HTS.out _ _ (Bs.cutH (S.bs (xs := X) (by (repeat (first | exact Pick.head _ _ | apply Pick.tail)); first | done | fail)) p (by omega) rfl)).mono ?_); rintro e w1 ⟨rfl, T⟩; replace S := S.call T; clear T; (try simp only [List.nil_append, List.cons_append] at S)) | ((with_reducible show wpList _ _ _ (⟨some 117, .slice 27 (.tmp 115) _ _ _, _, _, _, _⟩ :: _) _ _); refine step_cutH 27 5 1 (.tmp 115) (.tmp 116) _ _ _ _ _ _ rfl rfl (by first | rfl | omega) (by first | (first | omega | assumption | (exact Hid.out (by assumption)) | (simp only [List.length_append, List.length_cons, List.length_nil]; omega)) | decide) Tryd.underlying27 (by kernel_rfl) rfl ?_) | fail)
            go_roundw
            case rel => exact ⟨k + 1, by omega, by go_num, by rw [HNX.out]; rfl, S⟩
            case measure => simp [intOf]; omega
          · by_cases hin1 : (A.length : Int) ≤ n
            · have hin2 : ¬ n < (A.length : Int) + s := by omega
              clear hin
              go_wp2_with (first | ((with_reducible show wpList _ _ _ (⟨some 37, .load 71 (.tmp 36), _, _, _, _⟩ :: _) _ _); first | (refine step_loadR 71 (.tmp 36) _ _ rfl _ (S.old_range (by first | assumption | exact Hid.out (by assumption))) _ Tryd.underlying71 rfl 2 (by kernel_rfl) (by first | rfl | (first | rfl | assumption | (exact Hid.out (by assumption)) | (rw [arr8_size]; first | rfl | assumption | (exact Hid.out (by assumption)) | exact List.length_replicate ..) | (simp [arr8_size]; done))) _ rfl rfl ?_) | (refine step_loadP S 71 (.tmp 36) _ _ rfl _ _ _ (by (repeat (first | exact Pick.head _ _ | apply Pick.tail)); first | done | fail) 2 _ (by (first | exact cellsH_st .. | assumption | rfl)) (by first | rfl | (first | rfl | assumption | (exact Hid.out (by assumption)) | (rw [arr8_size]; first | rfl | assumption | (exact Hid.out (by assumption)) | exact List.length_replicate ..) | (simp [arr8_size]; done))) _ Tryd.underlying71 rfl (by kernel_rfl) rfl ?_)) | (go_at_call 39; (with_reducible refine (HCS.out _).mono ?_); rintro e w1 ⟨rfl, T⟩; replace S := S.call T; clear T; (try simp only [List.nil_append, List.cons_append] at S)) | (go_at_call 31; (with_reducible refine (putUint_s _ _ _ _ _ rfl _ (by first | assumption | exact S.oldB (Hid.out (by assumption)) | exact Bs.mk0 _ _ | exact S.bs (by (repeat (first | exact Pick.head _ _ | apply Pick.tail)); first | done | fail) | exact S.bsr (by (repeat (first | exact Pick.head _ _ | apply Pick.tail)); first | done | fail)) (by (first | omega | assumption | (exact Hid.out (by assumption)) | (simp only [List.length_append, List.length_cons, List.length_nil]; omega))) (by (first | omega | assumption | (exact Hid.out (by assumption)) | (simp only [List.length_append, List.length_cons, List.length_nil]; omega))) (by (first | omega | assumption | (exact Hid.out (by assumption)) | (simp only [List.length_append, List.length_cons, List.length_nil]; omega)))).mono ?_); rintro e w1 ⟨v, rfl, T⟩; replace S := S.call T; clear T; (try simp only [List.nil_append, List.cons_append] at S)) | ((with_reducible show wpList _ _ _ (⟨some 63, .slice 27 (.tmp 60) _ _ _, _, _, _, _⟩ :: _) _ _); refine step_cutH 27 5 1 (.tmp 60) (.tmp 62) _ _ _ _ _ _ rfl rfl (by first | rfl | omega) (by first | (first | omega | assumption | (exact Hid.out (by assumption)) | (simp only [List.length_append, List.length_cons, List.length_nil]; omega)) | decide) Tryd.underlying27 (by kernel_rfl) rfl ?_) | ((with_reducible show wpList _ _ _ (⟨some 64, .convert 27 9 (.tmp 63), _, _, _, _⟩ :: _) _ _); refine step_conv 27 9 5 (.tmp 63) _ _ rfl Tryd.underlying27 Tryd.underlying5 Tryd.underlying9 (by first | assumption | exact S.oldB (Hid.out (by assumption)) | exact Bs.mk0 _ _ | exact S.bs (by (repeat (first | exact Pick.head _ _ | apply Pick.tail)); first | done | fail) | exact S.bsr (by (repeat (first | exact Pick.head _ _ | apply Pick.tail)); first | done | fail)) rfl ?_) | ((with_reducible show wpList _ _ _ (⟨some 66, .convert 27 9 (.tmp 65), _, _, _, _⟩ :: _) _ _); refine step_conv 27 9 5 (.tmp 65) _ _ rfl Tryd.underlying27 Tryd.underlying5 Tryd.underlying9 (by first | assumption | exact S.oldB (Hid.out (by assumption)) | exact Bs.mk0 _ _ | exact S.bs (by (repeat (first | exact Pick.head _ _ | apply Pick.tail)); first | done | fail) | exact S.bsr (by (repeat (first | exact Pick.head _ _ | apply Pick.tail)); first | done | fail)) rfl ?_) | ((with_reducible show wpList _ _ _ (⟨some 80, .load 71 (.tmp 79), _, _, _, _⟩ :: _) _ _); first | (refine step_loadR 71 (.tmp 79) _ _ rfl _ (S.old_range (by first | assumption | exact Hid.out (by assumption))) _ Tryd.underlying71 rfl 2 (by kernel_rfl) (by first | rfl | (first | rfl | assumption | (exact Hid.out (by assumption)) | (rw [arr8_size]; first | rfl | assumption | (exact Hid.out (by assumption)) | exact List.length_replicate ..) | (simp [arr8_size]; done))) _ rfl rfl ?_) | (refine step_loadP S 71 (.tmp 79) _ _ rfl _ _ _ (by (repeat (first | exact Pick.head _ _ | apply Pick.tail)); first | done | fail) 2 _ (by (first | exact cellsH_st .. | assumption | rfl)) (by first | rfl | (first | rfl | assumption | (exact Hid.out (by assumption)) | (rw [arr8_size]; first | rfl | assumption | (exact Hid.out (by assumption)) | exact List.length_replicate ..) | (simp [arr8_size]; done))) _ Tryd.underlying71 rfl (by kernel_rfl) rfl ?_)) | (go_at_call 33; (with_reducible refine (HTG.out _ _ (by first | assumption | exact S.oldB (Hid.out (by assumption)) | exact Bs.mk0 _ _ | exact S.bs (by (repeat (first | exact Pick.head _ _ | apply Pick.tail)); first | done | fail) | exact S.bsr (by (repeat (first | exact Pick.head _ _ | apply Pick.tail)); first | done | fail))).mono ?_); rintro e w1 ⟨rfl, T⟩; replace S := S.call T; clear T; (try simp only [List.nil_append, List.cons_append] at S)) | ((with_reducible show wpList _ _ _ (⟨some 117, .slice 27 (.tmp 115) _ _ _, _, _, _, _⟩ :: _) _ _); refine step_cutH 27 5 1 (.tmp 115) (.tmp 116) _ _ _ _ _ _ rfl rfl (by first | rfl | omega) (by first | (first | omega | assumption | (exact Hid.out (by assumption)) | (simp only [List.length_append, List.length_cons, List.length_nil]; omega)) | decide) Tryd.underlying27 (by kernel_rfl) rfl ?_) | fail)
              go_roundw
              case rel => exact ⟨k + 1, by omega, by go_num, by rw [HNX.out]; rfl, S⟩
              case measure => simp [intOf]; omega
            · clear hin
              go_wp2_with (first | ((with_reducible show wpList _ _ _ (⟨some 37, .load 71 (.tmp 36), _, _, _, _⟩ :: _) _ _); first | (refine step_loadR 71 (.tmp 36) _ _ rfl _ (S.old_range (by first | assumption | exact Hid.out (by assumption))) _ Tryd.underlying71 rfl 2 (by kernel_rfl) (by first | rfl | (first | rfl | assumption | (exact Hid.out (by assumption)) | (rw [arr8_size]; first | rfl | assumption | (exact Hid.out (by assumption)) | exact List.length_replicate ..) | (simp [arr8_size]; done))) _ rfl rfl ?_) | (refine step_loadP S 71 (.tmp 36) _ _ rfl _ _ _ (by (repeat (first | exact Pick.head _ _ | apply Pick.tail)); first | done | fail) 2 _ (by (first | exact cellsH_st .. | assumption | rfl)) (by first | rfl | (first | rfl | assumption | (exact Hid.out (by assumption)) | (rw [arr8_size]; first | rfl | assumption | (exact Hid.out (by assumption)) | exact List.length_replicate ..) | (simp [arr8_size]; done))) _ Tryd.underlying71 rfl (by kernel_rfl) rfl ?_)) | (go_at_call 39; (with_reducible refine (HCS.out _).mono ?_); rintro e w1 ⟨rfl, T⟩; replace S := S.call T; clear T; (try simp only [List.nil_append, List.cons_append] at S)) | (go_at_call 31; (with_reducible refine (putUint_s _ _ _ _ _ rfl _ (by first | assumption | exact S.oldB (Hid.out (by assumption)) | exact Bs.mk0 _ _ | exact S.bs (by (repeat (first | exact Pick.head _ _ | apply Pick.tail)); first | done | fail) | exact S.bsr (by (repeat (first | exact Pick.head _ _ | apply Pick.tail)); first | done | fail)) (by (first | omega | assumption | (exact Hid.out (by assumption)) | (simp only [List.length_append, List.length_cons, List.length_nil]; omega))) (by (first | omega | assumption | (exact Hid.out (by assumption)) | (simp only [List.length_append, List.length_cons, List.length_nil]; omega))) (by (first | omega | assumption | (exact Hid.out (by assumption)) | (simp only [List.length_append, List.length_cons, List.length_nil]; omega)))).mono ?_); rintro e w1 ⟨v, rfl, T⟩; replace S := S.call T; clear T; (try simp only [List.nil_append, List.cons_append] at S)) | ((with_reducible show wpList _ _ _ (⟨some 63, .slice 27 (.tmp 60) _ _ _, _, _, _, _⟩ :: _) _ _); refine step_cutH 27 5 1 (.tmp 60) (.tmp 62) _ _ _ _ _ _ rfl rfl (by first | rfl | omega) (by first | (first | omega | assumption | (exact Hid.out (by assumption)) | (simp only [List.length_append, List.length_cons, List.length_nil]; omega)) | decide) Tryd.underlying27 (by kernel_rfl) rfl ?_) | ((with_reducible show wpList _ _ _ (⟨some 64, .convert 27 9 (.tmp 63), _, _, _, _⟩ :: _) _ _); refine step_conv 27 9 5 (.tmp 63) _ _ rfl Tryd.underlying27 Tryd.underlying5 Tryd.underlying9 (by first | assumption | exact S.oldB (Hid.out (by assumption)) | exact Bs.mk0 _ _ | exact S.bs (by (repeat (first | exact Pick.head _ _ | apply Pick.tail)); first | done | fail) | exact S.bsr (by (repeat (first | exact Pick.head _ _ | apply Pick.tail)); first | done | fail)) rfl ?_) | ((with_reducible show wpList _ _ _ (⟨some 66, .convert 27 9 (.tmp 65), _, _, _, _⟩ :: _) _ _); refine step_conv 27 9 5 (.tmp 65) _ _ rfl Tryd.underlying27 Tryd.underlying5 Tryd.underlying9 (by first | assumption | exact S.oldB (Hid.out (by assumption)) | exact Bs.mk0 _ _ | exact S.bs (by (repeat (first | exact Pick.head _ _ | apply Pick.tail)); first | done | fail) | exact S.bsr (by (repeat (first | exact Pick.head _ _ | apply Pick.tail)); first | done | fail)) rfl ?_) | ((with_reducible show wpList _ _ _ (⟨some 80, .load 71 (.tmp 79), _, _, _, _⟩ :: _) _ _); first | (refine step_loadR 71 (.tmp 79) _ _ rfl _ (S.old_range (by first | assumption | exact Hid.out (by assumption))) _ Tryd.underlying71 rfl 2 (by kernel_rfl) (by first | rfl | (first | rfl | assumption | (exact Hid.out (by assumption)) | (rw [arr8_size]; first | rfl | assumption | (exact Hid.out (by assumption)) | exact List.length_replicate ..) | (simp [arr8_size]; done))) _ rfl rfl ?_) | (refine step_loadP S 71 (.tmp 79) _ _ rfl _ _ _ (by (repeat (first | exact Pick.head _ _ | apply Pick.tail)); first | done | fail) 2 _ (by (first | exact cellsH_st .. | assumption | rfl)) (by first | rfl | (first | rfl | assumption | (exact Hid.out (by assumption)) | (rw [arr8_size]; first | rfl | assumption | (exact Hid.out (by assumption)) | exact List.length_replicate ..) | (simp [arr8_size]; done))) _ Tryd.underlying71 rfl (by kernel_rfl) rfl ?_)) | (go_at_call 33; (with_reducible refine (HTG.out _ _ (by first | assumption | exact S.oldB (Hid.out (by assumption)) | exact Bs.mk0 _ _ | exact S.bs (by (repeat (first | exact Pick.head _ _ | apply Pick.tail)); first | done | fail) | exact S.bsr (by (repeat (first | exact Pick.head _ _ | apply Pick.tail)); first | done | fail))).mono ?_); rintro e w1 ⟨rfl, T⟩; replace S := S.call T; clear T; (try simp only [List.nil_append, List.cons_append] at S)) | ((with_reducible show wpList _ _ _ (⟨some 117, .slice 27 (.tmp 115) _ _ _, _, _, _, _⟩ :: _) _ _); refine step_cutH 27 5 1 (.tmp 115) (.tmp 116) _ _ _ _ _ _ rfl rfl (by first | rfl | omega) (by first | (first | omega | assumption | (exact Hid.out (by assumption)) | (simp only [List.length_append, List.length_cons, List.length_nil]; omega)) | decide) Tryd.underlying27 (by kernel_rfl) rfl ?_) | fail)
              go_roundw
              case rel => exact ⟨k + 1, by omega, by go_num, by rw [HNX.out]; rfl, S⟩
              case measure => simp [intOf]; omega
        · obtain rfl : k = l.length := by omega
          rw [← HX.out]
          go_wp2_with (first | ((with_reducible show wpList _ _ _ (⟨some 37, .load 71 (.tmp 36), _, _, _, _⟩ :: _) _ _); first | (refine step_loadR 71 (.tmp 36) _ _ rfl _ (S.old_range (by first | assumption | exact Hid.out (by assumption))) _ Tryd.underlying71 rfl 2 (by kernel_rfl) (by first | rfl | (first | rfl | assumption | (exact Hid.out (by assumption)) | (rw [arr8_size]; first | rfl | assumption | (exact Hid.out (by assumption)) | exact List.length_replicate ..) | (simp [arr8_size]; done))) _ rfl rfl ?_) | (refine step_loadP S 71 (.tmp 36) _ _ rfl _ _ _ (by (repeat (first | exact Pick.head _ _ | apply Pick.tail)); first | done | fail) 2 _ (by (first | exact cellsH_st .. | assumption | rfl)) (by first | rfl | (first | rfl | assumption | (exact Hid.out (by assumption)) | (rw [arr8_size]; first | rfl | assumption | (exact Hid.out (by assumption)) | exact List.length_replicate ..) | (simp [arr8_size]; done))) _ Tryd.underlying71 rfl (by kernel_rfl) rfl ?_)) | (go_at_call 31; (with_reducible refine (putUint_s _ _ _ _ _ rfl _ (by first | assumption | exact S.oldB (Hid.out (by assumption)) | exact Bs.mk0 _ _ | exact S.bs (by (repeat (first | exact Pick.head _ _ | apply Pick.tail)); first | done | fail) | exact S.bsr (by (repeat (first | exact Pick.head _ _ | apply Pick.tail)); first | done | fail)) (by (first | omega | assumption | (exact Hid.out (by assumption)) | (simp only [List.length_append, List.length_cons, List.length_nil]; omega))) (by (first | omega | assumption | (exact Hid.out (by assumption)) | (simp only [List.length_append, List.length_cons, List.length_nil]; omega))) (by (first | omega | assumption | (exact Hid.out (by assumption)) | (simp only [List.length_append, List.length_cons, List.length_nil]; omega)))).mono ?_); rintro e w1 ⟨v, rfl, T⟩; replace S := S.call T; clear T; (try simp only [List.nil_append, List.cons_append] at S)) | ((with_reducible show wpList _ _ _ (⟨some 63, .slice 27 (.tmp 60) _ _ _, _, _, _, _⟩ :: _) _ _); refine step_cutH 27 5 1 (.tmp 60) (.tmp 62) _ _ _ _ _ _ rfl rfl (by first | rfl | omega) (by first | (first | omega | assumption | (exact Hid.out (by assumption)) | (simp only [List.length_append, List.length_cons, List.length_nil]; omega)) | decide) Tryd.underlying27 (by kernel_rfl) rfl ?_) | ((with_reducible show wpList _ _ _ (⟨some 64, .convert 27 9 (.tmp 63), _, _, _, _⟩ :: _) _ _); refine step_conv 27 9 5 (.tmp 63) _ _ rfl Tryd.underlying27 Tryd.underlying5 Tryd.underlying9 (by first | assumption | exact S.oldB (Hid.out (by assumption)) | exact Bs.mk0 _ _ | exact S.bs (by (repeat (first | exact Pick.head _ _ | apply Pick.tail)); first | done | fail) | exact S.bsr (by (repeat (first | exact Pick.head _ _ | apply Pick.tail)); first | done | fail)) rfl ?_) | ((with_reducible show wpList _ _ _ (⟨some 66, .convert 27 9 (.tmp 65), _, _, _, _⟩ :: _) _ _); refine step_conv 27 9 5 (.tmp 65) _ _ rfl Tryd.underlying27 Tryd.underlying5 Tryd.underlying9 (by first | assumption | exact S.oldB (Hid.out (by assumption)) | exact Bs.mk0 _ _ | exact S.bs (by (repeat (first | exact Pick.head _ _ | apply Pick.tail)); first | done | fail) | exact S.bsr (by (repeat (first | exact Pick.head _ _ | apply Pick.tail)); first | done | fail)) rfl ?_) | ((with_reducible show wpList _ _ _ (⟨some 80, .load 71 (.tmp 79), _, _, _, _⟩ :: _) _ _); first | (refine step_loadR 71 (.tmp 79) _ _ rfl _ (S.old_range (by first | assumption | exact Hid.out (by assumption))) _ Tryd.underlying71 rfl 2 (by kernel_rfl) (by first | rfl | (first | rfl | assumption | (exact Hid.out (by assumption)) | (rw [arr8_size]; first | rfl | assumption | (exact Hid.out (by assumption)) | exact List.length_replicate ..) | (simp [arr8_size]; done))) _ rfl rfl ?_) | (refine step_loadP S 71 (.tmp 79) _ _ rfl _ _ _ (by (repeat (first | exact Pick.head _ _ | apply Pick.tail)); first | done | fail) 2 _ (by (first | exact cellsH_st .. | assumption | rfl)) (by first | rfl | (first | rfl | assumption | (exact Hid.out (by assumption)) | (rw [arr8_size]; first | rfl | assumption | (exact Hid.out (by assumption)) | exact List.length_replicate ..) | (simp [arr8_size]; done))) _ Tryd.underlying71 rfl (by kernel_rfl) rfl ?_)) | (go_at_call 33; (with_reducible refine (takeUint_s _ _ _ _ _ (by first | assumption | exact S.oldB (Hid.out (by assumption)) | exact Bs.mk0 _ _ | exact S.bs (by (repeat (first | exact Pick.head _ _ | apply Pick.tail)); first | done | fail) | exact S.bsr (by (repeat (first | exact Pick.head _ _ | apply Pick.tail)); first | done | fail)) (by (first | omega | assumption | (exact Hid.out (by assumption)) | (simp only [List.length_append, List.length_cons, List.length_nil]; omega))) (by (first | omega | assumption | (exact Hid.out (by assumption)) | (simp only [List.length_append, List.length_cons, List.length_nil]; omega))) (by (first | omega | assumption | (exact Hid.out (by assumption)) | (simp only [List.length_append, List.length_cons, List.length_nil]; omega)))).mono ?_); rintro e w1 ⟨rfl, T⟩; replace S := S.call T; clear T; (try simp only [List.nil_append, List.cons_append] at S)) | ((with_reducible show wpList _ _ _ (⟨some 117, .slice 27 (.tmp 115) _ _ _, _, _, _, _⟩ :: _) _ _); refine step_cutH 27 5 1 (.tmp 115) (.tmp 116) _ _ _ _ _ _ rfl rfl (by first | rfl | omega) (by first | (first | omega | assumption | (exact Hid.out (by assumption)) | (simp only [List.length_append, List.length_cons, List.length_nil]; omega)) | decide) Tryd.underlying27 (by kernel_rfl) rfl ?_) | fail)
          go_ret
          exact ⟨rfl, S.nil⟩
end Go.Proofs.YthdhnpejakljkaaDoor
