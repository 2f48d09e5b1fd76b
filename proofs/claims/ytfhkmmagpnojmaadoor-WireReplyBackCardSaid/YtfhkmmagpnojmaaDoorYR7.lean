/- Several texts under one header: what the claim needs of ChkR, EncR, Fun, DecR, RcM, RelyD, RpR. No condition but those that each names. -/
import Derived.Test.YtfhkmmagpnojmaaDoorYR1
import Derived.Test.YtfhkmmagpnojmaaDoorYR6
import Derived.Test.YtfhkmmagpnojmaaDoorYR5
import Derived.Test.YtfhkmmagpnojmaaDoorYR4
import Derived.ArgAppend
import Derived.Deep.Cut
set_option linter.unusedSimpArgs false
set_option linter.unusedVariables false

/- Whether a request is valid: the program's CheckRequest and the specification's. No condition but the reach. -/
namespace Go.Proofs.YtfhkmmagpnojmaaDoor
open Go.RowKit

/-- The error of a request. -/
def rqE (r : Rq) : Int := if rqV r then 0 else 8
theorem rqV_body (r : Rq) : rqV r = (decide (1 ≤ r.kind.toNat ∧ r.kind.toNat ≤ 6) && (bdyOk (bdyR r) && decide (ofB r.kind r.tok (bdyR r) = r))) := by
  obtain ⟨k, t, p, d, n⟩ := r
  rcases kcase k with rfl | rfl | rfl | rfl | rfl | rfl | ⟨h1, h2, h3, h4, h5, h6⟩
  case inr.inr.inr.inr.inr.inr =>
    have hd : decide (1 ≤ k.toNat ∧ k.toNat ≤ 6) = false := decide_eq_false (by omega)
    rw [show decide (1 ≤ (Rq.mk k t p d n).kind.toNat ∧ (Rq.mk k t p d n).kind.toNat ≤ 6) = false from hd, Bool.false_and]
    cases hv : rqV ⟨k, t, p, d, n⟩ with
    | false => rfl
    | true =>
      have := rqV_kind _ hv
      simp only at this
      rcases this with rfl | rfl | rfl | rfl | rfl | rfl <;> simp at *
  all_goals
    rw [Bool.eq_iff_iff]
    simp [rqV, bdyR, bdyOk, ofB, @eq_comm UInt8 0, @eq_comm UInt32 0]
    try (constructor <;> intro h <;> simp [h])
set_option maxRecDepth 100000 in
theorem eqTm (m : Nat) (a b : Tok) (w : World) : (Op.equalIn (m + 4) 67 (.agg (tokL a).toArray) (.agg (tokL b).toArray)).run Tryd.prog w = .ok (decide (a = b)) w := by
  have hp : Tryd.prog.stoodInHeld 67 = false := by kernel_rfl
  have hf : Tryd.prog.underlying 67 = some (.struct (Tryd.prog.fieldsOf 67)) := by kernel_rfl
  have e : decide (a = b) = (((a.tenant.toNat : Int) == (b.tenant.toNat : Int)) && (((a.role.toNat : Int) == (b.role.toNat : Int)) && (((a.expiry.toNat : Int) == (b.expiry.toNat : Int)) && (((a.serial.toNat : Int) == (b.serial.toNat : Int)) && (decide (a.tag = b.tag) && true))))) := by
    rw [beqU8, beqU8, beqU64, beqU32, Bool.eq_iff_iff]
    simp only [decide_eq_true_eq, Bool.and_eq_true, and_true]
    constructor
    · rintro rfl; exact ⟨rfl, rfl, rfl, rfl, rfl⟩
    · rintro ⟨h1, h2, h3, h4, h5⟩
      exact Tok.ext' h1 h2 h3 h4 h5
  have htag : ∀ t : Tok, (tokL t).toArray.extract 4 (4 + 32) = (t.tag.map by8).toArray := fun t => by
    have : (t.tag.map by8).length = 32 := by simp [t.len]
    apply Array.ext'
    simp only [tokL, Array.toList_extract, List.extract_eq_take_drop]
    show ((t.tag.map by8).take 32) = _
    rw [List.take_of_length_le (by omega)]
  rw [e, run_equalIn_agg (P := Tryd.prog) w (m + 3) 67 _ _ hf hp]
  unfold Program.fieldsOf
  rw [Tryd.underlying67]
  exact eqFields_step w (m + 3) _ _ _ _ rfl _ _ (run_part1 w _ _ _ _ _ Tryd.underlying5 rfl rfl) (run_part1 w _ _ _ _ _ Tryd.underlying5 rfl rfl) _ _ (run_equalIn_int w (m + 2) _ _ _ _ _ Tryd.underlying5)
    (eqFields_step w (m + 3) _ _ _ _ rfl _ _ (run_part1 w _ _ _ _ _ Tryd.underlying5 rfl rfl) (run_part1 w _ _ _ _ _ Tryd.underlying5 rfl rfl) _ _ (run_equalIn_int w (m + 2) _ _ _ _ _ Tryd.underlying5)
    (eqFields_step w (m + 3) _ _ _ _ rfl _ _ (run_part1 w _ _ _ _ _ Tryd.underlying23 rfl rfl) (run_part1 w _ _ _ _ _ Tryd.underlying23 rfl rfl) _ _ (run_equalIn_int w (m + 2) _ _ _ _ _ Tryd.underlying23)
    (eqFields_step w (m + 3) _ _ _ _ rfl _ _ (run_part1 w _ _ _ _ _ Tryd.underlying38 rfl rfl) (run_part1 w _ _ _ _ _ Tryd.underlying38 rfl rfl) _ _ (run_equalIn_int w (m + 2) _ _ _ _ _ Tryd.underlying38)
    (eqFields_step w (m + 3) _ _ _ _ rfl _ _ (run_partA w _ _ _ 32 _ _ Tryd.underlying22 rfl kR (htag a)) (run_partA w _ _ _ 32 _ _ Tryd.underlying22 rfl kR (htag b)) _ _
      (run_equalIn_map by8 w (m + 2) _ _ 32 Tryd.underlying22 kR (isAgg_int Tryd.underlying5) (fun a b w => eqIn_by8 (m + 1) _ Tryd.underlying5 a b w) a.tag b.tag a.len b.len)
    (eqFields_nil w (m + 3) _ _)))))
set_option maxRecDepth 100000 in
theorem eqRq (a b : Rq) (w : World) : (Op.equalIn 10000 69 (.agg (rqL a).toArray) (.agg (rqL b).toArray)).run Tryd.prog w = .ok (decide (a = b)) w := by
  have hp : Tryd.prog.stoodInHeld 69 = false := by kernel_rfl
  have hf : Tryd.prog.underlying 69 = some (.struct (Tryd.prog.fieldsOf 69)) := by kernel_rfl
  have e : decide (a = b) = (((a.kind.toNat : Int) == (b.kind.toNat : Int)) && (decide (a.tok = b.tok) && (((a.pick.toNat : Int) == (b.pick.toNat : Int)) && (((a.drop.toNat : Int) == (b.drop.toNat : Int)) && (((a.number.toNat : Int) == (b.number.toNat : Int)) && true))))) := by
    rw [beqU8, beqU8, beqU8, beqU32, Bool.eq_iff_iff]
    simp only [decide_eq_true_eq, Bool.and_eq_true, and_true]
    constructor
    · rintro rfl; exact ⟨rfl, rfl, rfl, rfl, rfl⟩
    · rintro ⟨h1, h2, h3, h4, h5⟩
      exact Rq.ext' h1 h2 h3 h4 h5
  have htok : ∀ r : Rq, (rqL r).toArray.extract 1 (1 + 36) = (tokL r.tok).toArray := fun r => by
    have := rqL_tok r
    rw [← this]
    apply Array.ext'
    simp only [Array.toList_extract, List.extract_eq_take_drop]
  rw [e, run_equalIn_agg (P := Tryd.prog) w 9999 69 _ _ hf hp]
  unfold Program.fieldsOf
  rw [Tryd.underlying69]
  exact eqFields_step w 9999 _ _ _ _ rfl _ _ (run_part1 w _ _ _ _ _ Tryd.underlying5 rfl (rqL_0 a)) (run_part1 w _ _ _ _ _ Tryd.underlying5 rfl (rqL_0 b)) _ _ (run_equalIn_int w 9998 _ _ _ _ _ Tryd.underlying5)
    (eqFields_step w 9999 _ _ _ _ rfl _ _ (run_partA w _ _ _ 36 _ _ Tryd.underlying67 rfl kR (htok a)) (run_partA w _ _ _ 36 _ _ Tryd.underlying67 rfl kR (htok b)) _ _ (eqTm 9995 a.tok b.tok w)
    (eqFields_step w 9999 _ _ _ _ rfl _ _ (run_part1 w _ _ _ _ _ Tryd.underlying5 rfl (rqL_37 a)) (run_part1 w _ _ _ _ _ Tryd.underlying5 rfl (rqL_37 b)) _ _ (run_equalIn_int w 9998 _ _ _ _ _ Tryd.underlying5)
    (eqFields_step w 9999 _ _ _ _ rfl _ _ (run_part1 w _ _ _ _ _ Tryd.underlying5 rfl (rqL_38 a)) (run_part1 w _ _ _ _ _ Tryd.underlying5 rfl (rqL_38 b)) _ _ (run_equalIn_int w 9998 _ _ _ _ _ Tryd.underlying5)
    (eqFields_step w 9999 _ _ _ _ rfl _ _ (run_part1 w _ _ _ _ _ Tryd.underlying38 rfl (rqL_39 a)) (run_part1 w _ _ _ _ _ Tryd.underlying38 rfl (rqL_39 b)) _ _ (run_equalIn_int w 9998 _ _ _ _ _ Tryd.underlying38)
    (eqFields_nil w 9999 _ _)))))
theorem neqRq (a b : Rq) (w : World) : (binOp .neq 69 (.agg (rqL a).toArray) (.agg (rqL b).toArray)).run Tryd.prog w = .ok (.bool (!decide (a = b))) w := by
  rw [run_neq_struct, eqRq, Result.andThen_ok]
theorem eqGuardRq : Tryd.prog.eqGuardType Tryd.prog.depth 69 = false := by kernel_rfl
set_option maxRecDepth 100000 in
set_option maxHeartbeats 4000000 in
theorem checkRequest_s (r : Rq) (w0 : World) : Calls Tryd.prog 36 #[.agg (rqL r).toArray] w0 fun e w' => e = .returned (.int .i64 (rqE r)) ∧ Has w0 w' [] := by
  have S := Has.start w0
  have hrb := fun w => requestBody_s r w
  have hbv := fun w => bdyValid_s (bdyR r) w
  have hof := fun w => requestOf_s r.kind r.tok (bdyR r) w
  have hV : rqE r = if (decide (1 ≤ r.kind.toNat ∧ r.kind.toNat ≤ 6) && (bdyOk (bdyR r) && decide (ofB r.kind r.tok (bdyR r) = r))) = true then 0 else 8 := by unfold rqE; rw [rqV_body]
  obtain ⟨B, hB⟩ : ∃ B, B = bdyR r := ⟨_, rfl⟩
  rw [← hB] at hrb hbv hof hV
  obtain ⟨q, hq⟩ : ∃ q, q = ofB r.kind r.tok B := ⟨_, rfl⟩
  rw [← hq] at hof hV
  have eg := eqGuardRq
  have hne := fun w => neqRq q r w
  obtain ⟨d, hd⟩ : ∃ d, d = decide (q = r) := ⟨_, rfl⟩
  rw [← hd] at hne hV
  obtain ⟨o, ho⟩ : ∃ o, o = bdyOk B := ⟨_, rfl⟩
  rw [← ho] at hbv hV
  clear hB hq hd ho
  by_cases k1 : r.kind.toNat < 1
  · rw [show rqE r = 8 by rw [hV, decide_eq_false (by omega)]; rfl]
    have i1 : (r.kind.toNat : Int) < 1 := by omega
    have HRB := Lib.hid hrb; have HBV := Lib.hid hbv; have HOF := Lib.hid hof; clear hrb hbv hof
    clear hV hne k1
    go_enter Tryd.func36, Tryd.ntmps36
    go_wp2_with (first | ((with_reducible refine iD 1 (.box 69 (.tmp 0)) ?_); refine step_boxA (dst := some 1) S 69 (.tmp 0) _ rfl gw ?_; clear S; intro g1 w S) | ((with_reducible refine iO _ (.load 69 _) ?_); first | (refine step_load S 69 _ _ rfl _ _ _ pk _ Tryd.underlying69 rfl 40 kR lN gw ?_) | (refine step_loadO 69 _ _ rfl _ _ _ (S.old_heap (Hid.out (by assumption))) _ Tryd.underlying69 rfl 40 kR lN gw ?_) | (refine step_loadR 69 _ _ _ rfl _ (S.old_range hy) _ Tryd.underlying69 rfl 40 kR lN _ rfl gw ?_)) | (go_at_call 57; (with_reducible refine (HRB.out _).mono ?_); rintro e w1 ⟨rfl, T⟩; replace S := S.call T; clear T; (try simp only [z4, z5] at S)) | fail)
    refine wp_rely S [sv [] (.pointer (some ⟨g1, 0, none⟩)), sv [0] (by8 r.kind), sv [0, 1] (.bool true), sv [0, 1, 2] (.bool true), sv [0, 1, 2, 3] undef, sv [0, 1, 2, 3, 4] undef, sv [0, 1, 2, 3, 4, 5] undef, sv [0, 1, 2, 3, 4, 5, 6] (.bool true), sv [0, 1, 2, 3, 4, 5, 6, 7] (.bool true), sv [0, 1, 2, 3, 4, 5, 6, 7, 8] undef, sv [0, 1, 2, 3, 4, 5, 6, 7, 8, 9] undef, sv [0, 1, 2, 3, 4, 5, 6, 7, 8, 9, 10] undef, sv [0, 1, 2, 3, 4, 5, 6, 7, 8, 9, 10, 11] (.bool true), sv [0, 1, 2, 3, 4, 5, 6, 7, 8, 9, 10, 11, 12] (.bool true), sv [0, 1, 2, 3, 4, 5, 6, 7, 8, 9, 10, 11, 12, 13] undef, sv [0, 1, 2, 3, 4, 5, 6, 7, 8, 9, 10, 11, 12, 13, 14] undef, sv [0, 1, 2, 3, 4, 5, 6, 7, 8, 9, 10, 11, 12, 13] undef, sv [0, 1, 2, 3, 4, 5, 6, 7, 8, 9, 10, 11, 12, 13, 16] undef, sv [0, 1, 2, 3, 4, 5, 6, 7, 8, 9, 10, 11, 12, 13] undef, sv [0, 1, 2, 3, 4, 5, 6, 7, 8, 9, 10, 11, 12, 13, 14, 15, 16, 17, 18] undef, sv [0, 1, 2, 3, 4, 5, 6, 7, 8, 9, 10, 11, 12, 13] undef, sv [0, 1, 2, 3, 4, 5, 6, 7, 8, 9, 10, 11, 12, 13, 14, 15, 16, 17, 18, 19, 20] undef, sv [0, 1, 2, 3, 4, 5, 6, 7, 8, 9, 10, 11, 12, 13, 14, 15, 16, 17, 18, 19, 20, 21] (.bool true)] ?A1 ?hA1 kR kR kR [0, 1, 2, 3, 4, 5, 6, 7, 8, 9, 10, 11, 12, 13, 14, 15, 16, 17, 18, 19, 20, 21, 22] kR ?hok1 ?fin1
    case hA1 => intro u; simp only [putAll, List.length_cons, List.length_nil, Nat.zero_add, Nat.reduceAdd, dstAt, List.getElem?_toArray, List.getElem?_cons_zero, List.getElem?_cons_succ, Option.bind_some, Act.put, List.setIfInBounds_toArray, List.set_cons_zero, List.set_cons_succ]; rfl
    case hok1 =>
      intro i hi
      obtain rfl | rfl | rfl | rfl | rfl | rfl | rfl | rfl | rfl | rfl | rfl | rfl | rfl | rfl | rfl | rfl | rfl | rfl | rfl | rfl | rfl | rfl | rfl : i = 0 ∨ i = 1 ∨ i = 2 ∨ i = 3 ∨ i = 4 ∨ i = 5 ∨ i = 6 ∨ i = 7 ∨ i = 8 ∨ i = 9 ∨ i = 10 ∨ i = 11 ∨ i = 12 ∨ i = 13 ∨ i = 14 ∨ i = 15 ∨ i = 16 ∨ i = 17 ∨ i = 18 ∨ i = 19 ∨ i = 20 ∨ i = 21 ∨ i = 22 := by simp only [List.length_cons, List.length_nil, Nat.zero_add, Nat.reduceAdd] at hi; omega
      · exact oP []
      · clear hi
        refine step_of rfl rfl rfl ?_
        intro u G w hf S
        have f0 : u 0 = .pointer (some ⟨g1, 0, none⟩) := hf 0 (by simp)
        simp only [fl, z4, z5, z6, z7, ptrBlk] at S ⊢
        simp only [f0]
        refine does_load1 5 (.tmp 6) _ _ rfl (S.cell (g := g1) pk co) _ Tryd.underlying5 rfl ?_; exact ⟨rfl, S⟩
      · exact oP [1]
      · exact oP [2]
      · exact oX [3]
      · exact oX [3]
      · exact oX [3]
      · exact oP [3, 6]
      · exact oP [7]
      · exact oX [8]
      · exact oX [8]
      · exact oX [8]
      · exact oP [8, 11]
      · exact oP [12]
      · exact oX [13]
      · exact oX [13]
      · exact oX [13]
      · exact oX [13]
      · exact oX [13]
      · exact oX [13]
      · exact oX [13]
      · exact oX [13]
      · exact oP [13, 21]
    case fin1 =>
      intro u w hf S
      have hvA := allV hf
      simp only [AllV, RSpec.valAt, sv, Nat.zero_add, Nat.reduceAdd] at hvA
      simp only [fl, z4, z5, z6, z7, ptrBlk] at S
      clear hf
      simp only [List.length_cons, List.length_nil, Nat.zero_add, Nat.reduceAdd, List.drop_succ_cons, List.drop_zero, hvA]
      clear hvA
      go_wp2_with (first | fail)
      go_ret
      exact ⟨rfl, S.nil⟩
  by_cases k6 : 6 < r.kind.toNat
  · rw [show rqE r = 8 by rw [hV, decide_eq_false (by omega)]; rfl]
    have i1 : ¬ (r.kind.toNat : Int) < 1 := by omega
    have i2 : 6 < (r.kind.toNat : Int) := by omega
    have HRB := Lib.hid hrb; have HBV := Lib.hid hbv; have HOF := Lib.hid hof; clear hrb hbv hof
    clear hV hne k1 k6
    go_enter Tryd.func36, Tryd.ntmps36
    go_wp2_with (first | ((with_reducible refine iD 1 (.box 69 (.tmp 0)) ?_); refine step_boxA (dst := some 1) S 69 (.tmp 0) _ rfl gw ?_; clear S; intro g1 w S) | ((with_reducible refine iO _ (.load 69 _) ?_); first | (refine step_load S 69 _ _ rfl _ _ _ pk _ Tryd.underlying69 rfl 40 kR lN gw ?_) | (refine step_loadO 69 _ _ rfl _ _ _ (S.old_heap (Hid.out (by assumption))) _ Tryd.underlying69 rfl 40 kR lN gw ?_) | (refine step_loadR 69 _ _ _ rfl _ (S.old_range hy) _ Tryd.underlying69 rfl 40 kR lN _ rfl gw ?_)) | (go_at_call 57; (with_reducible refine (HRB.out _).mono ?_); rintro e w1 ⟨rfl, T⟩; replace S := S.call T; clear T; (try simp only [z4, z5] at S)) | fail)
    refine wp_rely S [sv [] (.pointer (some ⟨g1, 0, none⟩)), sv [0] (by8 r.kind), sv [0, 1] (.bool false), sv [0, 1, 2] (.bool false), sv [0, 1, 2, 3] (.pointer (some ⟨g1, 0, none⟩)), sv [0, 1, 2, 3, 4] (by8 r.kind), sv [0, 1, 2, 3, 4, 5] (.bool true), sv [0, 1, 2, 3, 4, 5, 6] (.bool true), sv [0, 1, 2, 3, 4, 5, 6, 7] (.bool true), sv [0, 1, 2, 3, 4, 5, 6, 7, 8] undef, sv [0, 1, 2, 3, 4, 5, 6, 7, 8, 9] undef, sv [0, 1, 2, 3, 4, 5, 6, 7, 8, 9, 10] undef, sv [0, 1, 2, 3, 4, 5, 6, 7, 8, 9, 10, 11] (.bool true), sv [0, 1, 2, 3, 4, 5, 6, 7, 8, 9, 10, 11, 12] (.bool true), sv [0, 1, 2, 3, 4, 5, 6, 7, 8, 9, 10, 11, 12, 13] undef, sv [0, 1, 2, 3, 4, 5, 6, 7, 8, 9, 10, 11, 12, 13, 14] undef, sv [0, 1, 2, 3, 4, 5, 6, 7, 8, 9, 10, 11, 12, 13] undef, sv [0, 1, 2, 3, 4, 5, 6, 7, 8, 9, 10, 11, 12, 13, 16] undef, sv [0, 1, 2, 3, 4, 5, 6, 7, 8, 9, 10, 11, 12, 13] undef, sv [0, 1, 2, 3, 4, 5, 6, 7, 8, 9, 10, 11, 12, 13, 14, 15, 16, 17, 18] undef, sv [0, 1, 2, 3, 4, 5, 6, 7, 8, 9, 10, 11, 12, 13] undef, sv [0, 1, 2, 3, 4, 5, 6, 7, 8, 9, 10, 11, 12, 13, 14, 15, 16, 17, 18, 19, 20] undef, sv [0, 1, 2, 3, 4, 5, 6, 7, 8, 9, 10, 11, 12, 13, 14, 15, 16, 17, 18, 19, 20, 21] (.bool true)] ?A2 ?hA2 kR kR kR [0, 1, 2, 3, 4, 5, 6, 7, 8, 9, 10, 11, 12, 13, 14, 15, 16, 17, 18, 19, 20, 21, 22] kR ?hok2 ?fin2
    case hA2 => intro u; simp only [putAll, List.length_cons, List.length_nil, Nat.zero_add, Nat.reduceAdd, dstAt, List.getElem?_toArray, List.getElem?_cons_zero, List.getElem?_cons_succ, Option.bind_some, Act.put, List.setIfInBounds_toArray, List.set_cons_zero, List.set_cons_succ]; rfl
    case hok2 =>
      intro i hi
      obtain rfl | rfl | rfl | rfl | rfl | rfl | rfl | rfl | rfl | rfl | rfl | rfl | rfl | rfl | rfl | rfl | rfl | rfl | rfl | rfl | rfl | rfl | rfl : i = 0 ∨ i = 1 ∨ i = 2 ∨ i = 3 ∨ i = 4 ∨ i = 5 ∨ i = 6 ∨ i = 7 ∨ i = 8 ∨ i = 9 ∨ i = 10 ∨ i = 11 ∨ i = 12 ∨ i = 13 ∨ i = 14 ∨ i = 15 ∨ i = 16 ∨ i = 17 ∨ i = 18 ∨ i = 19 ∨ i = 20 ∨ i = 21 ∨ i = 22 := by simp only [List.length_cons, List.length_nil, Nat.zero_add, Nat.reduceAdd] at hi; omega
      · exact oP []
      · clear hi
        refine step_of rfl rfl rfl ?_
        intro u G w hf S
        have f0 : u 0 = .pointer (some ⟨g1, 0, none⟩) := hf 0 (by simp)
        simp only [fl, z4, z5, z6, z7, ptrBlk] at S ⊢
        simp only [f0]
        refine does_load1 5 (.tmp 6) _ _ rfl (S.cell (g := g1) pk co) _ Tryd.underlying5 rfl ?_; exact ⟨rfl, S⟩
      · exact oP [1]
      · exact oP [2]
      · exact oG [3]
      · clear hi
        refine step_of_g rfl rfl ?_
        intro u G w hf S
        have f3 : u 3 = (.bool false) := hf 3 (by simp)
        have f4 : u 4 = .pointer (some ⟨g1, 0, none⟩) := hf 4 (by simp)
        simp only [fl, z4, z5, z6, z7, ptrBlk] at S ⊢
        simp only [f3, f4]
        refine ⟨rfl, ?_⟩
        refine does_load1 5 (.tmp 10) _ _ rfl (S.cell (g := g1) pk co) _ Tryd.underlying5 rfl ?_; exact ⟨rfl, S⟩
      · exact oG [3, 5]
      · exact oP [3, 6]
      · exact oP [7]
      · exact oX [8]
      · exact oX [8]
      · exact oX [8]
      · exact oP [8, 11]
      · exact oP [12]
      · exact oX [13]
      · exact oX [13]
      · exact oX [13]
      · exact oX [13]
      · exact oX [13]
      · exact oX [13]
      · exact oX [13]
      · exact oX [13]
      · exact oP [13, 21]
    case fin2 =>
      intro u w hf S
      have hvA := allV hf
      simp only [AllV, RSpec.valAt, sv, Nat.zero_add, Nat.reduceAdd] at hvA
      simp only [fl, z4, z5, z6, z7, ptrBlk] at S
      clear hf
      simp only [List.length_cons, List.length_nil, Nat.zero_add, Nat.reduceAdd, List.drop_succ_cons, List.drop_zero, hvA]
      clear hvA
      go_wp2_with (first | fail)
      go_ret
      exact ⟨rfl, S.nil⟩
  rw [decide_eq_true (by omega)] at hV
  have i1 : ¬ (r.kind.toNat : Int) < 1 := by omega
  have i2 : ¬ 6 < (r.kind.toNat : Int) := by omega
  clear k1 k6
  cases o
  · rw [show rqE r = 8 from hV]
    have HRB := Lib.hid hrb; have HBV := Lib.hid hbv; have HOF := Lib.hid hof; clear hrb hbv hof
    clear hV hne
    go_enter Tryd.func36, Tryd.ntmps36
    go_wp2_with (first | ((with_reducible refine iD 1 (.box 69 (.tmp 0)) ?_); refine step_boxA (dst := some 1) S 69 (.tmp 0) _ rfl gw ?_; clear S; intro g1 w S) | ((with_reducible refine iO _ (.load 69 _) ?_); first | (refine step_load S 69 _ _ rfl _ _ _ pk _ Tryd.underlying69 rfl 40 kR lN gw ?_) | (refine step_loadO 69 _ _ rfl _ _ _ (S.old_heap (Hid.out (by assumption))) _ Tryd.underlying69 rfl 40 kR lN gw ?_) | (refine step_loadR 69 _ _ _ rfl _ (S.old_range hy) _ Tryd.underlying69 rfl 40 kR lN _ rfl gw ?_)) | (go_at_call 57; (with_reducible refine (HRB.out _).mono ?_); rintro e w1 ⟨rfl, T⟩; replace S := S.call T; clear T; (try simp only [z4, z5] at S)) | fail)
    refine wp_rely S [sv [] (.pointer (some ⟨g1, 0, none⟩)), sv [0] (by8 r.kind), sv [0, 1] (.bool false), sv [0, 1, 2] (.bool false), sv [0, 1, 2, 3] (.pointer (some ⟨g1, 0, none⟩)), sv [0, 1, 2, 3, 4] (by8 r.kind), sv [0, 1, 2, 3, 4, 5] (.bool false), sv [0, 1, 2, 3, 4, 5, 6] (.bool false), sv [0, 1, 2, 3, 4, 5, 6, 7] (.bool false), sv [0, 1, 2, 3, 4, 5, 6, 7, 8] (bdyV B), sv [0, 1, 2, 3, 4, 5, 6, 7, 8, 9] (.bool false), sv [0, 1, 2, 3, 4, 5, 6, 7, 8, 9, 10] (.bool true), sv [0, 1, 2, 3, 4, 5, 6, 7, 8, 9, 10, 11] (.bool true), sv [0, 1, 2, 3, 4, 5, 6, 7, 8, 9, 10, 11, 12] (.bool true), sv [0, 1, 2, 3, 4, 5, 6, 7, 8, 9, 10, 11, 12, 13] undef, sv [0, 1, 2, 3, 4, 5, 6, 7, 8, 9, 10, 11, 12, 13, 14] undef, sv [0, 1, 2, 3, 4, 5, 6, 7, 8, 9, 10, 11, 12, 13] undef, sv [0, 1, 2, 3, 4, 5, 6, 7, 8, 9, 10, 11, 12, 13, 16] undef, sv [0, 1, 2, 3, 4, 5, 6, 7, 8, 9, 10, 11, 12, 13] undef, sv [0, 1, 2, 3, 4, 5, 6, 7, 8, 9, 10, 11, 12, 13, 14, 15, 16, 17, 18] undef, sv [0, 1, 2, 3, 4, 5, 6, 7, 8, 9, 10, 11, 12, 13] undef, sv [0, 1, 2, 3, 4, 5, 6, 7, 8, 9, 10, 11, 12, 13, 14, 15, 16, 17, 18, 19, 20] undef, sv [0, 1, 2, 3, 4, 5, 6, 7, 8, 9, 10, 11, 12, 13, 14, 15, 16, 17, 18, 19, 20, 21] (.bool true)] ?A3 ?hA3 kR kR kR [0, 1, 2, 3, 4, 5, 6, 7, 8, 9, 10, 11, 12, 13, 14, 15, 16, 17, 18, 19, 20, 21, 22] kR ?hok3 ?fin3
    case hA3 => intro u; simp only [putAll, List.length_cons, List.length_nil, Nat.zero_add, Nat.reduceAdd, dstAt, List.getElem?_toArray, List.getElem?_cons_zero, List.getElem?_cons_succ, Option.bind_some, Act.put, List.setIfInBounds_toArray, List.set_cons_zero, List.set_cons_succ]; rfl
    case hok3 =>
      intro i hi
      obtain rfl | rfl | rfl | rfl | rfl | rfl | rfl | rfl | rfl | rfl | rfl | rfl | rfl | rfl | rfl | rfl | rfl | rfl | rfl | rfl | rfl | rfl | rfl : i = 0 ∨ i = 1 ∨ i = 2 ∨ i = 3 ∨ i = 4 ∨ i = 5 ∨ i = 6 ∨ i = 7 ∨ i = 8 ∨ i = 9 ∨ i = 10 ∨ i = 11 ∨ i = 12 ∨ i = 13 ∨ i = 14 ∨ i = 15 ∨ i = 16 ∨ i = 17 ∨ i = 18 ∨ i = 19 ∨ i = 20 ∨ i = 21 ∨ i = 22 := by simp only [List.length_cons, List.length_nil, Nat.zero_add, Nat.reduceAdd] at hi; omega
      · exact oP []
      · clear hi
        refine step_of rfl rfl rfl ?_
        intro u G w hf S
        have f0 : u 0 = .pointer (some ⟨g1, 0, none⟩) := hf 0 (by simp)
        simp only [fl, z4, z5, z6, z7, ptrBlk] at S ⊢
        simp only [f0]
        refine does_load1 5 (.tmp 6) _ _ rfl (S.cell (g := g1) pk co) _ Tryd.underlying5 rfl ?_; exact ⟨rfl, S⟩
      · exact oP [1]
      · exact oP [2]
      · exact oG [3]
      · clear hi
        refine step_of_g rfl rfl ?_
        intro u G w hf S
        have f3 : u 3 = (.bool false) := hf 3 (by simp)
        have f4 : u 4 = .pointer (some ⟨g1, 0, none⟩) := hf 4 (by simp)
        simp only [fl, z4, z5, z6, z7, ptrBlk] at S ⊢
        simp only [f3, f4]
        refine ⟨rfl, ?_⟩
        refine does_load1 5 (.tmp 10) _ _ rfl (S.cell (g := g1) pk co) _ Tryd.underlying5 rfl ?_; exact ⟨rfl, S⟩
      · exact oG [3, 5]
      · exact oP [3, 6]
      · exact oP [7]
      · exact oG [8]
      · clear hi
        refine step_of_g rfl rfl ?_
        intro u G w hf S
        have f8 : u 8 = (.bool false) := hf 8 (by simp)
        have f9 : u 9 = (bdyV B) := hf 9 (by simp)
        simp only [fl, z4, z5, z6, z7, ptrBlk] at S ⊢
        simp only [f8, f9]
        refine ⟨rfl, ?_⟩
        obtain ⟨f, rv, hr, hc⟩ := HBV.out w; refine does_inv (.tmp 15) "dunnage/wire.valid" [] _ _ [] f #[rv] rfl rfl hr hc ?_; rintro e w1 ⟨rfl, T⟩; exact ⟨_, rfl, rfl, S.call T⟩
      · exact oG [8, 10]
      · exact oP [8, 11]
      · exact oP [12]
      · exact oX [13]
      · exact oX [13]
      · exact oX [13]
      · exact oX [13]
      · exact oX [13]
      · exact oX [13]
      · exact oX [13]
      · exact oX [13]
      · exact oP [13, 21]
    case fin3 =>
      intro u w hf S
      have hvA := allV hf
      simp only [AllV, RSpec.valAt, sv, Nat.zero_add, Nat.reduceAdd] at hvA
      simp only [fl, z4, z5, z6, z7, ptrBlk] at S
      clear hf
      simp only [List.length_cons, List.length_nil, Nat.zero_add, Nat.reduceAdd, List.drop_succ_cons, List.drop_zero, hvA]
      clear hvA
      go_wp2_with (first | fail)
      go_ret
      exact ⟨rfl, S.nil⟩
  · rw [show rqE r = if d = true then 0 else 8 from hV]
    have HRB := Lib.hid hrb; have HBV := Lib.hid hbv; have HOF := Lib.hid hof; clear hrb hbv hof
    clear hV
    go_enter Tryd.func36, Tryd.ntmps36
    go_wp2_with (first | ((with_reducible refine iD 1 (.box 69 (.tmp 0)) ?_); refine step_boxA (dst := some 1) S 69 (.tmp 0) _ rfl gw ?_; clear S; intro g1 w S) | ((with_reducible refine iO _ (.load 69 _) ?_); first | (refine step_load S 69 _ _ rfl _ _ _ pk _ Tryd.underlying69 rfl 40 kR lN gw ?_) | (refine step_loadO 69 _ _ rfl _ _ _ (S.old_heap (Hid.out (by assumption))) _ Tryd.underlying69 rfl 40 kR lN gw ?_) | (refine step_loadR 69 _ _ _ rfl _ (S.old_range hy) _ Tryd.underlying69 rfl 40 kR lN _ rfl gw ?_)) | (go_at_call 57; (with_reducible refine (HRB.out _).mono ?_); rintro e w1 ⟨rfl, T⟩; replace S := S.call T; clear T; (try simp only [z4, z5] at S)) | fail)
    refine wp_rely S [sv [] (.pointer (some ⟨g1, 0, none⟩)), sv [0] (by8 r.kind), sv [0, 1] (.bool false), sv [0, 1, 2] (.bool false), sv [0, 1, 2, 3] (.pointer (some ⟨g1, 0, none⟩)), sv [0, 1, 2, 3, 4] (by8 r.kind), sv [0, 1, 2, 3, 4, 5] (.bool false), sv [0, 1, 2, 3, 4, 5, 6] (.bool false), sv [0, 1, 2, 3, 4, 5, 6, 7] (.bool false), sv [0, 1, 2, 3, 4, 5, 6, 7, 8] (bdyV B), sv [0, 1, 2, 3, 4, 5, 6, 7, 8, 9] (.bool true), sv [0, 1, 2, 3, 4, 5, 6, 7, 8, 9, 10] (.bool false), sv [0, 1, 2, 3, 4, 5, 6, 7, 8, 9, 10, 11] (.bool false), sv [0, 1, 2, 3, 4, 5, 6, 7, 8, 9, 10, 11, 12] (.bool false), sv [0, 1, 2, 3, 4, 5, 6, 7, 8, 9, 10, 11, 12, 13] (.pointer (some ⟨g1, 0, none⟩)), sv [0, 1, 2, 3, 4, 5, 6, 7, 8, 9, 10, 11, 12, 13, 14] (by8 r.kind), sv [0, 1, 2, 3, 4, 5, 6, 7, 8, 9, 10, 11, 12, 13] (.pointer (some ⟨g1, 1, none⟩)), sv [0, 1, 2, 3, 4, 5, 6, 7, 8, 9, 10, 11, 12, 13, 16] (.agg (tokL r.tok).toArray), sv [0, 1, 2, 3, 4, 5, 6, 7, 8, 9, 10, 11, 12, 13] (bdyV B), sv [0, 1, 2, 3, 4, 5, 6, 7, 8, 9, 10, 11, 12, 13, 14, 15, 16, 17, 18] (.agg (rqL q).toArray), sv [0, 1, 2, 3, 4, 5, 6, 7, 8, 9, 10, 11, 12, 13] (.agg (rqL r).toArray), sv [0, 1, 2, 3, 4, 5, 6, 7, 8, 9, 10, 11, 12, 13, 14, 15, 16, 17, 18, 19, 20] (.bool (!d)), sv [0, 1, 2, 3, 4, 5, 6, 7, 8, 9, 10, 11, 12, 13, 14, 15, 16, 17, 18, 19, 20, 21] (.bool (!d))] ?A4 ?hA4 kR kR kR [0, 1, 2, 3, 4, 5, 6, 7, 8, 9, 10, 11, 12, 13, 14, 15, 16, 17, 18, 19, 20, 21, 22] kR ?hok4 ?fin4
    case hA4 => intro u; simp only [putAll, List.length_cons, List.length_nil, Nat.zero_add, Nat.reduceAdd, dstAt, List.getElem?_toArray, List.getElem?_cons_zero, List.getElem?_cons_succ, Option.bind_some, Act.put, List.setIfInBounds_toArray, List.set_cons_zero, List.set_cons_succ]; rfl
    case hok4 =>
      intro i hi
      obtain rfl | rfl | rfl | rfl | rfl | rfl | rfl | rfl | rfl | rfl | rfl | rfl | rfl | rfl | rfl | rfl | rfl | rfl | rfl | rfl | rfl | rfl | rfl : i = 0 ∨ i = 1 ∨ i = 2 ∨ i = 3 ∨ i = 4 ∨ i = 5 ∨ i = 6 ∨ i = 7 ∨ i = 8 ∨ i = 9 ∨ i = 10 ∨ i = 11 ∨ i = 12 ∨ i = 13 ∨ i = 14 ∨ i = 15 ∨ i = 16 ∨ i = 17 ∨ i = 18 ∨ i = 19 ∨ i = 20 ∨ i = 21 ∨ i = 22 := by simp only [List.length_cons, List.length_nil, Nat.zero_add, Nat.reduceAdd] at hi; omega
      · exact oP []
      · clear hi
        refine step_of rfl rfl rfl ?_
        intro u G w hf S
        have f0 : u 0 = .pointer (some ⟨g1, 0, none⟩) := hf 0 (by simp)
        simp only [fl, z4, z5, z6, z7, ptrBlk] at S ⊢
        simp only [f0]
        refine does_load1 5 (.tmp 6) _ _ rfl (S.cell (g := g1) pk co) _ Tryd.underlying5 rfl ?_; exact ⟨rfl, S⟩
      · exact oP [1]
      · exact oP [2]
      · exact oG [3]
      · clear hi
        refine step_of_g rfl rfl ?_
        intro u G w hf S
        have f3 : u 3 = (.bool false) := hf 3 (by simp)
        have f4 : u 4 = .pointer (some ⟨g1, 0, none⟩) := hf 4 (by simp)
        simp only [fl, z4, z5, z6, z7, ptrBlk] at S ⊢
        simp only [f3, f4]
        refine ⟨rfl, ?_⟩
        refine does_load1 5 (.tmp 10) _ _ rfl (S.cell (g := g1) pk co) _ Tryd.underlying5 rfl ?_; exact ⟨rfl, S⟩
      · exact oG [3, 5]
      · exact oP [3, 6]
      · exact oP [7]
      · exact oG [8]
      · clear hi
        refine step_of_g rfl rfl ?_
        intro u G w hf S
        have f8 : u 8 = (.bool false) := hf 8 (by simp)
        have f9 : u 9 = (bdyV B) := hf 9 (by simp)
        simp only [fl, z4, z5, z6, z7, ptrBlk] at S ⊢
        simp only [f8, f9]
        refine ⟨rfl, ?_⟩
        obtain ⟨f, rv, hr, hc⟩ := HBV.out w; refine does_inv (.tmp 15) "dunnage/wire.valid" [] _ _ [] f #[rv] rfl rfl hr hc ?_; rintro e w1 ⟨rfl, T⟩; exact ⟨_, rfl, rfl, S.call T⟩
      · exact oG [8, 10]
      · exact oP [8, 11]
      · exact oP [12]
      · exact oG [13]
      · clear hi
        refine step_of_g rfl rfl ?_
        intro u G w hf S
        have f13 : u 13 = (.bool false) := hf 13 (by simp)
        have f14 : u 14 = .pointer (some ⟨g1, 0, none⟩) := hf 14 (by simp)
        simp only [fl, z4, z5, z6, z7, ptrBlk] at S ⊢
        simp only [f13, f14]
        refine ⟨rfl, ?_⟩
        refine does_load1 5 (.tmp 20) _ _ rfl (S.cell (g := g1) pk co) _ Tryd.underlying5 rfl ?_; exact ⟨rfl, S⟩
      · exact oG [13]
      · clear hi
        refine step_of_g rfl rfl ?_
        intro u G w hf S
        have f13 : u 13 = (.bool false) := hf 13 (by simp)
        have f16 : u 16 = .pointer (some ⟨g1, 1, none⟩) := hf 16 (by simp)
        simp only [fl, z4, z5, z6, z7, ptrBlk] at S ⊢
        simp only [f13, f16]
        refine ⟨rfl, ?_⟩
        refine does_loadP S 67 (.tmp 22) _ _ rfl _ _ _ pk 36 _ pT lN _ Tryd.underlying67 rfl kR ?_; exact ⟨rfl, S⟩
      · exact oG [13]
      · clear hi
        refine step_of_g rfl rfl ?_
        intro u G w hf S
        have f13 : u 13 = (.bool false) := hf 13 (by simp)
        have f15 : u 15 = by8 r.kind := hf 15 (by simp)
        have f17 : u 17 = .agg (tokL r.tok).toArray := hf 17 (by simp)
        have f18 : u 18 = (bdyV B) := hf 18 (by simp)
        simp only [fl, z4, z5, z6, z7, ptrBlk] at S ⊢
        simp only [f13, f15, f17, f18]
        refine ⟨rfl, ?_⟩
        refine does_fn (args := [(by8 r.kind), (.agg (tokL r.tok).toArray), ((bdyV B))]) Tryd.func64 kR kR (HOF.out w) rfl ?_
        rintro e w1 ⟨rfl, T⟩
        exact ⟨_, rfl, rfl, S.call T⟩
      · clear hi
        refine step_of_g rfl rfl ?_
        intro u G w hf S
        have f13 : u 13 = (.bool false) := hf 13 (by simp)
        simp only [fl, z4, z5, z6, z7, ptrBlk] at S ⊢
        simp only [f13]
        refine ⟨rfl, ?_⟩
        refine does_load 69 (.tmp 1) g1 rfl _ _ _ (S.get (r := blk g1 _) pk) _ Tryd.underlying69 rfl 40 kR lN ?_; exact ⟨rfl, S⟩
      · exact oG [13, 19, 20]
      · exact oP [13, 21]
    case fin4 =>
      intro u w hf S
      have hvA := allV hf
      simp only [AllV, RSpec.valAt, sv, Nat.zero_add, Nat.reduceAdd] at hvA
      simp only [fl, z4, z5, z6, z7, ptrBlk] at S
      clear hf
      simp only [List.length_cons, List.length_nil, Nat.zero_add, Nat.reduceAdd, List.drop_succ_cons, List.drop_zero, hvA]
      clear hvA
      cases d
      · go_wp2_with (first | fail)
        go_ret
        exact ⟨rfl, S.nil⟩
      · go_wp2_with (first | fail)
        go_ret
        exact ⟨rfl, S.nil⟩
end Go.Proofs.YtfhkmmagpnojmaaDoor

/- The encoding of a request: the program's. No condition but the reach. -/
namespace Go.Proofs.YtfhkmmagpnojmaaDoor
open Go.RowKit

set_option maxRecDepth 100000 in
set_option maxHeartbeats 4000000 in
theorem ticketWrite_s (t : Tok) (g : Nat) (vv : Value) (xs : List UInt8) (w0 w1 : World) (F : List Res) (S : Has w0 w1 (wrt g vv :: row8 vv xs :: F)) (hl : xs.length + 46 ≤ 140737488355328) :
    Calls Tryd.prog 56 #[.agg (tokL t).toArray, .pointer (some ⟨g, 0, none⟩)] w1 (Wrote w0 g (xs ++ encT t) F) := by
  have p1 := fun w => enc_s t w
  have h1 : xs.length + (encT t).length ≤ 140737488355328 := by rw [encT_length]; exact hl
  obtain ⟨E, hE⟩ : ∃ E, E = encT t := ⟨_, rfl⟩
  rw [← hE] at p1 h1 ⊢
  have P1 := Lib.hid p1; have H1 := Lib.hid h1; clear p1 h1
  clear hE hl
  go_enter Tryd.func56, Tryd.ntmps56
  go_wp2_with (first | ((with_reducible refine iD 2 (.box 114 (.tmp 0)) ?_); refine step_boxA (dst := some 2) S 114 (.tmp 0) _ rfl rfl ?_; clear S; intro g2 w S) | fail)
  have S := (S.pick2 (r := wrt g vv) (s := row8 vv xs) pk pk).join
  refine wp_relyW (e1 := noRes) 4 (S.pick (r := both (wrt g vv) (row8 vv xs)) pk) [sv [] ((.pointer (some ⟨g, 0, none⟩))), sv [] ((.pointer (some ⟨g, 0, none⟩))), sv [1] (.pointer (some ⟨g, 0, none⟩)), sv [1, 2] (.pointer (some ⟨g, 0, none⟩)), ⟨[1, 2, 3], [], [], fun _ v => v = vv, fun _ v => [wrt g vv, row8 vv xs]⟩, sv [] (.agg (tokL t).toArray), ⟨[5], [], [], fun _ v => ∃ y, v = y, fun _ v => [row8 v E]⟩, ⟨[1, 2, 3, 4, 5, 6], [4, 6], [], fun _ v => True, fun _ v => [wrt g vv, row8 v (xs ++ E)]⟩, sv [0, 1, 2, 3, 4, 5, 6, 7] (.pointer (some ⟨g, 0, none⟩)), sv [0, 1, 2, 3, 4, 5, 6, 7, 8] (.pointer (some ⟨g, 0, none⟩)), ⟨[0, 1, 2, 3, 4, 5, 6, 7, 8, 9], [7], [], fun _ v => True, fun d v => [wrt g (d 7), row8 (d 7) (xs ++ E)]⟩] ?A1 ?hA1 kR kR kR [0, 1, 2, 3, 5, 8, 9, 10] kR (of_decide_eq_true rfl) ?hok1 ?fin1
  case hA1 => intro u; simp only [putAll, List.length_cons, List.length_nil, Nat.zero_add, Nat.reduceAdd, dstAt, List.getElem?_toArray, List.getElem?_cons_zero, List.getElem?_cons_succ, Option.bind_some, Act.put, List.setIfInBounds_toArray, List.set_cons_zero, List.set_cons_succ]; rfl
  case hok1 =>
    intro i hi
    obtain rfl | rfl | rfl | rfl | rfl | rfl | rfl | rfl | rfl | rfl | rfl : i = 0 ∨ i = 1 ∨ i = 2 ∨ i = 3 ∨ i = 4 ∨ i = 5 ∨ i = 6 ∨ i = 7 ∨ i = 8 ∨ i = 9 ∨ i = 10 := by simp only [List.length_cons, List.length_nil, Nat.zero_add, Nat.reduceAdd] at hi; omega
    · rw [if_neg (by decide)]; intro r0; exact oP []
    · rw [if_neg (by decide)]; intro r0; exact oP []
    · rw [if_neg (by decide)]; intro r0; exact oP [1]
    · rw [if_neg (by decide)]; intro r0; exact oP [2]
    · clear hi
      rw [if_pos rfl]
      refine step_ofW rfl rfl rfl ?_
      intro u G w hf S
      have f3 : u 3 = .pointer (some ⟨g, 0, none⟩) := hf 3 (by simp)
      simp only [fl, z4, z5, z6, z7, ptrBlk] at S ⊢
      simp only [f3]
      refine does_load1 25 (.tmp 7) _ _ rfl (S.taken.cell (g := g) (Pick.head _ _) rfl) _ Tryd.underlying25 rfl ?_; exact ⟨rfl, S.taken⟩
    · clear hi
      rw [if_neg (by decide)]; intro r0
      refine step_of rfl rfl rfl ?_
      intro u G w hf S
      simp only [fl, z4, z5, z6, z7, ptrBlk] at S ⊢
      refine does_load 114 (.tmp 2) g2 rfl _ _ _ (S.get (r := blk g2 _) pk) _ Tryd.underlying114 rfl 36 kR lN ?_; exact ⟨rfl, S⟩
    · clear hi
      rw [if_neg (by decide)]; intro r0
      refine step_of rfl rfl rfl ?_
      intro u G w hf S
      have f5 : u 5 = .agg (tokL t).toArray := hf 5 (by simp)
      simp only [fl, z4, z5, z6, z7, ptrBlk] at S ⊢
      simp only [f5]
      refine does_fn (args := [(.agg (tokL t).toArray)]) Tryd.func35 kR kR (P1.out w) rfl ?_
      rintro e w1 ⟨y, rfl, T⟩
      exact ⟨_, rfl, ⟨_, rfl⟩, S.call T⟩
    · clear hi
      rw [if_neg (by decide)]; intro r0
      refine step_of rfl rfl rfl ?_
      intro u G w hf S
      have f4 : u 4 = vv := hf 4 (by simp)
      have f6 : ∃ y, u 6 = y := hf 6 (by simp)
      obtain ⟨y10, f6⟩ := f6
      simp only [fl, z4, z5, z6, z7, ptrBlk] at S ⊢
      simp only [f4, f6] at S ⊢
      try simp only [ptrBlk] at S
      refine does_append8 (.tmp 8) (.tmp 10) vv xs rfl (S.pick (r := row8 vv xs) pk) y10 E rfl (S.bs (xs := E) pk) H1.out ?_; intro v' w' S; exact ⟨trivial, (S.drop (Pick.tail (Pick.tail (Pick.head _ _)))).perm (List.Perm.swap _ _ _)⟩
    · rw [if_neg (by decide)]; intro r0; exact oP [0]
    · rw [if_neg (by decide)]; intro r0; exact oP [8]
    · clear hi
      rw [if_neg (by decide)]; intro r0
      refine step_of rfl rfl rfl ?_
      intro u G w hf S
      have f6 : ∃ y, u 6 = y := hf 6 (by simp)
      obtain ⟨y10, f6⟩ := f6
      have f9 : u 9 = .pointer (some ⟨g, 0, none⟩) := hf 9 (by simp)
      have m7 : mask [0, 1, 2, 3, 4, 5, 6, 7, 8, 9] u 7 = u 7 := rfl
      simp only [fl, z4, z5, z6, z7, m7, ptrBlk] at S ⊢
      simp only [m7, f6, f9] at S ⊢
      try simp only [ptrBlk] at S
      refine does_store1 S 25 (.tmp 13) (.tmp 11) 0 (u 7) rfl rfl kR (one_sl (S.bs (xs := xs ++ E) pk)).2 (one_sl (S.bs (xs := xs ++ E) pk)).1 Nat.one_pos ?_; intro w1 S; exact ⟨trivial, S⟩
  case fin1 =>
    intro u w hf S
    have f6 : ∃ y, u 6 = y := hf 6 (by simp)
    obtain ⟨y10, f6⟩ := f6
    have m10_7 : mask [0, 1, 2, 3, 4, 5, 6, 7, 8, 9] u 7 = u 7 := rfl
    have hvA := allV hf
    simp only [AllV, RSpec.valAt, sv, Nat.zero_add, Nat.reduceAdd, m10_7] at hvA
    simp only [fl, z4, z5, z6, z7, m10_7, ptrBlk] at S
    clear hf
    simp only [List.length_cons, List.length_nil, Nat.zero_add, Nat.reduceAdd, List.drop_succ_cons, List.drop_zero, f6, hvA]
    try simp only [f6, hvA, ptrBlk] at S
    clear f6 hvA m10_7
    generalize u 7 = v11 at S ⊢
    go_wp2_with (first | fail)
    go_end0
    exact ⟨rfl, _, (S.drop (Pick.tail (Pick.tail (Pick.head _ _)))).drop (Pick.tail (Pick.tail (Pick.head _ _)))⟩
theorem Has.nil8 {w0 w : World} {l : List Res} (S : Has w0 w l) : Has w0 w (row8 (.slice none 0 0) [] :: l) := S.nil_row 5 1
def encRE (r : Rq) : List UInt8 := if rqV r then encR r else []
set_option maxRecDepth 100000 in
set_option maxHeartbeats 8000000 in
theorem encodeRequest_s (r : Rq) (w0 : World) : Calls Tryd.prog 32 #[.agg (rqL r).toArray] w0 (MadeE w0 (encRE r) (rqE r)) := by
  have S := Has.start w0
  have hck := fun w => checkRequest_s r w
  cases hv : rqV r
  · have hE : rqE r = 8 := by unfold rqE; rw [hv]; rfl
    have hX : encRE r = [] := by unfold encRE; rw [hv]; rfl
    rw [hE, hX]
    rw [hE] at hck
    have HCK := Lib.hid hck; clear hck
    clear hv hE hX
    go_enter Tryd.func32, Tryd.ntmps32
    go_wp2_with (first | ((with_reducible refine iD 1 (.box 69 (.tmp 0)) ?_); refine step_boxA (dst := some 1) S 69 (.tmp 0) _ rfl rfl ?_; clear S; intro g1 w S) | ((with_reducible refine iO _ (.load 69 _) ?_); first | (refine step_load S 69 _ _ rfl _ _ _ pk _ Tryd.underlying69 rfl 40 kR lN rfl ?_) | (refine step_loadO 69 _ _ rfl _ _ _ (S.old_heap (Hid.out (by assumption))) _ Tryd.underlying69 rfl 40 kR lN rfl ?_) | (refine step_loadR 69 _ _ _ rfl _ (S.old_range hy) _ Tryd.underlying69 rfl 40 kR lN _ rfl rfl ?_)) | (go_at_call 36; (with_reducible refine (HCK.out _).mono ?_); rintro e w1 ⟨rfl, T⟩; replace S := S.call T; clear T; (try simp only [z4, z5] at S)) | fail)
    go_ret2
    exact ⟨_, rfl, S.nil.nil_row 5 1⟩
  · have hE : rqE r = 0 := by unfold rqE; rw [hv]; rfl
    have hX : encRE r = frm ([] ++ numB r.kind.toNat 1 ++ encT r.tok ++ bdyB (bdyR r)) := by
      unfold encRE
      rw [hv, if_pos rfl]
      unfold encR inR
      rw [numB_one, List.nil_append]
      congr 2
      unfold rqB bdyR
      split
      · simp [bdyB, numB_one]
      · split
        · rfl
        · split
          · rfl
          · rfl
    rw [hE, hX]
    rw [hE] at hck
    have hrb := fun w => requestBody_s r w
    have hk := r.kind.toNat_lt
    have hbl : (bdyB (bdyR r)).length ≤ 4 := by
      cases bdyR r <;> simp [bdyB, numB_length]
    obtain ⟨B, hB⟩ : ∃ B, B = bdyR r := ⟨_, rfl⟩
    rw [← hB] at hrb hbl ⊢
    have p1 := fun g v w F S => wuint_i (r.kind.toNat : Int) r.kind.toNat rfl 1 1 rfl g v [] w0 w F S (by omega) (by decide) (by decide)
    have l1 : (([] : List UInt8) ++ numB r.kind.toNat 1).length = 1 := by rw [List.nil_append, numB_length]
    obtain ⟨X1, hX1⟩ : ∃ X, X = [] ++ numB r.kind.toNat 1 := ⟨_, rfl⟩
    rw [← hX1] at p1 l1 ⊢
    have p2 := fun g v w F S => ticketWrite_s r.tok g v X1 w0 w F S (by omega)
    have l2 : (X1 ++ encT r.tok).length = 47 := by rw [List.length_append, encT_length]; omega
    obtain ⟨X2, hX2⟩ : ∃ X, X = X1 ++ encT r.tok := ⟨_, rfl⟩
    rw [← hX2] at p2 l2 ⊢
    have p3 := fun g v w F S => bdyWrite_s B g v X2 w0 w F S (by omega)
    have l3 : (X2 ++ bdyB B).length ≤ 51 := by rw [List.length_append]; omega
    obtain ⟨X3, hX3⟩ : ∃ X, X = X2 ++ bdyB B := ⟨_, rfl⟩
    rw [← hX3] at p3 l3 ⊢
    have p4 := fun g v w h1 h2 => framed_s g v X3 w h1 h2 (by omega)
    have HCK := Lib.hid hck; have HRB := Lib.hid hrb; have P1 := Lib.hid p1; have P2 := Lib.hid p2; have P3 := Lib.hid p3; have P4 := Lib.hid p4; clear hck hrb p1 p2 p3 p4
    clear hv hE hX hX1 hX2 hX3 l1 l2 l3 hbl hB
    go_enter Tryd.func32, Tryd.ntmps32
    go_wp2_with (first | (go_at_call 48; (with_reducible refine (P1.out g12 (.slice none 0 0) _ _ (S.nil8.pick2 (r := wrt g12 (.slice none 0 0)) (s := row8 (.slice none 0 0) []) pk pk)).mono ?_); rintro e w1 ⟨rfl, v1, S1⟩; clear S; have S := S1; clear S1) | (go_at_call 56; (with_reducible refine (P2.out g12 v1 _ _ S).mono ?_); rintro e w1 ⟨rfl, v2, S1⟩; clear S; have S := S1; clear S1) | ((with_reducible refine iD 25 (.call _) ?_); obtain ⟨f, rv, hr, hc⟩ := P3.out g12 v2 _ _ S; refine step_inv (.tmp 23) "dunnage/wire.write" [.tmp 24] _ _ [.pointer (some ⟨g12, 0, none⟩)] f _ rfl rfl hr hc gw ?_; rintro e w1 ⟨rfl, v3, S1⟩; refine .inl ⟨_, rfl, ?_⟩; clear S hr hc; have S := S1; clear S1) | ((with_reducible refine iD 1 (.box 69 (.tmp 0)) ?_); refine step_boxA (dst := some 1) S 69 (.tmp 0) _ rfl rfl ?_; clear S; intro g1 w S) | ((with_reducible refine iO _ (.load 69 _) ?_); first | (refine step_load S 69 _ _ rfl _ _ _ pk _ Tryd.underlying69 rfl 40 kR lN rfl ?_) | (refine step_loadO 69 _ _ rfl _ _ _ (S.old_heap (Hid.out (by assumption))) _ Tryd.underlying69 rfl 40 kR lN rfl ?_) | (refine step_loadR 69 _ _ _ rfl _ (S.old_range hy) _ Tryd.underlying69 rfl 40 kR lN _ rfl rfl ?_)) | (go_at_call 36; (with_reducible refine (HCK.out _).mono ?_); rintro e w1 ⟨rfl, T⟩; replace S := S.call T; clear T; (try simp only [z4, z5] at S)) | ((with_reducible refine iD 11 (.build 104 _) ?_); refine step_buildZ 104 (.agg (#[.slice none 0 0])) (fun w => by kernel_rfl) rfl ?_) | ((with_reducible refine iD 12 (.box 104 (.tmp 11)) ?_); refine step_boxA (dst := some 12) S 104 (.tmp 11) _ rfl rfl ?_; clear S; intro g12 w S) | ((with_reducible refine iO _ (.load 5 _) ?_); refine step_load1 5 _ _ _ rfl (cL) _ Tryd.underlying5 rfl rfl ?_) | ((with_reducible refine iO _ (.load 67 _) ?_); first | (refine step_loadR 67 _ _ _ rfl _ (S.old_range hy) _ Tryd.underlying67 rfl 36 kR lN _ rfl rfl ?_) | (refine step_loadP S 67 _ _ _ rfl _ _ _ pk 36 _ pT lN _ Tryd.underlying67 rfl kR rfl ?_)) | (go_at_call 57; (with_reducible refine (HRB.out _).mono ?_); rintro e w1 ⟨rfl, T⟩; replace S := S.call T; clear T; (try simp only [z4, z5] at S)) | (go_at_call 58; (with_reducible refine (P4.out g12 v3 _ (S.cell (g := g12) pk rfl) (S.bs (xs := X3) pk)).mono ?_); rintro e w1 ⟨v4, rfl, T⟩; replace S := S.call T; clear T; (try simp only [z4, z5] at S)) | fail)
    go_ret2
    exact ⟨_, rfl, S.sub (by repeat (first | exact Sub.nil _ | refine Sub.cons pk ?_))⟩
end Go.Proofs.YtfhkmmagpnojmaaDoor

/- Function values that a call makes: closures, structs that hold them, slices of such structs, and the call of one. No condition. -/
namespace Go.Proofs.YtfhkmmagpnojmaaDoor
open Go.RowKit

section
variable {P : Program} {ops : Array Oper} {rest : List Oper} {a : Act} {w0 w : World} {l F : List Res} {Q : Exit → Act → World → Prop} {dst : Option Tmp} {ty : TypeId} {pos : String} {after : Array Edge} {gd : Option (Nat × Bool)} {Post : Value → World → Prop}

/-- A closure is made. -/
theorem step_makeF (f : FuncId) (xs : List Operand) (vs : List Value) (hx : xs.map a.eval = vs)
    (hw : Region.wanted ⟨dst, .makeFunc (.func f) #[] xs.toArray, ty, pos, after, gd⟩ (yielded ops a.tmps) = true)
    (h : wpList P ops Q rest (a.put dst (.func (.func f) #[] vs.toArray)) w) : wpList P ops Q (⟨dst, .makeFunc (.func f) #[] xs.toArray, ty, pos, after, gd⟩ :: rest) a w := by
  subst hx
  refine step_val (v := .func (.func f) #[] (xs.map a.eval).toArray) hw ?_ h
  simp [execOp, Instr.makeFunc, Result.andThen]
end

end Go.Proofs.YtfhkmmagpnojmaaDoor

/- The request of some bytes: what the program's DecodeRequest returns; its closure. No condition but the reach. -/
namespace Go.Proofs.YtfhkmmagpnojmaaDoor
open Go.RowKit

/-- The body that the kind of some bytes asks for; what is read as far as there are bytes. -/
def bdK (b : List UInt8) : Bdy := bdyR ⟨b.getD 2 0, decT ((b.drop 3).take 46), 0, 0, 0⟩
def rqX (b : List UInt8) : Rq := ofB (b.getD 2 0) (decT ((b.drop 3).take 46)) (rdOf b 49 (bdK b))
theorem bdK_Z (b : List UInt8) : bdyZ (bdK b) = bsz (b.getD 2 0) := by
  unfold bdK bdyR bsz
  dsimp only
  generalize b.getD 2 0 = k
  rcases kcase k with rfl | rfl | rfl | rfl | rfl | rfl | ⟨h1, h2, h3, h4, h5, h6⟩
  case inr.inr.inr.inr.inr.inr =>
    rw [if_neg (by rintro rfl; exact h1 rfl), if_neg (by rintro (rfl | rfl); exact h2 rfl; exact h3 rfl), if_neg (by rintro (rfl | rfl); exact h5 rfl; exact h6 rfl), if_neg (by rintro (rfl | rfl | rfl); exact h1 rfl; exact h2 rfl; exact h3 rfl), if_neg (by rintro (rfl | rfl); exact h5 rfl; exact h6 rfl)]
    rfl
  all_goals rfl
theorem getD_at (b : List UInt8) (i : Nat) : UInt8.ofNat (atB b i 1) = b.getD i 0 := by
  unfold atB
  by_cases h : i + 1 ≤ b.length
  · rw [if_pos h]
    have hi : i < b.length := by omega
    have e : (b.drop i).take 1 = [b[i]] := by rw [← List.getElem_cons_drop hi]; rfl
    rw [e]
    simp [val, List.getD, hi]
  · rw [if_neg h]
    have hi : ¬ i < b.length := by omega
    simp [List.getD, hi]
theorem rqX_rqP (b : List UInt8) (h : b.length = 49 + bsz (b.getD 2 0)) : rqX b = rqP b := by
  have hle := bsz_le (b.getD 2 0)
  have hm : (b.drop 49).length = bsz (b.getD 2 0) := by rw [List.length_drop]; omega
  have hat : ∀ n, bsz (b.getD 2 0) = n → atB b 49 n = val (b.drop 49) := fun n hn => by
    rw [atB_fit b 49 n (by omega), List.take_of_length_le (by omega)]
  have hg : ∀ i, (b.drop 49).getD i 0 = b.getD (49 + i) 0 := fun i => by simp [List.getD]
  have h0 := getD_at b (49 + 0)
  have h1' := getD_at b (49 + 1)
  unfold rqX rqP bdK bdyR
  rw [hg 0, hg 1, ← h0, ← h1']
  dsimp only
  clear h0 h1' hg hm h hle
  generalize b.getD 2 0 = k at *
  rcases kcase k with rfl | rfl | rfl | rfl | rfl | rfl | ⟨h1, h2, h3, h4, h5, h6⟩
  case inr.inr.inr.inr.inr.inr =>
    rw [if_neg (by rintro rfl; exact h1 rfl), if_neg (by rintro (rfl | rfl); exact h2 rfl; exact h3 rfl), if_neg (by rintro (rfl | rfl); exact h5 rfl; exact h6 rfl), if_neg (by rintro rfl; exact h1 rfl), if_neg (by rintro rfl; exact h1 rfl), if_neg (by rintro (rfl | rfl | rfl | rfl); exact h2 rfl; exact h3 rfl; exact h5 rfl; exact h6 rfl)]
    rfl
  · rfl
  · show Rq.mk _ _ 0 0 (UInt32.ofNat (atB b 49 2)) = Rq.mk _ _ 0 0 (UInt32.ofNat (val (b.drop 49)))
    rw [hat 2 rfl]
  · show Rq.mk _ _ 0 0 (UInt32.ofNat (atB b 49 2)) = Rq.mk _ _ 0 0 (UInt32.ofNat (val (b.drop 49)))
    rw [hat 2 rfl]
  · rfl
  · show Rq.mk _ _ 0 0 (UInt32.ofNat (atB b 49 4)) = Rq.mk _ _ 0 0 (UInt32.ofNat (val (b.drop 49)))
    rw [hat 4 rfl]
  · show Rq.mk _ _ 0 0 (UInt32.ofNat (atB b 49 4)) = Rq.mk _ _ 0 0 (UInt32.ofNat (val (b.drop 49)))
    rw [hat 4 rfl]
theorem rbytes_i (si : Int) (s : Nat) (hsi : si = (s : Int)) (g : Nat) (bv : Value) (b : List UInt8) (p : Nat) (w0 w1 : World) (F : List Res) (S : Has w0 w1 (rdr g bv p :: F)) (hb : Bs w0 bv b) (h8 : s ≤ 64) (hp : p ≤ b.length) (hl : b.length ≤ 140737488355328) :
    Calls Tryd.prog 63 #[.pointer (some ⟨g, 0, none⟩), .int .i64 si] w1 fun e w' =>
      (p + s ≤ b.length ∧ ∃ v, e = .returned v ∧ Has w0 w' (rdr g bv (p + s) :: row8 v ((b.drop p).take s) :: F)) ∨ (b.length < p + s ∧ e = .panicked [erl] ∧ Has w0 w' (rdr g bv p :: F)) := by
  subst hsi
  exact rbytes_s g bv b p s w0 w1 F S hb h8 hp hl
theorem rqL_setTok (k : UInt8) (t u : Tok) (p d : UInt8) (n : UInt32) : ((rqL ⟨k, t, p, d, n⟩).toArray.toList.take 1 ++ (tokL u).toArray.toList ++ (rqL ⟨k, t, p, d, n⟩).toArray.toList.drop (1 + 36)).toArray = (rqL ⟨k, u, p, d, n⟩).toArray := by
  have e1 : (rqL ⟨k, t, p, d, n⟩).toArray.toList.take 1 = [Value.int .u8 (k.toNat : Int)] := rfl
  have e2 : (rqL ⟨k, t, p, d, n⟩).toArray.toList.drop (1 + 36) = [Value.int .u8 (p.toNat : Int), .int .u8 (d.toNat : Int), .int .u32 (n.toNat : Int)] := by
    show ([Value.int .u8 (k.toNat : Int)] ++ tokL t ++ [Value.int .u8 (p.toNat : Int), .int .u8 (d.toNat : Int), .int .u32 (n.toNat : Int)]).drop (1 + 36) = _
    exact List.drop_left' (by simp [tokL_length])
  rw [e1, e2]
  rfl
theorem Has.front {w0 w : World} {l G : List Res} (S : Has w0 w (l ++ G)) : Has w0 w l :=
  ⟨S.below, fun r hr => S.holds r (List.mem_append_left _ hr), fun r hr => S.base r (List.mem_append_left _ hr), (List.pairwise_append.1 S.apart).1⟩
/-- What the closure leaves. -/
def ReadR (w0 : World) (g go : Nat) (bv : Value) (b : List UInt8) (F : List Res) (e : Ending) (w' : World) : Prop :=
  (49 + bsz (b.getD 2 0) ≤ b.length ∧ e = .returned (.tuple #[]) ∧ Has w0 w' (rdr g bv (49 + bsz (b.getD 2 0)) :: blk go (.cells (rqL (rqX b)).toArray 69 (0, 0)) :: F)) ∨
  (b.length < 49 + bsz (b.getD 2 0) ∧ e = .panicked [erl] ∧ ∃ q cs, Has w0 w' (rdr g bv q :: blk go (.cells cs 69 (0, 0)) :: F))
set_option maxRecDepth 100000 in
set_option maxHeartbeats 8000000 in
theorem decClos_s (g go : Nat) (bv : Value) (b : List UInt8) (w0 w1 : World) (F : List Res) (S : Has w0 w1 (rdr g bv 2 :: blk go (.cells (rqL ⟨0, tokZ, 0, 0, 0⟩).toArray 69 (0, 0)) :: F)) (hb : Bs w0 bv b) (h3 : 3 ≤ b.length) (hl : b.length ≤ 140737488355328) :
    Calls Tryd.prog 60 #[.pointer (some ⟨g, 0, none⟩), .pointer (some ⟨go, 0, none⟩)] w1 (ReadR w0 g go bv b F) := by
  have p1 := fun w F S => ruint_i 1 1 rfl g bv b 2 w0 w F S hb (by decide) (by decide) (by omega) hl
  have p2 := fun w F S => rbytes_i 46 46 rfl g bv b 3 w0 w F S hb (by decide) (by omega) hl
  have e1 : (atB b 2 1 : Int) % 256 = ((b.getD 2 0).toNat : Int) := by rw [← IntKind.wrap_u8, wrap8 _ (atB_lt b 2 1), getD_at]
  obtain ⟨k, hk⟩ : ∃ k, k = b.getD 2 0 := ⟨_, rfl⟩
  obtain ⟨T46, hT⟩ : ∃ T, T = (b.drop 3).take 46 := ⟨_, rfl⟩
  have p3 := fun v w h => dec_s v T46 w h
  have hX : rqX b = ofB k (decT T46) (rdOf b 49 (bdK b)) := by unfold rqX; rw [← hk, ← hT]
  have hZ := bdK_Z b
  have hKd : bdK b = bdyR ⟨k, decT T46, 0, 0, 0⟩ := by unfold bdK; rw [← hk, ← hT]
  rw [← hk] at e1 hZ
  rw [← hT] at p2
  obtain ⟨tok, htok⟩ : ∃ t, t = decT T46 := ⟨_, rfl⟩
  rw [← htok] at p3 hX hKd
  have p4 := fun w => requestBody_s ⟨k, tok, 0, 0, 0⟩ w
  rw [← hKd] at p4
  obtain ⟨B, hB⟩ : ∃ B, B = bdK b := ⟨_, rfl⟩
  rw [← hB] at p4 hX hZ
  have p5 := fun w F S h => bdyRead_s B g bv b 49 w0 w F S hb h hl
  have p6 := fun w => requestOf_s k tok (rdOf b 49 B) w
  rw [← hX] at p6
  obtain ⟨X, hXe⟩ : ∃ X, X = rqX b := ⟨_, rfl⟩
  rw [← hXe] at p6
  unfold ReadR
  rw [← hk, ← hXe, ← hZ]
  have P1 := Lib.hid p1; have P2 := Lib.hid p2; have P3 := Lib.hid p3; have P4 := Lib.hid p4; have P5 := Lib.hid p5; have P6 := Lib.hid p6; have E1 := Lib.hid e1; clear p1 p2 p3 p4 p5 p6 e1
  clear hk hT hX hZ hKd htok hB hXe hb
  go_enter Tryd.func60, Tryd.ntmps60
  go_wp2_with (first | (go_at_call 61; (with_reducible refine (P1.out _ _ S).mono ?_); rintro e w1 (⟨hf, rfl, S1⟩ | ⟨hf, rfl, S1⟩); rotate_left; exact (by omega : False).elim; clear S; have S := S1; clear S1) | ((with_reducible refine iO none (.store 5 (.tmp 6) (.tmp 5)) ?_); refine step_store1 S 5 (.tmp 6) (.tmp 5) go 0 (by8 k) rfl (show Value.int .u8 _ = Value.int .u8 _ by rw [E1.out]) _ _ pk kR rfl rfl (by rw [rqL_size]; decide) gw ?_; clear S; intro w S; rw [rqL_set0] at S) | (go_at_call 63; (with_reducible refine (P2.out _ _ (S.pick (r := rdr g bv 3) pk)).mono ?_); rintro e w1 (⟨hf2, v9, rfl, S1⟩ | ⟨hf2, rfl, S1⟩); rotate_left; exact ⟨rfl, .inr ⟨by omega, rfl, _, _, S1⟩⟩; clear S; have S := S1; clear S1) | ((with_reducible refine iO none (.store 67 (.tmp 13) (.tmp 11)) ?_); refine step_storeP S 67 (.tmp 13) (.tmp 11) go 1 (tokL tok).toArray rfl rfl _ _ pk 36 kR (tokL_size _) (by rw [rqL_size]; decide) (tokL_one _) _ (rqL_setTok ..) gw ?_; clear S; intro w S) | (go_at_call 62; (with_reducible refine (P3.out _ _ (S.bs (xs := T46) pk)).mono ?_); rintro e w1 ⟨rfl, T⟩; replace S := S.call T; clear T; (try simp only [z4, z5] at S)) | fail)
  replace S : Has w0 w (blk go (.cells (rqL ⟨k, tok, 0, 0, 0⟩).toArray 69 (0, 0)) :: rdr g bv 49 :: row8 v9 T46 :: F) := S
  refine wp_relyBW (Bad := fun c w' => b.length < 49 + bdyZ B ∧ c = [erl] ∧ ∃ q cs, Has w0 w' (rdr g bv q :: blk go (.cells cs 69 (0, 0)) :: F)) (e1 := noRes) 7 ?hbad1 (S.pick (r := rdr g bv 49) pk) [sv [] (.pointer (some ⟨go, 0, none⟩)), sv [0] (by8 k), sv [] (.pointer (some ⟨go, 1, none⟩)), sv [2] (.agg (tokL tok).toArray), sv [] (.agg (rqL ⟨k, tok, 0, 0, 0⟩).toArray), sv [4] (bdyV B), sv [] ((.pointer (some ⟨g, 0, none⟩))), ⟨[4, 5, 6], [], [], fun _ v => 49 + bdyZ B ≤ b.length ∧ v = bdyV (rdOf b 49 B), fun _ v => [rdr g bv (49 + bdyZ B)]⟩, sv [0, 1, 2, 3, 4, 5, 6, 7] (.agg (rqL X).toArray)] ?A1 ?hA1 kR kR kR [0, 1, 2, 3, 4, 5, 6, 7, 8] kR (of_decide_eq_true rfl) ?hok1 ?fin1
  case hA1 => intro u; simp only [putAll, List.length_cons, List.length_nil, Nat.zero_add, Nat.reduceAdd, dstAt, List.getElem?_toArray, List.getElem?_cons_zero, List.getElem?_cons_succ, Option.bind_some, Act.put, List.setIfInBounds_toArray, List.set_cons_zero, List.set_cons_succ]; rfl
  case hbad1 => intro c a2 w2 hd hb; obtain ⟨hlt, rfl, q, cs, hS⟩ := hb; exact ⟨hd, .inr ⟨hlt, rfl, q, cs, hS⟩⟩
  case hok1 =>
    intro i hi
    obtain rfl | rfl | rfl | rfl | rfl | rfl | rfl | rfl | rfl : i = 0 ∨ i = 1 ∨ i = 2 ∨ i = 3 ∨ i = 4 ∨ i = 5 ∨ i = 6 ∨ i = 7 ∨ i = 8 := by simp only [List.length_cons, List.length_nil, Nat.zero_add, Nat.reduceAdd] at hi; omega
    · rw [if_neg (by decide)]; intro r0; exact oP []
    · clear hi
      rw [if_neg (by decide)]; intro r0
      refine step_ofB rfl rfl rfl ?_
      intro u G w hf S
      have f0 : u 0 = .pointer (some ⟨go, 0, none⟩) := hf 0 (by simp)
      simp only [fl, z4, z5, z6, z7, ptrBlk] at S ⊢
      simp only [f0]
      refine does.bad ?_
      refine does_load1 5 (.tmp 14) _ _ rfl (S.cell (g := go) pk co) _ Tryd.underlying5 rfl ?_; exact ⟨rfl, S⟩
    · rw [if_neg (by decide)]; intro r0; exact oP []
    · clear hi
      rw [if_neg (by decide)]; intro r0
      refine step_ofB rfl rfl rfl ?_
      intro u G w hf S
      have f2 : u 2 = .pointer (some ⟨go, 1, none⟩) := hf 2 (by simp)
      simp only [fl, z4, z5, z6, z7, ptrBlk] at S ⊢
      simp only [f2]
      refine does.bad ?_
      refine does_loadP S 67 (.tmp 16) _ _ rfl _ _ _ pk 36 _ pT lN _ Tryd.underlying67 rfl kR ?_; exact ⟨rfl, S⟩
    · clear hi
      rw [if_neg (by decide)]; intro r0
      refine step_ofB rfl rfl rfl ?_
      intro u G w hf S
      simp only [fl, z4, z5, z6, z7, ptrBlk] at S ⊢
      refine does.bad ?_
      refine does_load 69 (.tmp 1) go rfl _ _ _ (S.get (r := blk go _) pk) _ Tryd.underlying69 rfl 40 kR lN ?_; exact ⟨rfl, S⟩
    · clear hi
      rw [if_neg (by decide)]; intro r0
      refine step_ofB rfl rfl rfl ?_
      intro u G w hf S
      have f4 : u 4 = .agg (rqL ⟨k, tok, 0, 0, 0⟩).toArray := hf 4 (by simp)
      simp only [fl, z4, z5, z6, z7, ptrBlk] at S ⊢
      simp only [f4]
      refine does.bad ?_
      refine does_fn (args := [(.agg (rqL ⟨k, tok, 0, 0, 0⟩).toArray)]) Tryd.func57 kR kR (P4.out w) rfl ?_
      rintro e w1 ⟨rfl, T⟩
      exact ⟨_, rfl, rfl, S.call T⟩
    · rw [if_neg (by decide)]; intro r0; exact oP []
    · clear hi
      rw [if_pos rfl]
      refine step_ofB rfl rfl rfl ?_
      intro u G w hf S
      have f5 : u 5 = bdyV B := hf 5 (by simp)
      have f6 : u 6 = (.pointer (some ⟨g, 0, none⟩)) := hf 6 (by simp)
      simp only [fl, z4, z5, z6, z7, ptrBlk] at S ⊢
      simp only [f5, f6]
      obtain ⟨f, rv, hr, hc⟩ := P5.out w _ S hf2; refine doesB_inv (.tmp 19) "dunnage/wire.read" [.tmp 20] _ _ [.pointer (some ⟨g, 0, none⟩)] f _ rfl rfl hr hc ?_; rintro e w1 (⟨h1, rfl, S1⟩ | ⟨h1, rfl, q, S1⟩)
      · exact .inl ⟨_, rfl, ⟨h1, rfl⟩, S1.taken1⟩
      · exact .inr ⟨_, rfl, h1, rfl, q, _, (Has.front (l := rdr g bv q :: blk go _ :: row8 v9 T46 :: F) (G := G) S1).drop (Pick.tail (Pick.tail (Pick.head _ _)))⟩
    · clear hi
      rw [if_neg (by decide)]; intro r0
      refine step_ofB rfl rfl rfl ?_
      intro u G w hf S
      have f1 : u 1 = by8 k := hf 1 (by simp)
      have f3 : u 3 = .agg (tokL tok).toArray := hf 3 (by simp)
      have f7 : 49 + bdyZ B ≤ b.length ∧ u 7 = bdyV (rdOf b 49 B) := hf 7 (by simp)
      obtain ⟨q7, f7⟩ := f7
      simp only [fl, z4, z5, z6, z7, ptrBlk] at S ⊢
      simp only [f1, f3, f7]
      refine does.bad ?_
      refine does_fn (args := [(by8 k), (.agg (tokL tok).toArray), (bdyV (rdOf b 49 B))]) Tryd.func64 kR kR (P6.out w) rfl ?_
      rintro e w1 ⟨rfl, T⟩
      exact ⟨_, rfl, rfl, S.call T⟩
  case fin1 =>
    intro u w hf S
    have f7 : 49 + bdyZ B ≤ b.length ∧ u 7 = bdyV (rdOf b 49 B) := hf 7 (by simp)
    obtain ⟨q7, f7⟩ := f7
    have hvA := allV hf
    simp only [AllV, RSpec.valAt, sv, Nat.zero_add, Nat.reduceAdd] at hvA
    simp only [fl, z4, z5, z6, z7, ptrBlk] at S
    clear hf
    simp only [List.length_cons, List.length_nil, Nat.zero_add, Nat.reduceAdd, List.drop_succ_cons, List.drop_zero, f7, hvA]
    try simp only [f7, hvA, ptrBlk] at S
    clear f7 hvA
    go_wp2_with (first | ((with_reducible refine iO none (.store 69 (.tmp 1) (.tmp 22)) ?_); refine step_store S 69 (.tmp 1) (.tmp 22) _ _ rfl rfl _ _ pk 40 kR lN lN on1 rfl ?_; clear S; intro w S) | fail)
    go_end0
    exact .inl ⟨q7, rfl, ((S.drop (Pick.tail (Pick.tail (Pick.head _ _)))).drop (Pick.tail (Pick.tail (Pick.head _ _)))).perm (List.Perm.swap _ _ _)⟩
end Go.Proofs.YtfhkmmagpnojmaaDoor

/- Records in memory of one's own: parts, append, copies, equality. No condition. -/
namespace Go.Proofs.YtfhkmmagpnojmaaDoor
open Go.RowKit

section
variable {P : Program} {ops : Array Oper} {rest : List Oper} {a : Act} {w0 w : World} {l F : List Res} {Q : Exit → Act → World → Prop} {dst : Option Tmp} {ty : TypeId} {pos : String} {after : Array Edge} {gd : Option (Nat × Bool)} {Post : Value → World → Prop}

/-- append onto a slice that has no room, of somebody else. -/
theorem run_append_full (w : World) (t ty e : TypeId) (z : Value) (size bytes : Nat) (ht : P.underlying t = some (.slice e)) (hinfo : (P.info? e).map (fun i => (i.zero, i.size, i.bytes)) = some (some z, size, bytes)) (hzs : z.cells.size = size) (hsz : 0 < size)
    (ao : Option Addr) (n : Nat) (xs : List Value) (h : Sl w size (.slice ao n n) n xs) (src : Value) (m : Nat) (news : List Value) (hsrc : Sl w size src m news) (hm : 0 < m) (h1 : ∀ u ∈ news, u.oneCell' = true)
    (h63 : n + m ≤ maxLen) (hbytes : (n + m) * bytes ≤ 140737488355328) :
    ∃ v' w', (Builtin.append_ #[t, t] ty #[.slice ao n n, src]).run P w = .ok v' w' ∧ w'.ownsRow w.heap.size e size v' (n + m) (xs ++ news) ∧ Below w.heap.size w w' := by
  obtain ⟨i, hi, hz, hsize, hby⟩ := info_parts hinfo
  obtain ⟨a1, c1, rfl, hmc, hcm⟩ := hsrc.shape
  cases ao with
  | none =>
    obtain ⟨rfl, _, rfl⟩ := h.empty
    obtain ⟨v', w', hr, ho, hg⟩ := run_append_grew (P := P) w w.heap.size t ty e i z size bytes ht hi hz hsize hby hzs hsz (.slice none 0 0) 0 [] (World.ownsRow_nil w _ e size) _ m news hsrc h1 h63 hbytes (Nat.le_refl _)
    exact ⟨v', w', hr, ho, hg.below (Nat.le_refl _) (fun k hk => by cases hk)⟩
  | some b =>
    cases a1 with
    | none =>
      obtain ⟨rfl, _, _⟩ := hsrc.empty
      omega
    | some ad =>
      obtain ⟨v', w', hr, ho, hg⟩ := run_append_arg_grows (P := P) w t ty e i z size bytes ht hi hz hsize hby hzs hsz b n n xs h.1 h.cellsAt ad m c1 news hsrc.1 hsrc.cellsAt (by omega) h63 hbytes
      exact ⟨v', w', hr, ho, (Below.refl _ w).grown hg (Nat.le_refl _) (fun k hk => by cases hk)⟩
theorem does_appendX (S : Has w0 w l) (s x : Operand) (t : TypeId) (e : TypeId) (z : Value) (size bytes : Nat) (ht : P.underlying t = some (.slice e)) (hinfo : (P.info? e).map (fun i => (i.zero, i.size, i.bytes)) = some (some z, size, bytes)) (hzs : z.cells.size = size) (hsz : 0 < size)
    (ao : Option Addr) (n : Nat) (xs : List Value) (hs : a.eval s = .slice ao n n) (hv : Sl w size (.slice ao n n) n xs) (src : Value) (m : Nat) (news : List Value) (hx : a.eval x = src) (hsrc : Sl w size src m news) (hm : 0 < m) (h1 : ∀ u ∈ news, u.oneCell' = true)
    (h63 : n + m ≤ maxLen) (hbytes : (n + m) * bytes ≤ 140737488355328)
    (h : ∀ v' w', Has w0 w' (row v' e size (n + m) (xs ++ news) :: l) → Post v' w') :
    does P a.eval ⟨dst, .call { callee := .builtin .append, args := #[s, x], argTypes := #[t, t] }, ty, pos, after, gd⟩ w Post := by
  obtain ⟨v', w', hr, ho, hb⟩ := run_append_full (P := P) w t ty e z size bytes ht hinfo hzs hsz ao n xs hv src m news hsrc hm h1 h63 hbytes
  refine does_val (v := v') (w' := w') ?_ (h v' w' (S.call (Has.of_own hb ho)))
  simp [execOp, resolve, invoke, builtin, hs, hx, hr, Result.andThen]
theorem run_cutLHM (t e s : Nat) (ht : P.underlying t = some (.slice e)) (hs : (P.info? e).map (·.size) = some s) (a0 : Option Addr) (n c : Nat) (k k' k2 : IntKind) (i j m : Int) (lo hi' mx : Nat) (hi : i = (lo : Int)) (hj : j = (hi' : Int)) (hm : m = (mx : Int)) (h1 : lo ≤ hi') (h2 : hi' ≤ mx) (hl : mx ≤ c) (w : World) :
    (Instr.sliceAt t (.slice a0 n c) (some (.int k i)) (some (.int k' j)) (some (.int k2 m))).run P w = .ok (.slice (cutA a0 mx lo s) (hi' - lo) (mx - lo)) w := by
  subst hi
  subst hj
  subst hm
  have he : P.elem t = e := by simp [Program.elem, ht]
  have ht' : P.underlying t = some (.slice (P.elem t)) := by rw [he]; exact ht
  cases hq : P.info? e with
  | none => simp [hq] at hs
  | some i =>
    have h2 : i.size = s := by simpa [hq] using hs
    rw [run_sliceAt_slice (w := w) t _ _ _ _ ht', run_slice_lhm (w := w) t a0 n c ht' k k' k2 lo hi' mx (by omega) (by omega) (by omega) (by omega)]
    simp [sizeOf, typeInfo, he, hq, h2, sliced, cutA]
/-- 's[l:h:m]' -/
theorem step_cutLHM (t e s : Nat) (x y z u : Operand) (a0 : Option Addr) (n c : Nat) (k k' k2 : IntKind) (i j m : Int) (lo hi' mx : Nat) (hx : a.eval x = .slice a0 n c) (hy : a.eval y = .int k i) (hz : a.eval z = .int k' j) (hu : a.eval u = .int k2 m) (hi : i = (lo : Int)) (hj : j = (hi' : Int)) (hm : m = (mx : Int)) (h1 : lo ≤ hi') (h2 : hi' ≤ mx) (hl : mx ≤ c) (ht : P.underlying t = some (.slice e)) (hs : (P.info? e).map (·.size) = some s)
    (hw : Region.wanted ⟨dst, .slice t x (some y) (some z) (some u), ty, pos, after, gd⟩ (yielded ops a.tmps) = true)
    (h : wpList P ops Q rest (a.put dst (.slice (cutA a0 mx lo s) (hi' - lo) (mx - lo))) w) : wpList P ops Q (⟨dst, .slice t x (some y) (some z) (some u), ty, pos, after, gd⟩ :: rest) a w := by
  refine step_val (v := .slice (cutA a0 mx lo s) (hi' - lo) (mx - lo)) hw ?_ h
  have := run_cutLHM (P := P) t e s ht hs a0 n c k k' k2 i j m lo hi' mx hi hj hm h1 h2 hl w
  simp only [execOp, hx, hy, hz, hu, Option.map_some, Option.map_none, Sem.run_bind, this, Result.andThen_ok, Sem.run_pure]
theorem Sl.cutM {w : World} {size n c : Nat} {a : Option Addr} {xs : List Value} (h : Sl w size (.slice a n c) n xs) (lo : Nat) (hn : lo ≤ n) :
    Sl w size (.slice (cutA a n lo size) (n - lo) (n - lo)) (n - lo) (xs.drop (lo * size)) := by
  have hx := h.1
  have hle : lo * size ≤ n * size := Nat.mul_le_mul_right _ hn
  rcases h.2 with ⟨a0, hv, hn0⟩ | ⟨b, off, cap, hv, h1, h2, hc⟩
  · simp only [Value.slice.injEq] at hv
    obtain ⟨rfl, rfl, rfl⟩ := hv
    obtain rfl : lo = 0 := by omega
    refine ⟨by simp [hx], .inl ⟨_, rfl, rfl⟩⟩
  · simp only [Value.slice.injEq] at hv
    obtain ⟨rfl, _, rfl⟩ := hv
    have hl : (xs.drop (lo * size)).length = (n - lo) * size := by rw [List.length_drop, hx, Nat.sub_mul]
    by_cases hcl : n = lo
    · subst hcl
      refine ⟨hl, .inl ⟨_, by rw [Nat.sub_self], by rw [Nat.sub_self]⟩⟩
    · refine ⟨hl, .inr ⟨b, off + lo * size, n - lo, ?_, Nat.le_refl _, by omega, fun i hi => ?_⟩⟩
      · unfold cutA
        rw [if_neg hcl, Option.map_some]
        unfold Addr.add
        split <;> simp_all
      · rw [hl] at hi
        have := hc (lo * size + i) (by rw [hx]; rw [Nat.sub_mul] at hi; omega)
        rw [Nat.add_assoc, this]
        simp
end

theorem drop_flat {α : Type} (f : α → List Value) (s : Nat) (hf : ∀ x, (f x).length = s) : ∀ (xs : List α) (i : Nat), (xs.flatMap f).drop (i * s) = (xs.drop i).flatMap f
  | _, 0 => by simp
  | [], i + 1 => by simp
  | x :: xs, i + 1 => by
    rw [List.flatMap_cons, List.drop_succ_cons, ← drop_flat f s hf xs i, List.drop_append, hf, List.drop_of_length_le (by rw [hf, Nat.add_mul]; omega), List.nil_append]
    congr 1
    rw [Nat.add_mul]
    omega
theorem Rs.cutM {w : World} {n c : Nat} {a : Option Addr} {l : List Rcd} (h : Sl w 35 (.slice a n c) n (l.flatMap rcdL)) (hl : l.length = n) (lo : Nat) (hn : lo ≤ n) :
    Sl w 35 (.slice (cutA a n lo 35) (n - lo) (n - lo)) (n - lo) ((l.drop lo).flatMap rcdL) := by
  have := Sl.cutM h lo hn
  rwa [drop_flat rcdL 35 rcdL_length] at this
abbrev rowRc (v : Value) (l : List Rcd) : Res := row v 50 35 l.length (l.flatMap rcdL)
theorem rcdL_all (l : List Rcd) : ∀ u ∈ l.flatMap rcdL, u.oneCell' = true := by
  intro u hu
  obtain ⟨m, _, hm⟩ := List.mem_flatMap.1 hu
  have := rcdL_one m
  rw [Array.all_eq_true'] at this
  exact this u (by simpa using hm)
set_option maxRecDepth 100000 in
theorem infoRc : (Tryd.prog.info? 50).map (fun i => (i.zero, i.size, i.bytes)) = some (some (.agg (rcdL rcdZ).toArray), 35, 56) := by kernel_rfl
set_option maxRecDepth 100000 in
theorem infoRc2 : (Tryd.prog.info? 50).map (fun i => (i.zero, i.size)) = some (some (.agg (rcdL rcdZ).toArray), 35) := by kernel_rfl
theorem does_appendRc {a : Act} {w0 w : World} {F : List Res} {dst : Option Tmp} {ty : TypeId} {pos : String} {after : Array Edge} {guard : Option (Nat × Bool)} {Post : Value → World → Prop} (s x : Operand)
    (v : Value) (xs : List Rcd) (hs : a.eval s = v) (S : Has w0 w (rowRc v xs :: F)) (src : Value) (ys : List Rcd) (hx : a.eval x = src) (hsrc : Sl w 35 src ys.length (ys.flatMap rcdL)) (hlen : (xs.length + ys.length) * 56 ≤ 140737488355328)
    (h : ∀ v' w', Has w0 w' (rowRc v' (xs ++ ys) :: F) → Post v' w') :
    does Tryd.prog a.eval ⟨dst, .call { callee := .builtin .append, args := #[s, x], argTypes := #[31, 31] }, ty, pos, after, guard⟩ w Post := by
  refine does_append s x 31 50 (.agg (rcdL rcdZ).toArray) 35 56 Tryd.underlying31 infoRc rfl (by decide) v xs.length (xs.flatMap rcdL) hs S src ys.length (ys.flatMap rcdL) hx hsrc (rcdL_all _) (by unfold maxLen; omega) hlen ?_
  intro v' w' S'
  refine h v' w' ?_
  rw [← List.flatMap_append, ← List.length_append] at S'
  exact S'
/-- append of records onto somebody else's records, that have no room. -/
theorem does_appendRcX {a : Act} {w0 w : World} {l : List Res} {dst : Option Tmp} {ty : TypeId} {pos : String} {after : Array Edge} {guard : Option (Nat × Bool)} {Post : Value → World → Prop} (S : Has w0 w l) (s x : Operand)
    (ao : Option Addr) (n : Nat) (xs : List Rcd) (hs : a.eval s = .slice ao n n) (hn : xs.length = n) (hv : Sl w 35 (.slice ao n n) n (xs.flatMap rcdL)) (src : Value) (ys : List Rcd) (hx : a.eval x = src) (hsrc : Sl w 35 src ys.length (ys.flatMap rcdL)) (hy : 0 < ys.length) (hlen : (n + ys.length) * 56 ≤ 140737488355328)
    (h : ∀ v' w', Has w0 w' (rowRc v' (xs ++ ys) :: l) → Post v' w') :
    does Tryd.prog a.eval ⟨dst, .call { callee := .builtin .append, args := #[s, x], argTypes := #[31, 31] }, ty, pos, after, guard⟩ w Post := by
  refine does_appendX S s x 31 50 (.agg (rcdL rcdZ).toArray) 35 56 Tryd.underlying31 infoRc rfl (by decide) ao n (xs.flatMap rcdL) hs hv src ys.length (ys.flatMap rcdL) hx hsrc hy (rcdL_all _) (by unfold maxLen; omega) hlen ?_
  intro v' w' S'
  refine h v' w' ?_
  subst hn
  rw [← List.flatMap_append, ← List.length_append] at S'
  exact S'
set_option maxRecDepth 100000 in
theorem eqRc (a b : Rcd) (w : World) : (Op.equalIn 10000 50 (.agg (rcdL a).toArray) (.agg (rcdL b).toArray)).run Tryd.prog w = .ok (decide (a = b)) w := by
  have hp : Tryd.prog.stoodInHeld 50 = false := by kernel_rfl
  have hf : Tryd.prog.underlying 50 = some (.struct (Tryd.prog.fieldsOf 50)) := by kernel_rfl
  have e : decide (a = b) = (((a.tick.toNat : Int) == (b.tick.toNat : Int)) && (((a.kind.toNat : Int) == (b.kind.toNat : Int)) && ((a.code.v == b.code.v) && (decide (a.link = b.link) && true)))) := by
    rw [beqU8, beqU64, beqI, Bool.eq_iff_iff]
    simp only [decide_eq_true_eq, Bool.and_eq_true, and_true]
    constructor
    · rintro rfl; exact ⟨rfl, rfl, rfl, rfl⟩
    · rintro ⟨h1, h2, h3, h4⟩
      exact Rcd.ext' h1 h2 h3 h4
  have htag : ∀ t : Rcd, (rcdL t).toArray.extract 3 (3 + 32) = (t.link.map by8).toArray := fun t => by
    have : (t.link.map by8).length = 32 := by simp [t.len]
    apply Array.ext'
    simp only [rcdL, Array.toList_extract, List.extract_eq_take_drop]
    show ((t.link.map by8).take 32) = _
    rw [List.take_of_length_le (by omega)]
  rw [e, run_equalIn_agg (P := Tryd.prog) w 9999 50 _ _ hf hp]
  unfold Program.fieldsOf
  rw [Tryd.underlying50]
  exact eqFields_step w 9999 _ _ _ _ rfl _ _ (run_part1 w _ _ _ _ _ Tryd.underlying23 rfl rfl) (run_part1 w _ _ _ _ _ Tryd.underlying23 rfl rfl) _ _ (run_equalIn_int w 9998 _ _ _ _ _ Tryd.underlying23)
    (eqFields_step w 9999 _ _ _ _ rfl _ _ (run_part1 w _ _ _ _ _ Tryd.underlying5 rfl rfl) (run_part1 w _ _ _ _ _ Tryd.underlying5 rfl rfl) _ _ (run_equalIn_int w 9998 _ _ _ _ _ Tryd.underlying5)
    (eqFields_step w 9999 _ _ _ _ rfl _ _ (run_part1 w _ _ _ _ _ Tryd.underlying24 rfl rfl) (run_part1 w _ _ _ _ _ Tryd.underlying24 rfl rfl) _ _ (run_equalIn_int w 9998 _ _ _ _ _ Tryd.underlying24)
    (eqFields_step w 9999 _ _ _ _ rfl _ _ (run_partA w _ _ _ 32 _ _ Tryd.underlying22 rfl kR (htag a)) (run_partA w _ _ _ 32 _ _ Tryd.underlying22 rfl kR (htag b)) _ _
      (run_equalIn_map by8 w 9998 _ _ 32 Tryd.underlying22 kR (isAgg_int Tryd.underlying5) (fun a b w => eqIn_by8 9997 _ Tryd.underlying5 a b w) a.link b.link a.len b.len)
    (eqFields_nil w 9999 _ _))))
theorem neqRc (a b : Rcd) (w : World) : (binOp .neq 50 (.agg (rcdL a).toArray) (.agg (rcdL b).toArray)).run Tryd.prog w = .ok (.bool (!decide (a = b))) w := by
  rw [run_neq_struct, eqRc, Result.andThen_ok]
theorem eqGuardRc : Tryd.prog.eqGuardType Tryd.prog.depth 50 = false := by kernel_rfl
theorem Has.nilRc {w0 w : World} {l : List Res} (S : Has w0 w l) : Has w0 w (rowRc (.slice none 0 0) [] :: l) := S.nil_row _ _
end Go.Proofs.YtfhkmmagpnojmaaDoor

/- A region that draws in which two operations take outer things of their own. No condition. -/
namespace Go.Proofs.YtfhkmmagpnojmaaDoor
open Go.RowKit

structure RInvD (ops : Array Oper) (sp : List RSpec) (w0 : World) (lf : Array Bool → List Res) (a : Act) (listed : Array Bool) (a' : Act) (w : World) (u : Nat → Value) : Prop where
  head : HeadInv .any ops sp.length listed
  vals : ∀ i, i < sp.length → listed.getD i false = true → (spec sp i).valAt u i
  st : Has w0 w (resOf sp u (liveIds sp fun i => listed.getD i false) ++ lf listed)
  defers : a'.defers = a.defers
  size : a'.tmps.size = a.tmps.size
  set : ∀ i, i < sp.length → listed.getD i false = true → ∀ d, dstAt ops i = some d → d < a.tmps.size → a'.tmps[d]? = some (u i)
  same : ∀ t, (∀ i, i < sp.length → listed.getD i false = true → dstAt ops i ≠ some t) → a'.tmps[t]? = a.tmps[t]?
section
variable {P : Program} {Bad : List PanicEntry → World → Prop} {ops : Array Oper} {sp : List RSpec}

/-- One operation that may come up comes up. -/
theorem rely_stepD {w0 : World} {lf : Array Bool → List Res} {a : Act} {A : (Nat → Value) → Act} {Q : Exit → Act → World → Prop} (hBad : ∀ c a2 w2, a2.defers = a.defers → Bad c w2 → Q (.panic c) a2 w2) (h : relyB ops sp = true) (hA : ∀ u, putAll ops a u sp.length = A u) (hok : ∀ i, i < sp.length → ∀ q : Array Bool, q.size = ops.size → q.getD i false = false → StepOKB P Bad ops sp w0 (lf q) (lf (q.setIfInBounds i true)) A i)
    {listed : Array Bool} {a' : Act} {w : World} {u : Nat → Value} (I : RInvD ops sp w0 lf a listed a' w u) {i : Nat} (hi : i < sp.length) (hr : i ∈ Region.ready .any ops listed) :
    wpOp P ops Q i (fun a'' w' => ∃ u', RInvD ops sp w0 lf a (listed.setIfInBounds i true) a'' w' u') a' w := by
  obtain ⟨o, T⟩ := relyB_told h i hi
  obtain ⟨hun, o', ho', hall⟩ := mem_ready.1 hr
  obtain rfl : o' = o := Option.some.inj (ho'.symm.trans T.op)
  have hunF : listed.getD i false = false := getD_both hun
  have hdep := deps_listed h I.head i hi (fun o'' ho'' e he hb => by
    obtain rfl : o'' = o' := Option.some.inj (ho''.symm.trans T.op)
    exact hall e he hb)
  have hdn : ∀ j ∈ (spec sp i).deps, j < sp.length := fun j hj => Nat.lt_trans (T.lt j hj) hi
  -- who is listed speaks of nobody who is not
  have hnot : ∀ j, j < sp.length → listed.getD j false = true → i ∉ (spec sp j).deps := fun j hj hl hm => by
    have hcl := deps_listed h I.head j hj (fun o'' ho'' e he hb => I.head.closed j o'' ho'' hl e he hb) i hm
    rw [hunF] at hcl
    cases hcl
  -- what the frame shows
  have hag : Agree ops o' a' (A u) := by
    refine ⟨fun t ht => ?_⟩
    rw [← hA u]
    by_cases hex : ∃ j, j < sp.length ∧ dstAt ops j = some t
    · obtain ⟨j, hj, hdj⟩ := hex
      have hjd := T.looks t ht j hj hdj
      obtain ⟨oj, Tj⟩ := relyB_told h j hj
      by_cases hts : t < a.tmps.size
      · rw [I.set j hj (hdep j hjd) t hdj hts, putAll_set a u t hts _ j hj hdj (fun k hk hkj => Tj.alone k hk hkj t hdj)]
      · exact getElem?_none_size (by rw [I.size, putAll_size]) (by rw [putAll_size]; exact hts)
    · rw [I.same t (fun j hj _ hdj => hex ⟨j, hj, hdj⟩), putAll_same a u t _ (fun j hj hdj => hex ⟨j, hj, hdj⟩)]
  -- the things
  have hlv : ∀ j ∈ (spec sp i).eats ++ (spec sp i).keeps, j ∈ liveIds sp (fun k => listed.getD k false) := fun j hj => by
    have hjd := T.sub j hj
    refine liveIds_mem.2 ⟨hdn j hjd, hdep j hjd, fun k hk hlk hm => ?_⟩
    have hki : k ≠ i := fun e => by rw [e, hunF] at hlk; cases hlk
    rcases List.mem_append.1 hj with h1 | h1
    · exact T.eat k hk hki j h1 hm
    · exact hnot k hk hlk (T.kept k hk hki j h1 hm)
  obtain ⟨rest, hrest⟩ : ∃ rest, rest = (liveIds sp (fun k => listed.getD k false)).filter (fun j => !((spec sp i).eats ++ (spec sp i).keeps).contains j) := ⟨_, rfl⟩
  have hrm : ∀ j, j ∈ rest ↔ j ∈ liveIds sp (fun k => listed.getD k false) ∧ j ∉ (spec sp i).eats ++ (spec sp i).keeps := fun j => by
    rw [hrest, List.mem_filter]
    simp
  have hrn : rest.Nodup := by rw [hrest]; exact (liveIds_nodup _ _).filter _
  have hperm : (liveIds sp (fun k => listed.getD k false)).Perm (((spec sp i).eats ++ (spec sp i).keeps) ++ rest) := by
    refine perm_of_mem (liveIds_nodup _ _) (List.nodup_append.2 ⟨T.nodup, hrn, fun x hx y hy e => ?_⟩) (fun j => ?_)
    · subst e
      exact ((hrm x).1 hy).2 hx
    · rw [List.mem_append, hrm]
      constructor
      · intro hj
        by_cases hm : j ∈ (spec sp i).eats ++ (spec sp i).keeps
        · exact .inl hm
        · exact .inr ⟨hj, hm⟩
      · rintro (hj | hj)
        · exact hlv j hj
        · exact hj.1
  obtain ⟨l1, hl1⟩ : ∃ l1, l1 = lf listed := ⟨_, rfl⟩
  obtain ⟨l2, hl2⟩ : ∃ l2, l2 = lf (listed.setIfInBounds i true) := ⟨_, rfl⟩
  have hst := I.st
  rw [← hl1] at hst
  have hS : Has w0 w (resOf sp u (spec sp i).eats ++ (resOf sp u (spec sp i).keeps ++ (l1 ++ resOf sp u rest))) := by
    refine hst.perm (((resOf_perm hperm).append_right l1).trans ?_)
    rw [resOf_append, resOf_append]
    simp only [List.append_assoc]
    exact (List.Perm.refl _).append ((List.Perm.refl _).append List.perm_append_comm)
  have hstep : StepOKB P Bad ops sp w0 l1 l2 A i := by
    rw [hl1, hl2]
    exact hok i hi listed I.head.size hunF
  unfold StepOKB at hstep
  rw [T.op] at hstep
  simp only at hstep
  have hfin := hstep u (resOf sp u rest) w (fun j hj => I.vals j (hdn j hj) (hdep j hj)) hS
  -- what is left
  have hnext : ∀ v w', ((spec sp i).val (mask (spec sp i).deps u) v ∧ Has w0 w' ((spec sp i).res (mask (spec sp i).deps u) v ++ (resOf sp u (spec sp i).keeps ++ (l2 ++ resOf sp u rest)))) →
      ∃ u', RInvD ops sp w0 lf a (listed.setIfInBounds i true) (a'.put o'.dst v) w' u' := by
    rintro v w' ⟨hv, hS'⟩
    obtain ⟨u', hu'⟩ : ∃ u' : Nat → Value, u' = fun j => if j = i then v else u j := ⟨_, rfl⟩
    have hui : u' i = v := by rw [hu']; simp
    have huj : ∀ j, j ≠ i → u' j = u j := fun j hj => by rw [hu']; simp [hj]
    have hmi : mask (spec sp i).deps u' = mask (spec sp i).deps u := mask_eq fun j hj => huj j (by have := T.lt j hj; omega)
    have hmj : ∀ j, j < sp.length → listed.getD j false = true → mask (spec sp j).deps u' = mask (spec sp j).deps u := fun j hj hl => mask_eq fun k hk => huj k (fun e => hnot j hj hl (e ▸ hk))
    have hold : ∀ j, (listed.setIfInBounds i true).getD j false = true → j ≠ i → listed.getD j false = true := fun j hj hji => by rw [getD_set_ne false (Ne.symm hji)] at hj; exact hj
    have hsz : i < listed.size := by rw [I.head.size]; exact (Array.getElem?_eq_some_iff.1 T.op).1
    have hnew : (listed.setIfInBounds i true).getD i false = true := by simp [hsz]
    have hrj : ∀ j, j < sp.length → listed.getD j false = true → j ≠ i → (spec sp j).resAt u' j = (spec sp j).resAt u j := fun j hj hl hji => by
      unfold RSpec.resAt
      rw [hmj j hj hl, huj j hji]
    have hdi : o'.dst = dstAt ops i := by unfold dstAt; rw [T.op]; rfl
    refine ⟨u', ⟨I.head.set hr hi, ?_, ?_, ?_, ?_, ?_, ?_⟩⟩
    · intro j hj hl
      by_cases hji : j = i
      · subst hji
        unfold RSpec.valAt
        rw [hmi, hui]
        exact hv
      · have := I.vals j hj (hold j hl hji)
        unfold RSpec.valAt at this ⊢
        rw [hmj j hj (hold j hl hji), huj j hji]
        exact this
    · have hp2 : (liveIds sp (fun k => (listed.setIfInBounds i true).getD k false)).Perm (i :: ((spec sp i).keeps ++ rest)) := by
        have hkr : ∀ j, j ∈ (spec sp i).keeps ++ rest ↔ j ∈ liveIds sp (fun k => listed.getD k false) ∧ j ∉ (spec sp i).eats := fun j => by
          rw [List.mem_append, hrm, List.mem_append]
          have hdis : j ∈ (spec sp i).keeps → j ∉ (spec sp i).eats := fun h1 h2 => (List.nodup_append.1 T.nodup).2.2 j h2 j h1 rfl
          constructor
          · rintro (h1 | h1)
            · exact ⟨hlv j (List.mem_append_right _ h1), hdis h1⟩
            · exact ⟨h1.1, fun h2 => h1.2 (.inl h2)⟩
          · rintro ⟨h1, h2⟩
            by_cases hk : j ∈ (spec sp i).keeps
            · exact .inl hk
            · exact .inr ⟨h1, fun h3 => h3.elim h2 hk⟩
        have hin : i ∉ (spec sp i).keeps ++ rest := fun hm => by
          have := (liveIds_mem.1 ((hkr i).1 hm).1).2.1
          rw [hunF] at this
          cases this
        refine perm_of_mem (liveIds_nodup _ _) (List.nodup_cons.2 ⟨hin, ?_⟩) (fun j => ?_)
        · refine List.nodup_append.2 ⟨(List.nodup_append.1 T.nodup).2.1, hrn, fun x hx y hy e => ?_⟩
          subst e
          exact ((hrm x).1 hy).2 (List.mem_append_right _ hx)
        · rw [List.mem_cons, hkr, liveIds_mem, liveIds_mem]
          constructor
          · rintro ⟨h1, h2, h3⟩
            by_cases hji : j = i
            · exact .inl hji
            · refine .inr ⟨⟨h1, hold j h2 hji, fun k hk hlk => h3 k hk (getD_set_true hlk)⟩, h3 i hi hnew⟩
          · rintro (rfl | ⟨⟨h1, h2, h3⟩, h4⟩)
            · refine ⟨hi, hnew, fun k hk hlk hm => ?_⟩
              by_cases hkj : k = j
              · subst hkj
                obtain ⟨ok, Tk⟩ := relyB_told h k hk
                have := Tk.lt k (Tk.sub k (List.mem_append_left _ hm))
                omega
              · obtain ⟨ok, Tk⟩ := relyB_told h k hk
                exact hnot k hk (hold k hlk hkj) (Tk.sub j (List.mem_append_left _ hm))
            · refine ⟨h1, getD_set_true h2, fun k hk hlk hm => ?_⟩
              by_cases hki : k = i
              · subst hki; exact h4 hm
              · exact h3 k hk (hold k hlk hki) hm
      have hres : resOf sp u' (i :: ((spec sp i).keeps ++ rest)) = (spec sp i).res (mask (spec sp i).deps u) v ++ (resOf sp u (spec sp i).keeps ++ resOf sp u rest) := by
        have h1 : (spec sp i).resAt u' i = (spec sp i).res (mask (spec sp i).deps u) v := by unfold RSpec.resAt; rw [hmi, hui]
        have h2 : resOf sp u' ((spec sp i).keeps ++ rest) = resOf sp u ((spec sp i).keeps ++ rest) := resOf_congr fun j hj => by
          have hjl : j ∈ liveIds sp (fun k => listed.getD k false) := by
            rcases List.mem_append.1 hj with h3 | h3
            · exact hlv j (List.mem_append_right _ h3)
            · exact ((hrm j).1 h3).1
          have hjm := liveIds_mem.1 hjl
          exact hrj j hjm.1 hjm.2.1 (fun e => by have := hjm.2.1; rw [e, hunF] at this; cases this)
        unfold resOf at h2 ⊢
        rw [List.flatMap_cons, h1, h2, List.flatMap_append]
      rw [← hl2]
      refine hS'.perm ?_
      refine List.Perm.trans ?_ (((resOf_perm hp2).append_right l2).symm)
      rw [hres]
      simp only [List.append_assoc]
      exact (List.Perm.refl _).append ((List.Perm.refl _).append List.perm_append_comm)
    · cases o'.dst <;> exact I.defers
    · cases o'.dst with
      | none => exact I.size
      | some d => simp only [Act.put, Array.size_setIfInBounds]; exact I.size
    · intro j hj hl d hd hds
      by_cases hji : j = i
      · subst hji
        rw [hdi, hd, put_same (by rw [I.size]; exact hds), hui]
      · have hne : o'.dst ≠ some d := by rw [hdi]; exact fun e => (T.alone j hj hji d e) hd
        rw [put_other hne, huj j hji]
        exact I.set j hj (hold j hl hji) d hd hds
    · intro t ht
      have hne : o'.dst ≠ some t := by rw [hdi]; exact ht i hi hnew
      rw [put_other hne]
      exact I.same t fun j hj hl => ht j hj (getD_set_true hl)
  unfold wpOp
  rw [T.op]
  simp only
  rw [hag.wanted]
  by_cases hw : Region.wanted o' (yielded ops (A u).tmps) = true
  · rw [if_pos hw] at hfin ⊢
    refine .inl (doesB_wp (Post := fun v w' => (spec sp i).val (mask (spec sp i).deps u) v ∧ Has w0 w' ((spec sp i).res (mask (spec sp i).deps u) v ++ (resOf sp u (spec sp i).keeps ++ (l2 ++ resOf sp u rest)))) ?_ hnext (fun c w2 => hBad c _ w2 I.defers))
    unfold doesB at hfin ⊢
    rw [execOp_congr o' (fun cs b => Region.noSelect_spec (by simp only [relyB, Bool.and_eq_true] at h; exact h.1) i o' cs b T.op) hag.eval]
    exact hfin
  · rw [if_neg hw] at hfin ⊢
    exact hnext _ _ hfin
theorem rely_runD {w0 : World} {lf : Array Bool → List Res} {a : Act} {A : (Nat → Value) → Act} {Q : Exit → Act → World → Prop} (hBad : ∀ c a2 w2, a2.defers = a.defers → Bad c w2 → Q (.panic c) a2 w2) (h : relyB ops sp = true) (ht : relyTailB ops sp.length = true) (hA : ∀ u, putAll ops a u sp.length = A u) (hok : ∀ i, i < sp.length → ∀ q : Array Bool, q.size = ops.size → q.getD i false = false → StepOKB P Bad ops sp w0 (lf q) (lf (q.setIfInBounds i true)) A i)
    (fin : ∀ u w, (∀ i, i < sp.length → (spec sp i).valAt u i) → Has w0 w (resOf sp u (liveIds sp fun _ => true) ++ lf (List.replicate sp.length true ++ List.replicate (ops.size - sp.length) false).toArray) → wpList P ops Q (ops.toList.drop sp.length) (A u) w) :
    ∀ (f : Nat) (listed : Array Bool) (a' : Act) (w : World) (u : Nat → Value), RInvD ops sp w0 lf a listed a' w u → cntU sp.length listed = f → wpAny P .any ops Q (f + (ops.size - sp.length)) listed a' w
  | 0, listed, a', w, u, I, hc => by
    have hall : ∀ i, i < sp.length → listed.getD i false = true := fun i hi => by
      cases hl : listed.getD i false with
      | true => rfl
      | false =>
        have hm : i ∈ (List.range sp.length).filter fun i => !listed.getD i false := List.mem_filter.2 ⟨List.mem_range.2 hi, by rw [hl]; rfl⟩
        rw [List.eq_nil_of_length_eq_zero hc] at hm
        cases hm
    have hn : sp.length ≤ ops.size := by
      rcases Nat.lt_or_ge ops.size sp.length with h1 | h1
      · obtain ⟨o, T⟩ := relyB_told h ops.size h1
        have := (Array.getElem?_eq_some_iff.1 T.op).1
        omega
      · exact h1
    have hlist : listed = (List.replicate sp.length true ++ List.replicate (ops.size - sp.length) false).toArray := by
      apply Array.ext
      · rw [I.head.size]; simp; omega
      · intro j h1 h2
        rw [I.head.size] at h1
        by_cases hj : j < sp.length
        · have := hall j hj
          simp [I.head.size, h1] at this
          simp [this, List.getElem_append, hj]
        · have := I.head.tail j (by omega) h1
          simp [I.head.size, h1] at this
          simp [this, List.getElem_append, hj]
    have hact : a' = A u := by
      rw [← hA u]
      have hd : a'.defers = (putAll ops a u sp.length).defers := by rw [I.defers, putAll_defers]
      have htm : a'.tmps = (putAll ops a u sp.length).tmps := by
        apply Array.ext_getElem?
        intro t
        by_cases hex : ∃ j, j < sp.length ∧ dstAt ops j = some t
        · obtain ⟨j, hj, hdj⟩ := hex
          obtain ⟨oj, Tj⟩ := relyB_told h j hj
          by_cases hts : t < a.tmps.size
          · rw [I.set j hj (hall j hj) t hdj hts, putAll_set a u t hts _ j hj hdj (fun k hk hkj => Tj.alone k hk hkj t hdj)]
          · exact getElem?_none_size (by rw [I.size, putAll_size]) (by rw [putAll_size]; exact hts)
        · rw [I.same t (fun j hj _ hdj => hex ⟨j, hj, hdj⟩), putAll_same a u t _ (fun j hj hdj => hex ⟨j, hj, hdj⟩)]
      cases a'
      cases hpa : putAll ops a u sp.length
      rw [hpa] at hd htm
      simp only at hd htm
      rw [hd, htm]
    have hlv : (liveIds sp fun i => listed.getD i false) = liveIds sp fun _ => true := by
      unfold liveIds
      refine List.filter_congr fun i hi => ?_
      dsimp only
      rw [hall i (List.mem_range.1 hi)]
      congr 1
      rw [Bool.eq_iff_iff]
      simp only [List.all_eq_true]
      exact forall_congr' fun k => forall_congr' fun hk => by rw [hall k (List.mem_range.1 hk)]
    have hS := I.st
    rw [hlv] at hS
    rw [hlist] at hS
    have hW := fin u w (fun i hi => I.vals i hi (hall i hi)) hS
    have hlen : (ops.toList.drop sp.length).length = ops.size - sp.length := by simp
    rw [Nat.zero_add, ← hlen, hact]
    refine wpAny_of_seq (ops.toList.drop sp.length) sp.length listed (A u) w (fun j => by rw [List.getElem?_drop, Array.getElem?_toList]) ?_ hW
    simp only [relyTailB, Bool.and_eq_true] at ht
    rw [hlen, hlist]
    exact ht.2
  | f + 1, listed, a', w, u, I, hc => by
    rw [show f + 1 + (ops.size - sp.length) = (f + (ops.size - sp.length)) + 1 by omega]
    have hex : ∃ i, i < sp.length ∧ listed.getD i false = false := by
      have : (List.range sp.length).filter (fun i => !listed.getD i false) ≠ [] := fun e => by
        unfold cntU at hc
        rw [e] at hc
        cases hc
      obtain ⟨i, hi⟩ := List.exists_mem_of_ne_nil _ this
      rw [List.mem_filter, List.mem_range] at hi
      exact ⟨i, hi.1, by simpa using hi.2⟩
    have hlt : ∀ i, i < sp.length → i < ops.size := fun i hi => by
      obtain ⟨o, T⟩ := relyB_told h i hi
      exact (Array.getElem?_eq_some_iff.1 T.op).1
    have hready : ∃ i, i ∈ Region.ready .any ops listed := by
      have key : ∀ i, i < sp.length → listed.getD i false = false → ∃ j, j ∈ Region.ready .any ops listed := by
        intro i
        induction i using Nat.strongRecOn with
        | _ i ih =>
          intro hi hl
          obtain ⟨o, T⟩ := relyB_told h i hi
          by_cases hc2 : ∃ e ∈ o.after, Region.binds .any e = true ∧ listed.getD e.on false = false
          · obtain ⟨e, he, hb, hel⟩ := hc2
            exact ih e.on (T.back e he hb) (Nat.lt_trans (T.back e he hb) hi) hel
          · refine ⟨i, mem_ready.2 ⟨getD_in (by rw [I.head.size]; exact hlt i hi) hl, o, T.op, fun e he hb => ?_⟩⟩
            cases hel : listed.getD e.on false with
            | true => rfl
            | false => exact absurd ⟨e, he, hb, hel⟩ hc2
      obtain ⟨i, hi, hl⟩ := hex
      exact key i hi hl
    obtain ⟨i0, hi0, hl0⟩ := hex
    have hhead : ∀ i, i ∈ Region.ready .any ops listed → i < sp.length := fun i hi => by
      simp only [relyTailB, Bool.and_eq_true, Bool.or_eq_true, decide_eq_true_eq] at ht
      rcases ht.1 with h1 | ⟨⟨h1, h2⟩, h3⟩
      · obtain ⟨_, o, ho, _⟩ := mem_ready.1 hi
        have := (Array.getElem?_eq_some_iff.1 ho).1
        omega
      · rcases Nat.lt_or_ge i sp.length with h4 | h4
        · exact h4
        · exact absurd hi (tail_waits h2 h3 h1 I.head _ i0 rfl hi0 (getD_in (by rw [I.head.size]; exact hlt i0 hi0) hl0) i h4)
    refine ⟨fun h0 => ?_, fun i hi => ?_⟩
    · obtain ⟨i, hi⟩ := hready
      rw [h0] at hi
      cases hi
    · have hin := hhead i hi
      have hun : listed.getD i false = false := getD_both (mem_ready.1 hi).1
      refine wpOp_mono (fun a'' w' h1 => ?_) (rely_stepD hBad h hA hok I hin hi)
      obtain ⟨u', I'⟩ := h1
      refine rely_runD hBad h ht hA hok fin f _ a'' w' u' I' ?_
      have := cntU_set hin (by rw [I.head.size]; exact hlt i hin) hun
      omega
/-- A region that draws its order: each operation of its head told by itself, the rest in order; one that panics ends it. -/
theorem wp_relyD2 {id : Nat} {w0 w : World} {lf : Array Bool → List Res} {a : Act} {Q : Exit → Act → World → Prop} (hBad : ∀ c a2 w2, a2.defers = a.defers → Bad c w2 → Q (.panic c) a2 w2) (S : Has w0 w (lf (Array.replicate ops.size false))) (sp : List RSpec) (A : (Nat → Value) → Act) (hA : ∀ u, putAll ops a u sp.length = A u) (hm : P.follows .mixedOrders = true) (h : relyB ops sp = true) (ht : relyTailB ops sp.length = true)
    (live : List Nat) (hlive : liveIds sp (fun _ => true) = live) (hok : ∀ i, i < sp.length → ∀ q : Array Bool, q.size = ops.size → q.getD i false = false → StepOKB P Bad ops sp w0 (lf q) (lf (q.setIfInBounds i true)) A i)
    (fin : ∀ u w, (∀ i, i < sp.length → (spec sp i).valAt u i) → Has w0 w (resOf sp u live ++ lf (List.replicate sp.length true ++ List.replicate (ops.size - sp.length) false).toArray) → wpList P ops Q (ops.toList.drop sp.length) (A u) w) : (Code.region id ops true).wp P Q a w := by
  subst hlive
  refine wp_region_any hm ?_
  have hn : sp.length ≤ ops.size := by
    rcases Nat.lt_or_ge ops.size sp.length with h1 | h1
    · obtain ⟨o, T⟩ := relyB_told h ops.size h1
      have := (Array.getElem?_eq_some_iff.1 T.op).1
      omega
    · exact h1
  have hnone : ∀ i, ¬ (Array.replicate ops.size false).getD i false = true := fun i => by
    rw [getD_replicate_false]
    simp
  have hcnt : cntU sp.length (Array.replicate ops.size false) = sp.length := by
    unfold cntU
    rw [List.filter_eq_self.2 (fun i _ => by rw [getD_replicate_false]; rfl), List.length_range]
  have hrun := rely_runD (Q := Q) hBad h ht hA hok fin sp.length (Array.replicate ops.size false) a { w with drawn := w.drawn + 1 } (fun _ => undef) ?_ hcnt
  · rw [show sp.length + (ops.size - sp.length) = ops.size by omega] at hrun
    exact hrun
  · refine ⟨⟨by simp, fun j oj _ hl => absurd hl (hnone j), fun t _ htl => by simp [htl]⟩, fun i _ hl => absurd hl (hnone i), ?_, rfl, rfl, fun i _ hl => absurd hl (hnone i), fun t _ => rfl⟩
    have hlv : (liveIds sp fun i => (Array.replicate ops.size false).getD i false) = [] := by
      unfold liveIds
      rw [List.filter_eq_nil_iff]
      intro i _
      dsimp only
      rw [getD_replicate_false]
      simp
    rw [hlv]
    exact S.drew
/-- .. where operation k0 takes the first thing and operation k1 the second. -/
theorem wp_relyBW2 {id : Nat} {w0 w : World} {e0 e1 : Res} {F : List Res} {a : Act} {Q : Exit → Act → World → Prop} (k0 k1 : Nat) (hBad : ∀ c a2 w2, a2.defers = a.defers → Bad c w2 → Q (.panic c) a2 w2) (S : Has w0 w (e0 :: e1 :: F)) (sp : List RSpec) (A : (Nat → Value) → Act) (hA : ∀ u, putAll ops a u sp.length = A u) (hm : P.follows .mixedOrders = true) (h : relyB ops sp = true) (ht : relyTailB ops sp.length = true)
    (live : List Nat) (hlive : liveIds sp (fun _ => true) = live) (hk : k0 < sp.length ∧ k1 < sp.length ∧ k0 ≠ k1 ∧ sp.length ≤ ops.size) (hok : ∀ i, i < sp.length → if i = k0 then ∀ r : Res, StepOKB P Bad ops sp w0 (e0 :: r :: F) (noRes :: r :: F) A i else if i = k1 then ∀ r : Res, StepOKB P Bad ops sp w0 (r :: e1 :: F) (r :: noRes :: F) A i else ∀ r s : Res, StepOKB P Bad ops sp w0 (r :: s :: F) (r :: s :: F) A i)
    (fin : ∀ u w, (∀ i, i < sp.length → (spec sp i).valAt u i) → Has w0 w (resOf sp u live ++ (noRes :: noRes :: F)) → wpList P ops Q (ops.toList.drop sp.length) (A u) w) : (Code.region id ops true).wp P Q a w := by
  obtain ⟨k0l, k1l, kne, hsz⟩ := hk
  refine wp_relyD2 (lf := fun q => (if q.getD k0 false then noRes else e0) :: (if q.getD k1 false then noRes else e1) :: F) hBad (by rw [getD_replicate_false, getD_replicate_false]; exact S) sp A hA hm h ht live hlive (fun i hi q hq hqi => ?_) (fun u w h1 h2 => fin u w h1 ?_)
  · have := hok i hi
    have hin : i < q.size := by rw [hq]; omega
    have hset : (q.setIfInBounds i true).getD i false = true := by simp [hin]
    by_cases h0 : i = k0
    · subst h0
      rw [if_pos rfl] at this
      have e : (q.setIfInBounds i true).getD k1 false = q.getD k1 false := getD_set_ne false kne
      simp only [hqi, hset, e, if_true, Bool.false_eq_true, if_false]
      exact this _
    · rw [if_neg h0] at this
      have e0' : (q.setIfInBounds i true).getD k0 false = q.getD k0 false := getD_set_ne false h0
      by_cases h1 : i = k1
      · subst h1
        rw [if_pos rfl] at this
        simp only [hqi, hset, e0', if_true, Bool.false_eq_true, if_false]
        exact this _
      · rw [if_neg h1] at this
        have e1' : (q.setIfInBounds i true).getD k1 false = q.getD k1 false := getD_set_ne false h1
        simp only [e0', e1']
        exact this _ _
  · have g : ∀ k, k < sp.length → ((List.replicate sp.length true ++ List.replicate (ops.size - sp.length) false).toArray).getD k false = true := fun k hk => by
      rw [Array.getD_eq_getD_getElem?, List.getElem?_toArray, List.getElem?_append_left (by simpa using hk), List.getElem?_replicate, if_pos hk]
      rfl
    simp only [g k0 k0l, g k1 k1l, if_true] at h2
    exact h2
end
end Go.Proofs.YtfhkmmagpnojmaaDoor

/- The method 'read' of orders, states, tokens; rows of sights. No condition but the reach. -/
namespace Go.Proofs.YtfhkmmagpnojmaaDoor
open Go.RowKit

abbrev rowSg (v : Value) (l : List Sgt) : Res := row v 95 3 l.length (l.flatMap sgtL)
set_option maxRecDepth 100000 in
set_option maxHeartbeats 4000000 in
theorem orderRead_s (v : Value) (g : Nat) (bv : Value) (b : List UInt8) (p : Nat) (w0 w1 : World) (F : List Res) (S : Has w0 w1 (rdr g bv p :: F)) (hb : Bs w0 bv b) (hp : p ≤ b.length) (hl : b.length ≤ 140737488355328) :
    Calls Tryd.prog 140 #[v, .pointer (some ⟨g, 0, none⟩)] w1 fun e w' =>
      (p + 2 ≤ b.length ∧ e = .returned (.iface 160 (.int .i64 (atB b p 2 : Int))) ∧ Has w0 w' (rdr g bv (p + 2) :: F)) ∨ (b.length < p + 2 ∧ e = .panicked [erl] ∧ ∃ q, Has w0 w' (rdr g bv q :: F)) := by
  have p1 := fun w F S => ruint_i 2 2 rfl g bv b p w0 w F S hb (by decide) (by decide) hp hl
  have hlt := atB_lt b p 2
  have e1 : IntKind.i64.wrap (atB b p 2 : Int) = (atB b p 2 : Int) := by rw [IntKind.wrap_i64]; omega
  have HB := Lib.hid hb; have P1 := Lib.hid p1; clear hb p1
  clear hlt
  go_enter Tryd.func140, Tryd.ntmps140
  go_wp2_with (first | (go_at_call 61; (with_reducible refine (P1.out _ _ (S.pick pk)).mono ?_); rintro e w1 (⟨hf, rfl, S1⟩ | ⟨hf, rfl, S1⟩); rotate_left; exact ⟨rfl, .inr ⟨by omega, rfl, _, S1⟩⟩; clear S; have S := S1; clear S1) | fail)
  go_ret
  exact .inl ⟨hf, rfl, S⟩
set_option maxRecDepth 100000 in
set_option maxHeartbeats 4000000 in
theorem stateRead_s (cs : Array Value) (g : Nat) (bv : Value) (b : List UInt8) (p : Nat) (w0 w1 : World) (F : List Res) (S : Has w0 w1 (rdr g bv p :: F)) (hb : Bs w0 bv b) (hp : p ≤ b.length) (hl : b.length ≤ 140737488355328) :
    Calls Tryd.prog 143 #[.agg cs, .pointer (some ⟨g, 0, none⟩)] w1 fun e w' =>
      (p + 9 ≤ b.length ∧ e = .returned (.iface 162 (.agg #[.int .u8 (atB b p 1 : Int), .int .u64 (atB b (p + 1) 8 : Int)])) ∧ Has w0 w' (rdr g bv (p + 9) :: F)) ∨ (b.length < p + 9 ∧ e = .panicked [erl] ∧ ∃ q, Has w0 w' (rdr g bv q :: F)) := by
  have p1 := fun w F S => ruint_i 1 1 rfl g bv b p w0 w F S hb (by decide) (by decide) hp hl
  have p2 := fun w F S h => ruint_i 8 8 rfl g bv b (p + 1) w0 w F S hb (by decide) (by decide) h hl
  have hlt := atB_lt b p 1
  have e1 : IntKind.u8.wrap (atB b p 1 : Int) = (atB b p 1 : Int) := by rw [IntKind.wrap_u8]; omega
  have e2 : (atB b p 1 : Int) % 256 = (atB b p 1 : Int) := by omega
  have b1 := build_st
  have HB := Lib.hid hb; have P1 := Lib.hid p1; have P2 := Lib.hid p2; clear hb p1 p2
  clear hlt
  go_enter Tryd.func143, Tryd.ntmps143
  go_wp2_with (first | (go_at_call 61; (with_reducible refine (P1.out _ _ (S.pick pk)).mono ?_); rintro e w1 (⟨hf, rfl, S1⟩ | ⟨hf, rfl, S1⟩); rotate_left; exact ⟨rfl, .inr ⟨by omega, rfl, _, S1.drop (Pick.tail (Pick.head _ _))⟩⟩; clear S; have S := S1; clear S1; have _t := P1; clear P1) | (go_at_call 61; (with_reducible refine (P2.out _ _ (S.pick pk) hf).mono ?_); rintro e w1 (⟨hf2, rfl, S1⟩ | ⟨hf2, rfl, S1⟩); rotate_left; exact ⟨rfl, .inr ⟨by omega, rfl, _, S1.drop (Pick.tail (Pick.head _ _))⟩⟩; clear S; have S := S1; clear S1) | ((with_reducible refine iD 2 (.box 162 (.tmp 0)) ?_); refine step_boxA (dst := some 2) S 162 (.tmp 0) _ rfl rfl ?_; clear S; intro g2 w S) | fail)
  go_ret
  exact .inl ⟨hf2, rfl, S.drop (Pick.tail (Pick.head _ _))⟩
set_option maxRecDepth 100000 in
set_option maxHeartbeats 4000000 in
theorem ticketRead_s (cs : Array Value) (g : Nat) (bv : Value) (b : List UInt8) (p : Nat) (w0 w1 : World) (F : List Res) (S : Has w0 w1 (rdr g bv p :: F)) (hb : Bs w0 bv b) (hp : p ≤ b.length) (hl : b.length ≤ 140737488355328) :
    Calls Tryd.prog 126 #[.agg cs, .pointer (some ⟨g, 0, none⟩)] w1 fun e w' =>
      (p + 46 ≤ b.length ∧ e = .returned (.iface 114 (.agg (tokL (decT ((b.drop p).take 46))).toArray)) ∧ Has w0 w' (rdr g bv (p + 46) :: F)) ∨ (b.length < p + 46 ∧ e = .panicked [erl] ∧ ∃ q, Has w0 w' (rdr g bv q :: F)) := by
  have p2 := fun w F S => rbytes_i 46 46 rfl g bv b p w0 w F S hb (by decide) hp hl
  obtain ⟨T46, hT⟩ : ∃ T, T = (b.drop p).take 46 := ⟨_, rfl⟩
  have p3 := fun v w h => dec_s v T46 w h
  rw [← hT] at p2 ⊢
  have HB := Lib.hid hb; have P2 := Lib.hid p2; have P3 := Lib.hid p3; clear hb p2 p3
  clear hT
  go_enter Tryd.func126, Tryd.ntmps126
  go_wp2_with (first | (go_at_call 63; (with_reducible refine (P2.out _ _ (S.pick (r := rdr g bv p) pk)).mono ?_); rintro e w1 (⟨hf2, v9, rfl, S1⟩ | ⟨hf2, rfl, S1⟩); rotate_left; exact ⟨rfl, .inr ⟨by omega, rfl, _, S1.drop (Pick.tail (Pick.head _ _))⟩⟩; clear S; have S := S1; clear S1) | ((with_reducible refine iD 2 (.box 114 (.tmp 0)) ?_); refine step_boxA (dst := some 2) S 114 (.tmp 0) _ rfl rfl ?_; clear S; intro g2 w S) | (go_at_call 62; (with_reducible refine (P3.out _ _ (S.bs (xs := T46) pk)).mono ?_); rintro e w1 ⟨rfl, T⟩; replace S := S.call T; clear T; (try simp only [z4, z5] at S)) | ((with_reducible refine iD 5 (.alloc 67) ?_); refine step_alloc (dst := some 5) S 67 (.agg ((tokL tokZ).toArray)) ((tokL tokZ).toArray) kR rfl rfl ?_; clear S; intro g5 w S) | ((with_reducible refine iO none (.store 67 (.tmp 5) (.tmp 11)) ?_); refine step_store S 67 (.tmp 5) (.tmp 11) _ _ rfl rfl _ _ pk 36 kR lN lN on1 rfl ?_; clear S; intro w S) | ((with_reducible refine iO _ (.load 67 _) ?_); first | (refine step_load S 67 _ _ rfl _ _ _ pk _ Tryd.underlying67 rfl 36 kR lN rfl ?_) | (refine step_loadO 67 _ _ rfl _ _ _ (S.old_heap (Hid.out (by assumption))) _ Tryd.underlying67 rfl 36 kR lN rfl ?_) | (refine step_loadR 67 _ _ _ rfl _ (S.old_range hy) _ Tryd.underlying67 rfl 36 kR lN _ rfl rfl ?_)) | fail)
  go_ret
  exact .inl ⟨hf2, rfl, ((S.drop (Pick.head _ _)).drop (Pick.tail (Pick.head _ _))).drop (Pick.tail (Pick.head _ _))⟩
end Go.Proofs.YtfhkmmagpnojmaaDoor
