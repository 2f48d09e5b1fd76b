/- Several texts under one header: what the claim needs of ChkR, EncR, Fun, DecR. No condition but those that each names. -/
import Derived.Test.YtfhkmmagpnojmaaDoorYE1
import Derived.Test.YtfhkmmagpnojmaaDoorYE8
import Derived.Test.YtfhkmmagpnojmaaDoorYE6
set_option linter.unusedSimpArgs false
set_option linter.unusedVariables false

/- Whether a request is valid: the program's CheckRequest and the specification's. No condition but the reach. -/
namespace Go.Proofs.YtfhkmmagpnojmaaDoor
open Go.RowKit

/-- The error of a request. -/
def rqE (r : Rq) : Int := if rqV r then 0 else 8
theorem rqV_body (r : Rq) : rqV r = (decide (1 ≤ r.kind.toNat ∧ r.kind.toNat ≤ 6) && (bdyOk (bdyR r) && decide (ofB r.kind r.tok (bdyR r) = r))) := by
  obtain ⟨k, t, p, d, n⟩ := r
  rcases kcase k with rfl | rfl | rfl | rfl | rfl | rfl | ⟨h1, h2, h3, h4, h5, h6⟩
  case inr.inr.inr.inr.inr.inr =>
    have hd : decide (1 ≤ k.toNat ∧ k.toNat ≤ 6) = false := decide_eq_false (by omega)
    rw [show decide (1 ≤ (Rq.mk k t p d n).kind.toNat ∧ (Rq.mk k t p d n).kind.toNat ≤ 6) = false from hd, Bool.false_and]
    cases hv : rqV ⟨k, t, p, d, n⟩ with
    | false => rfl
    | true =>
      have := rqV_kind _ hv
      simp only at this
      rcases this with rfl | rfl | rfl | rfl | rfl | rfl <;> simp at *
  all_goals
    rw [Bool.eq_iff_iff]
    simp [rqV, bdyR, bdyOk, ofB, @eq_comm UInt8 0, @eq_comm UInt32 0]
    try (constructor <;> intro h <;> simp [h])
set_option maxRecDepth 100000 in
theorem eqTm (m : Nat) (a b : Tok) (w : World) : (Op.equalIn (m + 4) 67 (.agg (tokL a).toArray) (.agg (tokL b).toArray)).run Tryd.prog w = .ok (decide (a = b)) w := by
  have hp : Tryd.prog.stoodInHeld 67 = false := by kernel_rfl
  have hf : Tryd.prog.underlying 67 = some (.struct (Tryd.prog.fieldsOf 67)) := by kernel_rfl
  have e : decide (a = b) = (((a.tenant.toNat : Int) == (b.tenant.toNat : Int)) && (((a.role.toNat : Int) == (b.role.toNat : Int)) && (((a.expiry.toNat : Int) == (b.expiry.toNat : Int)) && (((a.serial.toNat : Int) == (b.serial.toNat : Int)) && (decide (a.tag = b.tag) && true))))) := by
    rw [beqU8, beqU8, beqU64, beqU32, Bool.eq_iff_iff]
    simp only [decide_eq_true_eq, Bool.and_eq_true, and_true]
    constructor
    · rintro rfl; exact ⟨rfl, rfl, rfl, rfl, rfl⟩
    · rintro ⟨h1, h2, h3, h4, h5⟩
      exact Tok.ext' h1 h2 h3 h4 h5
  have htag : ∀ t : Tok, (tokL t).toArray.extract 4 (4 + 32) = (t.tag.map by8).toArray := fun t => by
    have : (t.tag.map by8).length = 32 := by simp [t.len]
    apply Array.ext'
    simp only [tokL, Array.toList_extract, List.extract_eq_take_drop]
    show ((t.tag.map by8).take 32) = _
    rw [List.take_of_length_le (by omega)]
  rw [e, run_equalIn_agg (P := Tryd.prog) w (m + 3) 67 _ _ hf hp]
  unfold Program.fieldsOf
  rw [Tryd.underlying67]
  exact eqFields_step w (m + 3) _ _ _ _ rfl _ _ (run_part1 w _ _ _ _ _ Tryd.underlying5 rfl rfl) (run_part1 w _ _ _ _ _ Tryd.underlying5 rfl rfl) _ _ (run_equalIn_int w (m + 2) _ _ _ _ _ Tryd.underlying5)
    (eqFields_step w (m + 3) _ _ _ _ rfl _ _ (run_part1 w _ _ _ _ _ Tryd.underlying5 rfl rfl) (run_part1 w _ _ _ _ _ Tryd.underlying5 rfl rfl) _ _ (run_equalIn_int w (m + 2) _ _ _ _ _ Tryd.underlying5)
    (eqFields_step w (m + 3) _ _ _ _ rfl _ _ (run_part1 w _ _ _ _ _ Tryd.underlying23 rfl rfl) (run_part1 w _ _ _ _ _ Tryd.underlying23 rfl rfl) _ _ (run_equalIn_int w (m + 2) _ _ _ _ _ Tryd.underlying23)
    (eqFields_step w (m + 3) _ _ _ _ rfl _ _ (run_part1 w _ _ _ _ _ Tryd.underlying38 rfl rfl) (run_part1 w _ _ _ _ _ Tryd.underlying38 rfl rfl) _ _ (run_equalIn_int w (m + 2) _ _ _ _ _ Tryd.underlying38)
    (eqFields_step w (m + 3) _ _ _ _ rfl _ _ (run_partA w _ _ _ 32 _ _ Tryd.underlying22 rfl kR (htag a)) (run_partA w _ _ _ 32 _ _ Tryd.underlying22 rfl kR (htag b)) _ _
      (run_equalIn_map by8 w (m + 2) _ _ 32 Tryd.underlying22 kR (isAgg_int Tryd.underlying5) (fun a b w => eqIn_by8 (m + 1) _ Tryd.underlying5 a b w) a.tag b.tag a.len b.len)
    (eqFields_nil w (m + 3) _ _)))))
set_option maxRecDepth 100000 in
theorem eqRq (a b : Rq) (w : World) : (Op.equalIn 10000 69 (.agg (rqL a).toArray) (.agg (rqL b).toArray)).run Tryd.prog w = .ok (decide (a = b)) w := by
  have hp : Tryd.prog.stoodInHeld 69 = false := by kernel_rfl
  have hf : Tryd.prog.underlying 69 = some (.struct (Tryd.prog.fieldsOf 69)) := by kernel_rfl
  have e : decide (a = b) = (((a.kind.toNat : Int) == (b.kind.toNat : Int)) && (decide (a.tok = b.tok) && (((a.pick.toNat : Int) == (b.pick.toNat : Int)) && (((a.drop.toNat : Int) == (b.drop.toNat : Int)) && (((a.number.toNat : Int) == (b.number.toNat : Int)) && true))))) := by
    rw [beqU8, beqU8, beqU8, beqU32, Bool.eq_iff_iff]
    simp only [decide_eq_true_eq, Bool.and_eq_true, and_true]
    constructor
    · rintro rfl; exact ⟨rfl, rfl, rfl, rfl, rfl⟩
    · rintro ⟨h1, h2, h3, h4, h5⟩
      exact Rq.ext' h1 h2 h3 h4 h5
  have htok : ∀ r : Rq, (rqL r).toArray.extract 1 (1 + 36) = (tokL r.tok).toArray := fun r => by
    have := rqL_tok r
    rw [← this]
    apply Array.ext'
    simp only [Array.toList_extract, List.extract_eq_take_drop]
  rw [e, run_equalIn_agg (P := Tryd.prog) w 9999 69 _ _ hf hp]
  unfold Program.fieldsOf
  rw [Tryd.underlying69]
  exact eqFields_step w 9999 _ _ _ _ rfl _ _ (run_part1 w _ _ _ _ _ Tryd.underlying5 rfl (rqL_0 a)) (run_part1 w _ _ _ _ _ Tryd.underlying5 rfl (rqL_0 b)) _ _ (run_equalIn_int w 9998 _ _ _ _ _ Tryd.underlying5)
    (eqFields_step w 9999 _ _ _ _ rfl _ _ (run_partA w _ _ _ 36 _ _ Tryd.underlying67 rfl kR (htok a)) (run_partA w _ _ _ 36 _ _ Tryd.underlying67 rfl kR (htok b)) _ _ (eqTm 9995 a.tok b.tok w)
    (eqFields_step w 9999 _ _ _ _ rfl _ _ (run_part1 w _ _ _ _ _ Tryd.underlying5 rfl (rqL_37 a)) (run_part1 w _ _ _ _ _ Tryd.underlying5 rfl (rqL_37 b)) _ _ (run_equalIn_int w 9998 _ _ _ _ _ Tryd.underlying5)
    (eqFields_step w 9999 _ _ _ _ rfl _ _ (run_part1 w _ _ _ _ _ Tryd.underlying5 rfl (rqL_38 a)) (run_part1 w _ _ _ _ _ Tryd.underlying5 rfl (rqL_38 b)) _ _ (run_equalIn_int w 9998 _ _ _ _ _ Tryd.underlying5)
    (eqFields_step w 9999 _ _ _ _ rfl _ _ (run_part1 w _ _ _ _ _ Tryd.underlying38 rfl (rqL_39 a)) (run_part1 w _ _ _ _ _ Tryd.underlying38 rfl (rqL_39 b)) _ _ (run_equalIn_int w 9998 _ _ _ _ _ Tryd.underlying38)
    (eqFields_nil w 9999 _ _)))))
theorem neqRq (a b : Rq) (w : World) : (binOp .neq 69 (.agg (rqL a).toArray) (.agg (rqL b).toArray)).run Tryd.prog w = .ok (.bool (!decide (a = b))) w := by
  rw [run_neq_struct, eqRq, Result.andThen_ok]
theorem eqGuardRq : Tryd.prog.eqGuardType Tryd.prog.depth 69 = false := by kernel_rfl
set_option maxRecDepth 100000 in
set_option maxHeartbeats 4000000 in
theorem checkRequest_s (r : Rq) (w0 : World) : Calls Tryd.prog 36 #[.agg (rqL r).toArray] w0 fun e w' => e = .returned (.int .i64 (rqE r)) ∧ Has w0 w' [] := by
  have S := Has.start w0
  have hrb := fun w => requestBody_s r w
  have hbv := fun w => bdyValid_s (bdyR r) w
  have hof := fun w => requestOf_s r.kind r.tok (bdyR r) w
  have hV : rqE r = if (decide (1 ≤ r.kind.toNat ∧ r.kind.toNat ≤ 6) && (bdyOk (bdyR r) && decide (ofB r.kind r.tok (bdyR r) = r))) = true then 0 else 8 := by unfold rqE; rw [rqV_body]
  obtain ⟨B, hB⟩ : ∃ B, B = bdyR r := ⟨_, rfl⟩
  rw [← hB] at hrb hbv hof hV
  obtain ⟨q, hq⟩ : ∃ q, q = ofB r.kind r.tok B := ⟨_, rfl⟩
  rw [← hq] at hof hV
  have eg := eqGuardRq
  have hne := fun w => neqRq q r w
  obtain ⟨d, hd⟩ : ∃ d, d = decide (q = r) := ⟨_, rfl⟩
  rw [← hd] at hne hV
  obtain ⟨o, ho⟩ : ∃ o, o = bdyOk B := ⟨_, rfl⟩
  rw [← ho] at hbv hV
  clear hB hq hd ho
  by_cases k1 : r.kind.toNat < 1
  · rw [show rqE r = 8 by rw [hV, decide_eq_false (by omega)]; rfl]
    have i1 : (r.kind.toNat : Int) < 1 := by omega
    have HRB := Lib.hid hrb; have HBV := Lib.hid hbv; have HOF := Lib.hid hof; clear hrb hbv hof
    clear hV hne k1
    go_enter Tryd.func36, Tryd.ntmps36
    go_wp2_with (first | ((with_reducible refine iD 1 (.box 69 (.tmp 0)) ?_); refine step_boxA (dst := some 1) S 69 (.tmp 0) _ rfl gw ?_; clear S; intro g1 w S) | ((with_reducible refine iO _ (.load 69 _) ?_); first | (refine step_load S 69 _ _ rfl _ _ _ pk _ Tryd.underlying69 rfl 40 kR lN gw ?_) | (refine step_loadO 69 _ _ rfl _ _ _ (S.old_heap (Hid.out (by assumption))) _ Tryd.underlying69 rfl 40 kR lN gw ?_) | (refine step_loadR 69 _ _ _ rfl _ (S.old_range hy) _ Tryd.underlying69 rfl 40 kR lN _ rfl gw ?_)) | (go_at_call 57; (with_reducible refine (HRB.out _).mono ?_); rintro e w1 ⟨rfl, T⟩; replace S := S.call T; clear T; (try simp only [z4, z5] at S)) | fail)
    refine wp_rely S [sv [] (.pointer (some ⟨g1, 0, none⟩)), sv [0] (by8 r.kind), sv [0, 1] (.bool true), sv [0, 1, 2] (.bool true), sv [0, 1, 2, 3] undef, sv [0, 1, 2, 3, 4] undef, sv [0, 1, 2, 3, 4, 5] undef, sv [0, 1, 2, 3, 4, 5, 6] (.bool true), sv [0, 1, 2, 3, 4, 5, 6, 7] (.bool true), sv [0, 1, 2, 3, 4, 5, 6, 7, 8] undef, sv [0, 1, 2, 3, 4, 5, 6, 7, 8, 9] undef, sv [0, 1, 2, 3, 4, 5, 6, 7, 8, 9, 10] undef, sv [0, 1, 2, 3, 4, 5, 6, 7, 8, 9, 10, 11] (.bool true), sv [0, 1, 2, 3, 4, 5, 6, 7, 8, 9, 10, 11, 12] (.bool true), sv [0, 1, 2, 3, 4, 5, 6, 7, 8, 9, 10, 11, 12, 13] undef, sv [0, 1, 2, 3, 4, 5, 6, 7, 8, 9, 10, 11, 12, 13, 14] undef, sv [0, 1, 2, 3, 4, 5, 6, 7, 8, 9, 10, 11, 12, 13] undef, sv [0, 1, 2, 3, 4, 5, 6, 7, 8, 9, 10, 11, 12, 13, 16] undef, sv [0, 1, 2, 3, 4, 5, 6, 7, 8, 9, 10, 11, 12, 13] undef, sv [0, 1, 2, 3, 4, 5, 6, 7, 8, 9, 10, 11, 12, 13, 14, 15, 16, 17, 18] undef, sv [0, 1, 2, 3, 4, 5, 6, 7, 8, 9, 10, 11, 12, 13] undef, sv [0, 1, 2, 3, 4, 5, 6, 7, 8, 9, 10, 11, 12, 13, 14, 15, 16, 17, 18, 19, 20] undef, sv [0, 1, 2, 3, 4, 5, 6, 7, 8, 9, 10, 11, 12, 13, 14, 15, 16, 17, 18, 19, 20, 21] (.bool true)] ?A1 ?hA1 kR kR kR [0, 1, 2, 3, 4, 5, 6, 7, 8, 9, 10, 11, 12, 13, 14, 15, 16, 17, 18, 19, 20, 21, 22] kR ?hok1 ?fin1
    case hA1 => intro u; simp only [putAll, List.length_cons, List.length_nil, Nat.zero_add, Nat.reduceAdd, dstAt, List.getElem?_toArray, List.getElem?_cons_zero, List.getElem?_cons_succ, Option.bind_some, Act.put, List.setIfInBounds_toArray, List.set_cons_zero, List.set_cons_succ]; rfl
    case hok1 =>
      intro i hi
      obtain rfl | rfl | rfl | rfl | rfl | rfl | rfl | rfl | rfl | rfl | rfl | rfl | rfl | rfl | rfl | rfl | rfl | rfl | rfl | rfl | rfl | rfl | rfl : i = 0 ∨ i = 1 ∨ i = 2 ∨ i = 3 ∨ i = 4 ∨ i = 5 ∨ i = 6 ∨ i = 7 ∨ i = 8 ∨ i = 9 ∨ i = 10 ∨ i = 11 ∨ i = 12 ∨ i = 13 ∨ i = 14 ∨ i = 15 ∨ i = 16 ∨ i = 17 ∨ i = 18 ∨ i = 19 ∨ i = 20 ∨ i = 21 ∨ i = 22 := by simp only [List.length_cons, List.length_nil, Nat.zero_add, Nat.reduceAdd] at hi; omega
      · exact oP []
      · clear hi
        refine step_of rfl rfl rfl ?_
        intro u G w hf S
        have f0 : u 0 = .pointer (some ⟨g1, 0, none⟩) := hf 0 (by simp)
        simp only [fl, z4, z5, z6, z7, ptrBlk] at S ⊢
        simp only [f0]
        refine does_load1 5 (.tmp 6) _ _ rfl (S.cell (g := g1) pk co) _ Tryd.underlying5 rfl ?_; exact ⟨rfl, S⟩
      · exact oP [1]
      · exact oP [2]
      · exact oX [3]
      · exact oX [3]
      · exact oX [3]
      · exact oP [3, 6]
      · exact oP [7]
      · exact oX [8]
      · exact oX [8]
      · exact oX [8]
      · exact oP [8, 11]
      · exact oP [12]
      · exact oX [13]
      · exact oX [13]
      · exact oX [13]
      · exact oX [13]
      · exact oX [13]
      · exact oX [13]
      · exact oX [13]
      · exact oX [13]
      · exact oP [13, 21]
    case fin1 =>
      intro u w hf S
      have hvA := allV hf
      simp only [AllV, RSpec.valAt, sv, Nat.zero_add, Nat.reduceAdd] at hvA
      simp only [fl, z4, z5, z6, z7, ptrBlk] at S
      clear hf
      simp only [List.length_cons, List.length_nil, Nat.zero_add, Nat.reduceAdd, List.drop_succ_cons, List.drop_zero, hvA]
      clear hvA
      go_wp2_with (first | fail)
      go_ret
      exact ⟨rfl, S.nil⟩
  by_cases k6 : 6 < r.kind.toNat
  · rw [show rqE r = 8 by rw [hV, decide_eq_false (by omega)]; rfl]
    have i1 : ¬ (r.kind.toNat : Int) < 1 := by omega
    have i2 : 6 < (r.kind.toNat : Int) := by omega
    have HRB := Lib.hid hrb; have HBV := Lib.hid hbv; have HOF := Lib.hid hof; clear hrb hbv hof
    clear hV hne k1 k6
    go_enter Tryd.func36, Tryd.ntmps36
    go_wp2_with (first | ((with_reducible refine iD 1 (.box 69 (.tmp 0)) ?_); refine step_boxA (dst := some 1) S 69 (.tmp 0) _ rfl gw ?_; clear S; intro g1 w S) | ((with_reducible refine iO _ (.load 69 _) ?_); first | (refine step_load S 69 _ _ rfl _ _ _ pk _ Tryd.underlying69 rfl 40 kR lN gw ?_) | (refine step_loadO 69 _ _ rfl _ _ _ (S.old_heap (Hid.out (by assumption))) _ Tryd.underlying69 rfl 40 kR lN gw ?_) | (refine step_loadR 69 _ _ _ rfl _ (S.old_range hy) _ Tryd.underlying69 rfl 40 kR lN _ rfl gw ?_)) | (go_at_call 57; (with_reducible refine (HRB.out _).mono ?_); rintro e w1 ⟨rfl, T⟩; replace S := S.call T; clear T; (try simp only [z4, z5] at S)) | fail)
    refine wp_rely S [sv [] (.pointer (some ⟨g1, 0, none⟩)), sv [0] (by8 r.kind), sv [0, 1] (.bool false), sv [0, 1, 2] (.bool false), sv [0, 1, 2, 3] (.pointer (some ⟨g1, 0, none⟩)), sv [0, 1, 2, 3, 4] (by8 r.kind), sv [0, 1, 2, 3, 4, 5] (.bool true), sv [0, 1, 2, 3, 4, 5, 6] (.bool true), sv [0, 1, 2, 3, 4, 5, 6, 7] (.bool true), sv [0, 1, 2, 3, 4, 5, 6, 7, 8] undef, sv [0, 1, 2, 3, 4, 5, 6, 7, 8, 9] undef, sv [0, 1, 2, 3, 4, 5, 6, 7, 8, 9, 10] undef, sv [0, 1, 2, 3, 4, 5, 6, 7, 8, 9, 10, 11] (.bool true), sv [0, 1, 2, 3, 4, 5, 6, 7, 8, 9, 10, 11, 12] (.bool true), sv [0, 1, 2, 3, 4, 5, 6, 7, 8, 9, 10, 11, 12, 13] undef, sv [0, 1, 2, 3, 4, 5, 6, 7, 8, 9, 10, 11, 12, 13, 14] undef, sv [0, 1, 2, 3, 4, 5, 6, 7, 8, 9, 10, 11, 12, 13] undef, sv [0, 1, 2, 3, 4, 5, 6, 7, 8, 9, 10, 11, 12, 13, 16] undef, sv [0, 1, 2, 3, 4, 5, 6, 7, 8, 9, 10, 11, 12, 13] undef, sv [0, 1, 2, 3, 4, 5, 6, 7, 8, 9, 10, 11, 12, 13, 14, 15, 16, 17, 18] undef, sv [0, 1, 2, 3, 4, 5, 6, 7, 8, 9, 10, 11, 12, 13] undef, sv [0, 1, 2, 3, 4, 5, 6, 7, 8, 9, 10, 11, 12, 13, 14, 15, 16, 17, 18, 19, 20] undef, sv [0, 1, 2, 3, 4, 5, 6, 7, 8, 9, 10, 11, 12, 13, 14, 15, 16, 17, 18, 19, 20, 21] (.bool true)] ?A2 ?hA2 kR kR kR [0, 1, 2, 3, 4, 5, 6, 7, 8, 9, 10, 11, 12, 13, 14, 15, 16, 17, 18, 19, 20, 21, 22] kR ?hok2 ?fin2
    case hA2 => intro u; simp only [putAll, List.length_cons, List.length_nil, Nat.zero_add, Nat.reduceAdd, dstAt, List.getElem?_toArray, List.getElem?_cons_zero, List.getElem?_cons_succ, Option.bind_some, Act.put, List.setIfInBounds_toArray, List.set_cons_zero, List.set_cons_succ]; rfl
    case hok2 =>
      intro i hi
      obtain rfl | rfl | rfl | rfl | rfl | rfl | rfl | rfl | rfl | rfl | rfl | rfl | rfl | rfl | rfl | rfl | rfl | rfl | rfl | rfl | rfl | rfl | rfl : i = 0 ∨ i = 1 ∨ i = 2 ∨ i = 3 ∨ i = 4 ∨ i = 5 ∨ i = 6 ∨ i = 7 ∨ i = 8 ∨ i = 9 ∨ i = 10 ∨ i = 11 ∨ i = 12 ∨ i = 13 ∨ i = 14 ∨ i = 15 ∨ i = 16 ∨ i = 17 ∨ i = 18 ∨ i = 19 ∨ i = 20 ∨ i = 21 ∨ i = 22 := by simp only [List.length_cons, List.length_nil, Nat.zero_add, Nat.reduceAdd] at hi; omega
      · exact oP []
      · clear hi
        refine step_of rfl rfl rfl ?_
        intro u G w hf S
        have f0 : u 0 = .pointer (some ⟨g1, 0, none⟩) := hf 0 (by simp)
        simp only [fl, z4, z5, z6, z7, ptrBlk] at S ⊢
        simp only [f0]
        refine does_load1 5 (.tmp 6) _ _ rfl (S.cell (g := g1) pk co) _ Tryd.underlying5 rfl ?_; exact ⟨rfl, S⟩
      · exact oP [1]
      · exact oP [2]
      · exact oG [3]
      · clear hi
        refine step_of_g rfl rfl ?_
        intro u G w hf S
        have f3 : u 3 = (.bool false) := hf 3 (by simp)
        have f4 : u 4 = .pointer (some ⟨g1, 0, none⟩) := hf 4 (by simp)
        simp only [fl, z4, z5, z6, z7, ptrBlk] at S ⊢
        simp only [f3, f4]
        refine ⟨rfl, ?_⟩
        refine does_load1 5 (.tmp 10) _ _ rfl (S.cell (g := g1) pk co) _ Tryd.underlying5 rfl ?_; exact ⟨rfl, S⟩
      · exact oG [3, 5]
      · exact oP [3, 6]
      · exact oP [7]
      · exact oX [8]
      · exact oX [8]
      · exact oX [8]
      · exact oP [8, 11]
      · exact oP [12]
      · exact oX [13]
      · exact oX [13]
      · exact oX [13]
      · exact oX [13]
      · exact oX [13]
      · exact oX [13]
      · exact oX [13]
      · exact oX [13]
      · exact oP [13, 21]
    case fin2 =>
      intro u w hf S
      have hvA := allV hf
      simp only [AllV, RSpec.valAt, sv, Nat.zero_add, Nat.reduceAdd] at hvA
      simp only [fl, z4, z5, z6, z7, ptrBlk] at S
      clear hf
      simp only [List.length_cons, List.length_nil, Nat.zero_add, Nat.reduceAdd, List.drop_succ_cons, List.drop_zero, hvA]
      clear hvA
      go_wp2_with (first | fail)
      go_ret
      exact ⟨rfl, S.nil⟩
  rw [decide_eq_true (by omega)] at hV
  have i1 : ¬ (r.kind.toNat : Int) < 1 := by omega
  have i2 : ¬ 6 < (r.kind.toNat : Int) := by omega
  clear k1 k6
  cases o
  · rw [show rqE r = 8 from hV]
    have HRB := Lib.hid hrb; have HBV := Lib.hid hbv; have HOF := Lib.hid hof; clear hrb hbv hof
    clear hV hne
    go_enter Tryd.func36, Tryd.ntmps36
    go_wp2_with (first | ((with_reducible refine iD 1 (.box 69 (.tmp 0)) ?_); refine step_boxA (dst := some 1) S 69 (.tmp 0) _ rfl gw ?_; clear S; intro g1 w S) | ((with_reducible refine iO _ (.load 69 _) ?_); first | (refine step_load S 69 _ _ rfl _ _ _ pk _ Tryd.underlying69 rfl 40 kR lN gw ?_) | (refine step_loadO 69 _ _ rfl _ _ _ (S.old_heap (Hid.out (by assumption))) _ Tryd.underlying69 rfl 40 kR lN gw ?_) | (refine step_loadR 69 _ _ _ rfl _ (S.old_range hy) _ Tryd.underlying69 rfl 40 kR lN _ rfl gw ?_)) | (go_at_call 57; (with_reducible refine (HRB.out _).mono ?_); rintro e w1 ⟨rfl, T⟩; replace S := S.call T; clear T; (try simp only [z4, z5] at S)) | fail)
    refine wp_rely S [sv [] (.pointer (some ⟨g1, 0, none⟩)), sv [0] (by8 r.kind), sv [0, 1] (.bool false), sv [0, 1, 2] (.bool false), sv [0, 1, 2, 3] (.pointer (some ⟨g1, 0, none⟩)), sv [0, 1, 2, 3, 4] (by8 r.kind), sv [0, 1, 2, 3, 4, 5] (.bool false), sv [0, 1, 2, 3, 4, 5, 6] (.bool false), sv [0, 1, 2, 3, 4, 5, 6, 7] (.bool false), sv [0, 1, 2, 3, 4, 5, 6, 7, 8] (bdyV B), sv [0, 1, 2, 3, 4, 5, 6, 7, 8, 9] (.bool false), sv [0, 1, 2, 3, 4, 5, 6, 7, 8, 9, 10] (.bool true), sv [0, 1, 2, 3, 4, 5, 6, 7, 8, 9, 10, 11] (.bool true), sv [0, 1, 2, 3, 4, 5, 6, 7, 8, 9, 10, 11, 12] (.bool true), sv [0, 1, 2, 3, 4, 5, 6, 7, 8, 9, 10, 11, 12, 13] undef, sv [0, 1, 2, 3, 4, 5, 6, 7, 8, 9, 10, 11, 12, 13, 14] undef, sv [0, 1, 2, 3, 4, 5, 6, 7, 8, 9, 10, 11, 12, 13] undef, sv [0, 1, 2, 3, 4, 5, 6, 7, 8, 9, 10, 11, 12, 13, 16] undef, sv [0, 1, 2, 3, 4, 5, 6, 7, 8, 9, 10, 11, 12, 13] undef, sv [0, 1, 2, 3, 4, 5, 6, 7, 8, 9, 10, 11, 12, 13, 14, 15, 16, 17, 18] undef, sv [0, 1, 2, 3, 4, 5, 6, 7, 8, 9, 10, 11, 12, 13] undef, sv [0, 1, 2, 3, 4, 5, 6, 7, 8, 9, 10, 11, 12, 13, 14, 15, 16, 17, 18, 19, 20] undef, sv [0, 1, 2, 3, 4, 5, 6, 7, 8, 9, 10, 11, 12, 13, 14, 15, 16, 17, 18, 19, 20, 21] (.bool true)] ?A3 ?hA3 kR kR kR [0, 1, 2, 3, 4, 5, 6, 7, 8, 9, 10, 11, 12, 13, 14, 15, 16, 17, 18, 19, 20, 21, 22] kR ?hok3 ?fin3
    case hA3 => intro u; simp only [putAll, List.length_cons, List.length_nil, Nat.zero_add, Nat.reduceAdd, dstAt, List.getElem?_toArray, List.getElem?_cons_zero, List.getElem?_cons_succ, Option.bind_some, Act.put, List.setIfInBounds_toArray, List.set_cons_zero, List.set_cons_succ]; rfl
    case hok3 =>
      intro i hi
      obtain rfl | rfl | rfl | rfl | rfl | rfl | rfl | rfl | rfl | rfl | rfl | rfl | rfl | rfl | rfl | rfl | rfl | rfl | rfl | rfl | rfl | rfl | rfl : i = 0 ∨ i = 1 ∨ i = 2 ∨ i = 3 ∨ i = 4 ∨ i = 5 ∨ i = 6 ∨ i = 7 ∨ i = 8 ∨ i = 9 ∨ i = 10 ∨ i = 11 ∨ i = 12 ∨ i = 13 ∨ i = 14 ∨ i = 15 ∨ i = 16 ∨ i = 17 ∨ i = 18 ∨ i = 19 ∨ i = 20 ∨ i = 21 ∨ i = 22 := by simp only [List.length_cons, List.length_nil, Nat.zero_add, Nat.reduceAdd] at hi; omega
      · exact oP []
      · clear hi
        refine step_of rfl rfl rfl ?_
        intro u G w hf S
        have f0 : u 0 = .pointer (some ⟨g1, 0, none⟩) := hf 0 (by simp)
        simp only [fl, z4, z5, z6, z7, ptrBlk] at S ⊢
        simp only [f0]
        refine does_load1 5 (.tmp 6) _ _ rfl (S.cell (g := g1) pk co) _ Tryd.underlying5 rfl ?_; exact ⟨rfl, S⟩
      · exact oP [1]
      · exact oP [2]
      · exact oG [3]
      · clear hi
        refine step_of_g rfl rfl ?_
        intro u G w hf S
        have f3 : u 3 = (.bool false) := hf 3 (by simp)
        have f4 : u 4 = .pointer (some ⟨g1, 0, none⟩) := hf 4 (by simp)
        simp only [fl, z4, z5, z6, z7, ptrBlk] at S ⊢
        simp only [f3, f4]
        refine ⟨rfl, ?_⟩
        refine does_load1 5 (.tmp 10) _ _ rfl (S.cell (g := g1) pk co) _ Tryd.underlying5 rfl ?_; exact ⟨rfl, S⟩
      · exact oG [3, 5]
      · exact oP [3, 6]
      · exact oP [7]
      · exact oG [8]
      · clear hi
        refine step_of_g rfl rfl ?_
        intro u G w hf S
        have f8 : u 8 = (.bool false) := hf 8 (by simp)
        have f9 : u 9 = (bdyV B) := hf 9 (by simp)
        simp only [fl, z4, z5, z6, z7, ptrBlk] at S ⊢
        simp only [f8, f9]
        refine ⟨rfl, ?_⟩
        obtain ⟨f, rv, hr, hc⟩ := HBV.out w; refine does_inv (.tmp 15) "dunnage/wire.valid" [] _ _ [] f #[rv] rfl rfl hr hc ?_; rintro e w1 ⟨rfl, T⟩; exact ⟨_, rfl, rfl, S.call T⟩
      · exact oG [8, 10]
      · exact oP [8, 11]
      · exact oP [12]
      · exact oX [13]
      · exact oX [13]
      · exact oX [13]
      · exact oX [13]
      · exact oX [13]
      · exact oX [13]
      · exact oX [13]
      · exact oX [13]
      · exact oP [13, 21]
    case fin3 =>
      intro u w hf S
      have hvA := allV hf
      simp only [AllV, RSpec.valAt, sv, Nat.zero_add, Nat.reduceAdd] at hvA
      simp only [fl, z4, z5, z6, z7, ptrBlk] at S
      clear hf
      simp only [List.length_cons, List.length_nil, Nat.zero_add, Nat.reduceAdd, List.drop_succ_cons, List.drop_zero, hvA]
      clear hvA
      go_wp2_with (first | fail)
      go_ret
      exact ⟨rfl, S.nil⟩
  · rw [show rqE r = if d = true then 0 else 8 from hV]
    have HRB := Lib.hid hrb; have HBV := Lib.hid hbv; have HOF := Lib.hid hof; clear hrb hbv hof
    clear hV
    go_enter Tryd.func36, Tryd.ntmps36
    go_wp2_with (first | ((with_reducible refine iD 1 (.box 69 (.tmp 0)) ?_); refine step_boxA (dst := some 1) S 69 (.tmp 0) _ rfl gw ?_; clear S; intro g1 w S) | ((with_reducible refine iO _ (.load 69 _) ?_); first | (refine step_load S 69 _ _ rfl _ _ _ pk _ Tryd.underlying69 rfl 40 kR lN gw ?_) | (refine step_loadO 69 _ _ rfl _ _ _ (S.old_heap (Hid.out (by assumption))) _ Tryd.underlying69 rfl 40 kR lN gw ?_) | (refine step_loadR 69 _ _ _ rfl _ (S.old_range hy) _ Tryd.underlying69 rfl 40 kR lN _ rfl gw ?_)) | (go_at_call 57; (with_reducible refine (HRB.out _).mono ?_); rintro e w1 ⟨rfl, T⟩; replace S := S.call T; clear T; (try simp only [z4, z5] at S)) | fail)
    refine wp_rely S [sv [] (.pointer (some ⟨g1, 0, none⟩)), sv [0] (by8 r.kind), sv [0, 1] (.bool false), sv [0, 1, 2] (.bool false), sv [0, 1, 2, 3] (.pointer (some ⟨g1, 0, none⟩)), sv [0, 1, 2, 3, 4] (by8 r.kind), sv [0, 1, 2, 3, 4, 5] (.bool false), sv [0, 1, 2, 3, 4, 5, 6] (.bool false), sv [0, 1, 2, 3, 4, 5, 6, 7] (.bool false), sv [0, 1, 2, 3, 4, 5, 6, 7, 8] (bdyV B), sv [0, 1, 2, 3, 4, 5, 6, 7, 8, 9] (.bool true), sv [0, 1, 2, 3, 4, 5, 6, 7, 8, 9, 10] (.bool false), sv [0, 1, 2, 3, 4, 5, 6, 7, 8, 9, 10, 11] (.bool false), sv [0, 1, 2, 3, 4, 5, 6, 7, 8, 9, 10, 11, 12] (.bool false), sv [0, 1, 2, 3, 4, 5, 6, 7, 8, 9, 10, 11, 12, 13] (.pointer (some ⟨g1, 0, none⟩)), sv [0, 1, 2, 3, 4, 5, 6, 7, 8, 9, 10, 11, 12, 13, 14] (by8 r.kind), sv [0, 1, 2, 3, 4, 5, 6, 7, 8, 9, 10, 11, 12, 13] (.pointer (some ⟨g1, 1, none⟩)), sv [0, 1, 2, 3, 4, 5, 6, 7, 8, 9, 10, 11, 12, 13, 16] (.agg (tokL r.tok).toArray), sv [0, 1, 2, 3, 4, 5, 6, 7, 8, 9, 10, 11, 12, 13] (bdyV B), sv [0, 1, 2, 3, 4, 5, 6, 7, 8, 9, 10, 11, 12, 13, 14, 15, 16, 17, 18] (.agg (rqL q).toArray), sv [0, 1, 2, 3, 4, 5, 6, 7, 8, 9, 10, 11, 12, 13] (.agg (rqL r).toArray), sv [0, 1, 2, 3, 4, 5, 6, 7, 8, 9, 10, 11, 12, 13, 14, 15, 16, 17, 18, 19, 20] (.bool (!d)), sv [0, 1, 2, 3, 4, 5, 6, 7, 8, 9, 10, 11, 12, 13, 14, 15, 16, 17, 18, 19, 20, 21] (.bool (!d))] ?A4 ?hA4 kR kR kR [0, 1, 2, 3, 4, 5, 6, 7, 8, 9, 10, 11, 12, 13, 14, 15, 16, 17, 18, 19, 20, 21, 22] kR ?hok4 ?fin4
    case hA4 => intro u; simp only [putAll, List.length_cons, List.length_nil, Nat.zero_add, Nat.reduceAdd, dstAt, List.getElem?_toArray, List.getElem?_cons_zero, List.getElem?_cons_succ, Option.bind_some, Act.put, List.setIfInBounds_toArray, List.set_cons_zero, List.set_cons_succ]; rfl
    case hok4 =>
      intro i hi
      obtain rfl | rfl | rfl | rfl | rfl | rfl | rfl | rfl | rfl | rfl | rfl | rfl | rfl | rfl | rfl | rfl | rfl | rfl | rfl | rfl | rfl | rfl | rfl : i = 0 ∨ i = 1 ∨ i = 2 ∨ i = 3 ∨ i = 4 ∨ i = 5 ∨ i = 6 ∨ i = 7 ∨ i = 8 ∨ i = 9 ∨ i = 10 ∨ i = 11 ∨ i = 12 ∨ i = 13 ∨ i = 14 ∨ i = 15 ∨ i = 16 ∨ i = 17 ∨ i = 18 ∨ i = 19 ∨ i = 20 ∨ i = 21 ∨ i = 22 := by simp only [List.length_cons, List.length_nil, Nat.zero_add, Nat.reduceAdd] at hi; omega
      · exact oP []
      · clear hi
        refine step_of rfl rfl rfl ?_
        intro u G w hf S
        have f0 : u 0 = .pointer (some ⟨g1, 0, none⟩) := hf 0 (by simp)
        simp only [fl, z4, z5, z6, z7, ptrBlk] at S ⊢
        simp only [f0]
        refine does_load1 5 (.tmp 6) _ _ rfl (S.cell (g := g1) pk co) _ Tryd.underlying5 rfl ?_; exact ⟨rfl, S⟩
      · exact oP [1]
      · exact oP [2]
      · exact oG [3]
      · clear hi
        refine step_of_g rfl rfl ?_
        intro u G w hf S
        have f3 : u 3 = (.bool false) := hf 3 (by simp)
        have f4 : u 4 = .pointer (some ⟨g1, 0, none⟩) := hf 4 (by simp)
        simp only [fl, z4, z5, z6, z7, ptrBlk] at S ⊢
        simp only [f3, f4]
        refine ⟨rfl, ?_⟩
        refine does_load1 5 (.tmp 10) _ _ rfl (S.cell (g := g1) pk co) _ Tryd.underlying5 rfl ?_; exact ⟨rfl, S⟩
      · exact oG [3, 5]
      · exact oP [3, 6]
      · exact oP [7]
      · exact oG [8]
      · clear hi
        refine step_of_g rfl rfl ?_
        intro u G w hf S
        have f8 : u 8 = (.bool false) := hf 8 (by simp)
        have f9 : u 9 = (bdyV B) := hf 9 (by simp)
        simp only [fl, z4, z5, z6, z7, ptrBlk] at S ⊢
        simp only [f8, f9]
        refine ⟨rfl, ?_⟩
        obtain ⟨f, rv, hr, hc⟩ := HBV.out w; refine does_inv (.tmp 15) "dunnage/wire.valid" [] _ _ [] f #[rv] rfl rfl hr hc ?_; rintro e w1 ⟨rfl, T⟩; exact ⟨_, rfl, rfl, S.call T⟩
      · exact oG [8, 10]
      · exact oP [8, 11]
      · exact oP [12]
      · exact oG [13]
      · clear hi
        refine step_of_g rfl rfl ?_
        intro u G w hf S
        have f13 : u 13 = (.bool false) := hf 13 (by simp)
        have f14 : u 14 = .pointer (some ⟨g1, 0, none⟩) := hf 14 (by simp)
        simp only [fl, z4, z5, z6, z7, ptrBlk] at S ⊢
        simp only [f13, f14]
        refine ⟨rfl, ?_⟩
        refine does_load1 5 (.tmp 20) _ _ rfl (S.cell (g := g1) pk co) _ Tryd.underlying5 rfl ?_; exact ⟨rfl, S⟩
      · exact oG [13]
      · clear hi
        refine step_of_g rfl rfl ?_
        intro u G w hf S
        have f13 : u 13 = (.bool false) := hf 13 (by simp)
        have f16 : u 16 = .pointer (some ⟨g1, 1, none⟩) := hf 16 (by simp)
        simp only [fl, z4, z5, z6, z7, ptrBlk] at S ⊢
        simp only [f13, f16]
        refine ⟨rfl, ?_⟩
        refine does_loadP S 67 (.tmp 22) _ _ rfl _ _ _ pk 36 _ pT lN _ Tryd.underlying67 rfl kR ?_; exact ⟨rfl, S⟩
      · exact oG [13]
      · clear hi
        refine step_of_g rfl rfl ?_
        intro u G w hf S
        have f13 : u 13 = (.bool false) := hf 13 (by simp)
        have f15 : u 15 = by8 r.kind := hf 15 (by simp)
        have f17 : u 17 = .agg (tokL r.tok).toArray := hf 17 (by simp)
        have f18 : u 18 = (bdyV B) := hf 18 (by simp)
        simp only [fl, z4, z5, z6, z7, ptrBlk] at S ⊢
        simp only [f13, f15, f17, f18]
        refine ⟨rfl, ?_⟩
        refine does_fn (args := [(by8 r.kind), (.agg (tokL r.tok).toArray), ((bdyV B))]) Tryd.func64 kR kR (HOF.out w) rfl ?_
        rintro e w1 ⟨rfl, T⟩
        exact ⟨_, rfl, rfl, S.call T⟩
      · clear hi
        refine step_of_g rfl rfl ?_
        intro u G w hf S
        have f13 : u 13 = (.bool false) := hf 13 (by simp)
        simp only [fl, z4, z5, z6, z7, ptrBlk] at S ⊢
        simp only [f13]
        refine ⟨rfl, ?_⟩
        refine does_load 69 (.tmp 1) g1 rfl _ _ _ (S.get (r := blk g1 _) pk) _ Tryd.underlying69 rfl 40 kR lN ?_; exact ⟨rfl, S⟩
      · exact oG [13, 19, 20]
      · exact oP [13, 21]
    case fin4 =>
      intro u w hf S
      have hvA := allV hf
      simp only [AllV, RSpec.valAt, sv, Nat.zero_add, Nat.reduceAdd] at hvA
      simp only [fl, z4, z5, z6, z7, ptrBlk] at S
      clear hf
      simp only [List.length_cons, List.length_nil, Nat.zero_add, Nat.reduceAdd, List.drop_succ_cons, List.drop_zero, hvA]
      clear hvA
      cases d
      · go_wp2_with (first | fail)
        go_ret
        exact ⟨rfl, S.nil⟩
      · go_wp2_with (first | fail)
        go_ret
        exact ⟨rfl, S.nil⟩
end Go.Proofs.YtfhkmmagpnojmaaDoor

/- The encoding of a request: the program's. No condition but the reach. -/
namespace Go.Proofs.YtfhkmmagpnojmaaDoor
open Go.RowKit

set_option maxRecDepth 100000 in
set_option maxHeartbeats 4000000 in
theorem ticketWrite_s (t : Tok) (g : Nat) (vv : Value) (xs : List UInt8) (w0 w1 : World) (F : List Res) (S : Has w0 w1 (wrt g vv :: row8 vv xs :: F)) (hl : xs.length + 46 ≤ 140737488355328) :
    Calls Tryd.prog 56 #[.agg (tokL t).toArray, .pointer (some ⟨g, 0, none⟩)] w1 (Wrote w0 g (xs ++ encT t) F) := by
  have p1 := fun w => enc_s t w
  have h1 : xs.length + (encT t).length ≤ 140737488355328 := by rw [encT_length]; exact hl
  obtain ⟨E, hE⟩ : ∃ E, E = encT t := ⟨_, rfl⟩
  rw [← hE] at p1 h1 ⊢
  have P1 := Lib.hid p1; have H1 := Lib.hid h1; clear p1 h1
  clear hE hl
  go_enter Tryd.func56, Tryd.ntmps56
  go_wp2_with (first | ((with_reducible refine iD 2 (.box 114 (.tmp 0)) ?_); refine step_boxA (dst := some 2) S 114 (.tmp 0) _ rfl rfl ?_; clear S; intro g2 w S) | fail)
  have S := (S.pick2 (r := wrt g vv) (s := row8 vv xs) pk pk).join
  refine wp_relyW (e1 := noRes) 4 (S.pick (r := both (wrt g vv) (row8 vv xs)) pk) [sv [] ((.pointer (some ⟨g, 0, none⟩))), sv [] ((.pointer (some ⟨g, 0, none⟩))), sv [1] (.pointer (some ⟨g, 0, none⟩)), sv [1, 2] (.pointer (some ⟨g, 0, none⟩)), ⟨[1, 2, 3], [], [], fun _ v => v = vv, fun _ v => [wrt g vv, row8 vv xs]⟩, sv [] (.agg (tokL t).toArray), ⟨[5], [], [], fun _ v => ∃ y, v = y, fun _ v => [row8 v E]⟩, ⟨[1, 2, 3, 4, 5, 6], [4, 6], [], fun _ v => True, fun _ v => [wrt g vv, row8 v (xs ++ E)]⟩, sv [0, 1, 2, 3, 4, 5, 6, 7] (.pointer (some ⟨g, 0, none⟩)), sv [0, 1, 2, 3, 4, 5, 6, 7, 8] (.pointer (some ⟨g, 0, none⟩)), ⟨[0, 1, 2, 3, 4, 5, 6, 7, 8, 9], [7], [], fun _ v => True, fun d v => [wrt g (d 7), row8 (d 7) (xs ++ E)]⟩] ?A1 ?hA1 kR kR kR [0, 1, 2, 3, 5, 8, 9, 10] kR (of_decide_eq_true rfl) ?hok1 ?fin1
  case hA1 => intro u; simp only [putAll, List.length_cons, List.length_nil, Nat.zero_add, Nat.reduceAdd, dstAt, List.getElem?_toArray, List.getElem?_cons_zero, List.getElem?_cons_succ, Option.bind_some, Act.put, List.setIfInBounds_toArray, List.set_cons_zero, List.set_cons_succ]; rfl
  case hok1 =>
    intro i hi
    obtain rfl | rfl | rfl | rfl | rfl | rfl | rfl | rfl | rfl | rfl | rfl : i = 0 ∨ i = 1 ∨ i = 2 ∨ i = 3 ∨ i = 4 ∨ i = 5 ∨ i = 6 ∨ i = 7 ∨ i = 8 ∨ i = 9 ∨ i = 10 := by simp only [List.length_cons, List.length_nil, Nat.zero_add, Nat.reduceAdd] at hi; omega
    · rw [if_neg (by decide)]; intro r0; exact oP []
    · rw [if_neg (by decide)]; intro r0; exact oP []
    · rw [if_neg (by decide)]; intro r0; exact oP [1]
    · rw [if_neg (by decide)]; intro r0; exact oP [2]
    · clear hi
      rw [if_pos rfl]
      refine step_ofW rfl rfl rfl ?_
      intro u G w hf S
      have f3 : u 3 = .pointer (some ⟨g, 0, none⟩) := hf 3 (by simp)
      simp only [fl, z4, z5, z6, z7, ptrBlk] at S ⊢
      simp only [f3]
      refine does_load1 25 (.tmp 7) _ _ rfl (S.taken.cell (g := g) (Pick.head _ _) rfl) _ Tryd.underlying25 rfl ?_; exact ⟨rfl, S.taken⟩
    · clear hi
      rw [if_neg (by decide)]; intro r0
      refine step_of rfl rfl rfl ?_
      intro u G w hf S
      simp only [fl, z4, z5, z6, z7, ptrBlk] at S ⊢
      refine does_load 114 (.tmp 2) g2 rfl _ _ _ (S.get (r := blk g2 _) pk) _ Tryd.underlying114 rfl 36 kR lN ?_; exact ⟨rfl, S⟩
    · clear hi
      rw [if_neg (by decide)]; intro r0
      refine step_of rfl rfl rfl ?_
      intro u G w hf S
      have f5 : u 5 = .agg (tokL t).toArray := hf 5 (by simp)
      simp only [fl, z4, z5, z6, z7, ptrBlk] at S ⊢
      simp only [f5]
      refine does_fn (args := [(.agg (tokL t).toArray)]) Tryd.func35 kR kR (P1.out w) rfl ?_
      rintro e w1 ⟨y, rfl, T⟩
      exact ⟨_, rfl, ⟨_, rfl⟩, S.call T⟩
    · clear hi
      rw [if_neg (by decide)]; intro r0
      refine step_of rfl rfl rfl ?_
      intro u G w hf S
      have f4 : u 4 = vv := hf 4 (by simp)
      have f6 : ∃ y, u 6 = y := hf 6 (by simp)
      obtain ⟨y10, f6⟩ := f6
      simp only [fl, z4, z5, z6, z7, ptrBlk] at S ⊢
      simp only [f4, f6] at S ⊢
      try simp only [ptrBlk] at S
      refine does_append8 (.tmp 8) (.tmp 10) vv xs rfl (S.pick (r := row8 vv xs) pk) y10 E rfl (S.bs (xs := E) pk) H1.out ?_; intro v' w' S; exact ⟨trivial, (S.drop (Pick.tail (Pick.tail (Pick.head _ _)))).perm (List.Perm.swap _ _ _)⟩
    · rw [if_neg (by decide)]; intro r0; exact oP [0]
    · rw [if_neg (by decide)]; intro r0; exact oP [8]
    · clear hi
      rw [if_neg (by decide)]; intro r0
      refine step_of rfl rfl rfl ?_
      intro u G w hf S
      have f6 : ∃ y, u 6 = y := hf 6 (by simp)
      obtain ⟨y10, f6⟩ := f6
      have f9 : u 9 = .pointer (some ⟨g, 0, none⟩) := hf 9 (by simp)
      have m7 : mask [0, 1, 2, 3, 4, 5, 6, 7, 8, 9] u 7 = u 7 := rfl
      simp only [fl, z4, z5, z6, z7, m7, ptrBlk] at S ⊢
      simp only [m7, f6, f9] at S ⊢
      try simp only [ptrBlk] at S
      refine does_store1 S 25 (.tmp 13) (.tmp 11) 0 (u 7) rfl rfl kR (one_sl (S.bs (xs := xs ++ E) pk)).2 (one_sl (S.bs (xs := xs ++ E) pk)).1 Nat.one_pos ?_; intro w1 S; exact ⟨trivial, S⟩
  case fin1 =>
    intro u w hf S
    have f6 : ∃ y, u 6 = y := hf 6 (by simp)
    obtain ⟨y10, f6⟩ := f6
    have m10_7 : mask [0, 1, 2, 3, 4, 5, 6, 7, 8, 9] u 7 = u 7 := rfl
    have hvA := allV hf
    simp only [AllV, RSpec.valAt, sv, Nat.zero_add, Nat.reduceAdd, m10_7] at hvA
    simp only [fl, z4, z5, z6, z7, m10_7, ptrBlk] at S
    clear hf
    simp only [List.length_cons, List.length_nil, Nat.zero_add, Nat.reduceAdd, List.drop_succ_cons, List.drop_zero, f6, hvA]
    try simp only [f6, hvA, ptrBlk] at S
    clear f6 hvA m10_7
    generalize u 7 = v11 at S ⊢
    go_wp2_with (first | fail)
    go_end0
    exact ⟨rfl, _, (S.drop (Pick.tail (Pick.tail (Pick.head _ _)))).drop (Pick.tail (Pick.tail (Pick.head _ _)))⟩
theorem Has.nil8 {w0 w : World} {l : List Res} (S : Has w0 w l) : Has w0 w (row8 (.slice none 0 0) [] :: l) := S.nil_row 5 1
def encRE (r : Rq) : List UInt8 := if rqV r then encR r else []
set_option maxRecDepth 100000 in
set_option maxHeartbeats 8000000 in
theorem encodeRequest_s (r : Rq) (w0 : World) : Calls Tryd.prog 32 #[.agg (rqL r).toArray] w0 (MadeE w0 (encRE r) (rqE r)) := by
  have S := Has.start w0
  have hck := fun w => checkRequest_s r w
  cases hv : rqV r
  · have hE : rqE r = 8 := by unfold rqE; rw [hv]; rfl
    have hX : encRE r = [] := by unfold encRE; rw [hv]; rfl
    rw [hE, hX]
    rw [hE] at hck
    have HCK := Lib.hid hck; clear hck
    clear hv hE hX
    go_enter Tryd.func32, Tryd.ntmps32
    go_wp2_with (first | ((with_reducible refine iD 1 (.box 69 (.tmp 0)) ?_); refine step_boxA (dst := some 1) S 69 (.tmp 0) _ rfl rfl ?_; clear S; intro g1 w S) | ((with_reducible refine iO _ (.load 69 _) ?_); first | (refine step_load S 69 _ _ rfl _ _ _ pk _ Tryd.underlying69 rfl 40 kR lN rfl ?_) | (refine step_loadO 69 _ _ rfl _ _ _ (S.old_heap (Hid.out (by assumption))) _ Tryd.underlying69 rfl 40 kR lN rfl ?_) | (refine step_loadR 69 _ _ _ rfl _ (S.old_range hy) _ Tryd.underlying69 rfl 40 kR lN _ rfl rfl ?_)) | (go_at_call 36; (with_reducible refine (HCK.out _).mono ?_); rintro e w1 ⟨rfl, T⟩; replace S := S.call T; clear T; (try simp only [z4, z5] at S)) | fail)
    go_ret2
    exact ⟨_, rfl, S.nil.nil_row 5 1⟩
  · have hE : rqE r = 0 := by unfold rqE; rw [hv]; rfl
    have hX : encRE r = frm ([] ++ numB r.kind.toNat 1 ++ encT r.tok ++ bdyB (bdyR r)) := by
      unfold encRE
      rw [hv, if_pos rfl]
      unfold encR inR
      rw [numB_one, List.nil_append]
      congr 2
      unfold rqB bdyR
      split
      · simp [bdyB, numB_one]
      · split
        · rfl
        · split
          · rfl
          · rfl
    rw [hE, hX]
    rw [hE] at hck
    have hrb := fun w => requestBody_s r w
    have hk := r.kind.toNat_lt
    have hbl : (bdyB (bdyR r)).length ≤ 4 := by
      cases bdyR r <;> simp [bdyB, numB_length]
    obtain ⟨B, hB⟩ : ∃ B, B = bdyR r := ⟨_, rfl⟩
    rw [← hB] at hrb hbl ⊢
    have p1 := fun g v w F S => wuint_i (r.kind.toNat : Int) r.kind.toNat rfl 1 1 rfl g v [] w0 w F S (by omega) (by decide) (by decide)
    have l1 : (([] : List UInt8) ++ numB r.kind.toNat 1).length = 1 := by rw [List.nil_append, numB_length]
    obtain ⟨X1, hX1⟩ : ∃ X, X = [] ++ numB r.kind.toNat 1 := ⟨_, rfl⟩
    rw [← hX1] at p1 l1 ⊢
    have p2 := fun g v w F S => ticketWrite_s r.tok g v X1 w0 w F S (by omega)
    have l2 : (X1 ++ encT r.tok).length = 47 := by rw [List.length_append, encT_length]; omega
    obtain ⟨X2, hX2⟩ : ∃ X, X = X1 ++ encT r.tok := ⟨_, rfl⟩
    rw [← hX2] at p2 l2 ⊢
    have p3 := fun g v w F S => bdyWrite_s B g v X2 w0 w F S (by omega)
    have l3 : (X2 ++ bdyB B).length ≤ 51 := by rw [List.length_append]; omega
    obtain ⟨X3, hX3⟩ : ∃ X, X = X2 ++ bdyB B := ⟨_, rfl⟩
    rw [← hX3] at p3 l3 ⊢
    have p4 := fun g v w h1 h2 => framed_s g v X3 w h1 h2 (by omega)
    have HCK := Lib.hid hck; have HRB := Lib.hid hrb; have P1 := Lib.hid p1; have P2 := Lib.hid p2; have P3 := Lib.hid p3; have P4 := Lib.hid p4; clear hck hrb p1 p2 p3 p4
    clear hv hE hX hX1 hX2 hX3 l1 l2 l3 hbl hB
    go_enter Tryd.func32, Tryd.ntmps32
    go_wp2_with (first | (go_at_call 48; (with_reducible refine (P1.out g12 (.slice none 0 0) _ _ (S.nil8.pick2 (r := wrt g12 (.slice none 0 0)) (s := row8 (.slice none 0 0) []) pk pk)).mono ?_); rintro e w1 ⟨rfl, v1, S1⟩; clear S; have S := S1; clear S1) | (go_at_call 56; (with_reducible refine (P2.out g12 v1 _ _ S).mono ?_); rintro e w1 ⟨rfl, v2, S1⟩; clear S; have S := S1; clear S1) | ((with_reducible refine iD 25 (.call _) ?_); obtain ⟨f, rv, hr, hc⟩ := P3.out g12 v2 _ _ S; refine step_inv (.tmp 23) "dunnage/wire.write" [.tmp 24] _ _ [.pointer (some ⟨g12, 0, none⟩)] f _ rfl rfl hr hc gw ?_; rintro e w1 ⟨rfl, v3, S1⟩; refine .inl ⟨_, rfl, ?_⟩; clear S hr hc; have S := S1; clear S1) | ((with_reducible refine iD 1 (.box 69 (.tmp 0)) ?_); refine step_boxA (dst := some 1) S 69 (.tmp 0) _ rfl rfl ?_; clear S; intro g1 w S) | ((with_reducible refine iO _ (.load 69 _) ?_); first | (refine step_load S 69 _ _ rfl _ _ _ pk _ Tryd.underlying69 rfl 40 kR lN rfl ?_) | (refine step_loadO 69 _ _ rfl _ _ _ (S.old_heap (Hid.out (by assumption))) _ Tryd.underlying69 rfl 40 kR lN rfl ?_) | (refine step_loadR 69 _ _ _ rfl _ (S.old_range hy) _ Tryd.underlying69 rfl 40 kR lN _ rfl rfl ?_)) | (go_at_call 36; (with_reducible refine (HCK.out _).mono ?_); rintro e w1 ⟨rfl, T⟩; replace S := S.call T; clear T; (try simp only [z4, z5] at S)) | ((with_reducible refine iD 11 (.build 104 _) ?_); refine step_buildZ 104 (.agg (#[.slice none 0 0])) (fun w => by kernel_rfl) rfl ?_) | ((with_reducible refine iD 12 (.box 104 (.tmp 11)) ?_); refine step_boxA (dst := some 12) S 104 (.tmp 11) _ rfl rfl ?_; clear S; intro g12 w S) | ((with_reducible refine iO _ (.load 5 _) ?_); refine step_load1 5 _ _ _ rfl (cL) _ Tryd.underlying5 rfl rfl ?_) | ((with_reducible refine iO _ (.load 67 _) ?_); first | (refine step_loadR 67 _ _ _ rfl _ (S.old_range hy) _ Tryd.underlying67 rfl 36 kR lN _ rfl rfl ?_) | (refine step_loadP S 67 _ _ _ rfl _ _ _ pk 36 _ pT lN _ Tryd.underlying67 rfl kR rfl ?_)) | (go_at_call 57; (with_reducible refine (HRB.out _).mono ?_); rintro e w1 ⟨rfl, T⟩; replace S := S.call T; clear T; (try simp only [z4, z5] at S)) | (go_at_call 58; (with_reducible refine (P4.out g12 v3 _ (S.cell (g := g12) pk rfl) (S.bs (xs := X3) pk)).mono ?_); rintro e w1 ⟨v4, rfl, T⟩; replace S := S.call T; clear T; (try simp only [z4, z5] at S)) | fail)
    go_ret2
    exact ⟨_, rfl, S.sub (by repeat (first | exact Sub.nil _ | refine Sub.cons pk ?_))⟩
end Go.Proofs.YtfhkmmagpnojmaaDoor

/- Function values that a call makes: closures, structs that hold them, slices of such structs, and the call of one. No condition. -/
namespace Go.Proofs.YtfhkmmagpnojmaaDoor
open Go.RowKit

section
variable {P : Program} {ops : Array Oper} {rest : List Oper} {a : Act} {w0 w : World} {l F : List Res} {Q : Exit → Act → World → Prop} {dst : Option Tmp} {ty : TypeId} {pos : String} {after : Array Edge} {gd : Option (Nat × Bool)} {Post : Value → World → Prop}

/-- A closure is made. -/
theorem step_makeF (f : FuncId) (xs : List Operand) (vs : List Value) (hx : xs.map a.eval = vs)
    (hw : Region.wanted ⟨dst, .makeFunc (.func f) #[] xs.toArray, ty, pos, after, gd⟩ (yielded ops a.tmps) = true)
    (h : wpList P ops Q rest (a.put dst (.func (.func f) #[] vs.toArray)) w) : wpList P ops Q (⟨dst, .makeFunc (.func f) #[] xs.toArray, ty, pos, after, gd⟩ :: rest) a w := by
  subst hx
  refine step_val (v := .func (.func f) #[] (xs.map a.eval).toArray) hw ?_ h
  simp [execOp, Instr.makeFunc, Result.andThen]
end

end Go.Proofs.YtfhkmmagpnojmaaDoor

/- The request of some bytes: what the program's DecodeRequest returns; its closure. No condition but the reach. -/
namespace Go.Proofs.YtfhkmmagpnojmaaDoor
open Go.RowKit

/-- The body that the kind of some bytes asks for; what is read as far as there are bytes. -/
def bdK (b : List UInt8) : Bdy := bdyR ⟨b.getD 2 0, decT ((b.drop 3).take 46), 0, 0, 0⟩
def rqX (b : List UInt8) : Rq := ofB (b.getD 2 0) (decT ((b.drop 3).take 46)) (rdOf b 49 (bdK b))
theorem bdK_Z (b : List UInt8) : bdyZ (bdK b) = bsz (b.getD 2 0) := by
  unfold bdK bdyR bsz
  dsimp only
  generalize b.getD 2 0 = k
  rcases kcase k with rfl | rfl | rfl | rfl | rfl | rfl | ⟨h1, h2, h3, h4, h5, h6⟩
  case inr.inr.inr.inr.inr.inr =>
    rw [if_neg (by rintro rfl; exact h1 rfl), if_neg (by rintro (rfl | rfl); exact h2 rfl; exact h3 rfl), if_neg (by rintro (rfl | rfl); exact h5 rfl; exact h6 rfl), if_neg (by rintro (rfl | rfl | rfl); exact h1 rfl; exact h2 rfl; exact h3 rfl), if_neg (by rintro (rfl | rfl); exact h5 rfl; exact h6 rfl)]
    rfl
  all_goals rfl
theorem getD_at (b : List UInt8) (i : Nat) : UInt8.ofNat (atB b i 1) = b.getD i 0 := by
  unfold atB
  by_cases h : i + 1 ≤ b.length
  · rw [if_pos h]
    have hi : i < b.length := by omega
    have e : (b.drop i).take 1 = [b[i]] := by rw [← List.getElem_cons_drop hi]; rfl
    rw [e]
    simp [val, List.getD, hi]
  · rw [if_neg h]
    have hi : ¬ i < b.length := by omega
    simp [List.getD, hi]
theorem rqX_rqP (b : List UInt8) (h : b.length = 49 + bsz (b.getD 2 0)) : rqX b = rqP b := by
  have hle := bsz_le (b.getD 2 0)
  have hm : (b.drop 49).length = bsz (b.getD 2 0) := by rw [List.length_drop]; omega
  have hat : ∀ n, bsz (b.getD 2 0) = n → atB b 49 n = val (b.drop 49) := fun n hn => by
    rw [atB_fit b 49 n (by omega), List.take_of_length_le (by omega)]
  have hg : ∀ i, (b.drop 49).getD i 0 = b.getD (49 + i) 0 := fun i => by simp [List.getD]
  have h0 := getD_at b (49 + 0)
  have h1' := getD_at b (49 + 1)
  unfold rqX rqP bdK bdyR
  rw [hg 0, hg 1, ← h0, ← h1']
  dsimp only
  clear h0 h1' hg hm h hle
  generalize b.getD 2 0 = k at *
  rcases kcase k with rfl | rfl | rfl | rfl | rfl | rfl | ⟨h1, h2, h3, h4, h5, h6⟩
  case inr.inr.inr.inr.inr.inr =>
    rw [if_neg (by rintro rfl; exact h1 rfl), if_neg (by rintro (rfl | rfl); exact h2 rfl; exact h3 rfl), if_neg (by rintro (rfl | rfl); exact h5 rfl; exact h6 rfl), if_neg (by rintro rfl; exact h1 rfl), if_neg (by rintro rfl; exact h1 rfl), if_neg (by rintro (rfl | rfl | rfl | rfl); exact h2 rfl; exact h3 rfl; exact h5 rfl; exact h6 rfl)]
    rfl
  · rfl
  · show Rq.mk _ _ 0 0 (UInt32.ofNat (atB b 49 2)) = Rq.mk _ _ 0 0 (UInt32.ofNat (val (b.drop 49)))
    rw [hat 2 rfl]
  · show Rq.mk _ _ 0 0 (UInt32.ofNat (atB b 49 2)) = Rq.mk _ _ 0 0 (UInt32.ofNat (val (b.drop 49)))
    rw [hat 2 rfl]
  · rfl
  · show Rq.mk _ _ 0 0 (UInt32.ofNat (atB b 49 4)) = Rq.mk _ _ 0 0 (UInt32.ofNat (val (b.drop 49)))
    rw [hat 4 rfl]
  · show Rq.mk _ _ 0 0 (UInt32.ofNat (atB b 49 4)) = Rq.mk _ _ 0 0 (UInt32.ofNat (val (b.drop 49)))
    rw [hat 4 rfl]
theorem rbytes_i (si : Int) (s : Nat) (hsi : si = (s : Int)) (g : Nat) (bv : Value) (b : List UInt8) (p : Nat) (w0 w1 : World) (F : List Res) (S : Has w0 w1 (rdr g bv p :: F)) (hb : Bs w0 bv b) (h8 : s ≤ 64) (hp : p ≤ b.length) (hl : b.length ≤ 140737488355328) :
    Calls Tryd.prog 63 #[.pointer (some ⟨g, 0, none⟩), .int .i64 si] w1 fun e w' =>
      (p + s ≤ b.length ∧ ∃ v, e = .returned v ∧ Has w0 w' (rdr g bv (p + s) :: row8 v ((b.drop p).take s) :: F)) ∨ (b.length < p + s ∧ e = .panicked [erl] ∧ Has w0 w' (rdr g bv p :: F)) := by
  subst hsi
  exact rbytes_s g bv b p s w0 w1 F S hb h8 hp hl
theorem rqL_setTok (k : UInt8) (t u : Tok) (p d : UInt8) (n : UInt32) : ((rqL ⟨k, t, p, d, n⟩).toArray.toList.take 1 ++ (tokL u).toArray.toList ++ (rqL ⟨k, t, p, d, n⟩).toArray.toList.drop (1 + 36)).toArray = (rqL ⟨k, u, p, d, n⟩).toArray := by
  have e1 : (rqL ⟨k, t, p, d, n⟩).toArray.toList.take 1 = [Value.int .u8 (k.toNat : Int)] := rfl
  have e2 : (rqL ⟨k, t, p, d, n⟩).toArray.toList.drop (1 + 36) = [Value.int .u8 (p.toNat : Int), .int .u8 (d.toNat : Int), .int .u32 (n.toNat : Int)] := by
    show ([Value.int .u8 (k.toNat : Int)] ++ tokL t ++ [Value.int .u8 (p.toNat : Int), .int .u8 (d.toNat : Int), .int .u32 (n.toNat : Int)]).drop (1 + 36) = _
    exact List.drop_left' (by simp [tokL_length])
  rw [e1, e2]
  rfl
theorem Has.front {w0 w : World} {l G : List Res} (S : Has w0 w (l ++ G)) : Has w0 w l :=
  ⟨S.below, fun r hr => S.holds r (List.mem_append_left _ hr), fun r hr => S.base r (List.mem_append_left _ hr), (List.pairwise_append.1 S.apart).1⟩
/-- What the closure leaves. -/
def ReadR (w0 : World) (g go : Nat) (bv : Value) (b : List UInt8) (F : List Res) (e : Ending) (w' : World) : Prop :=
  (49 + bsz (b.getD 2 0) ≤ b.length ∧ e = .returned (.tuple #[]) ∧ Has w0 w' (rdr g bv (49 + bsz (b.getD 2 0)) :: blk go (.cells (rqL (rqX b)).toArray 69 (0, 0)) :: F)) ∨
  (b.length < 49 + bsz (b.getD 2 0) ∧ e = .panicked [erl] ∧ ∃ q cs, Has w0 w' (rdr g bv q :: blk go (.cells cs 69 (0, 0)) :: F))
set_option maxRecDepth 100000 in
set_option maxHeartbeats 8000000 in
theorem decClos_s (g go : Nat) (bv : Value) (b : List UInt8) (w0 w1 : World) (F : List Res) (S : Has w0 w1 (rdr g bv 2 :: blk go (.cells (rqL ⟨0, tokZ, 0, 0, 0⟩).toArray 69 (0, 0)) :: F)) (hb : Bs w0 bv b) (h3 : 3 ≤ b.length) (hl : b.length ≤ 140737488355328) :
    Calls Tryd.prog 60 #[.pointer (some ⟨g, 0, none⟩), .pointer (some ⟨go, 0, none⟩)] w1 (ReadR w0 g go bv b F) := by
  have p1 := fun w F S => ruint_i 1 1 rfl g bv b 2 w0 w F S hb (by decide) (by decide) (by omega) hl
  have p2 := fun w F S => rbytes_i 46 46 rfl g bv b 3 w0 w F S hb (by decide) (by omega) hl
  have e1 : (atB b 2 1 : Int) % 256 = ((b.getD 2 0).toNat : Int) := by rw [← IntKind.wrap_u8, wrap8 _ (atB_lt b 2 1), getD_at]
  obtain ⟨k, hk⟩ : ∃ k, k = b.getD 2 0 := ⟨_, rfl⟩
  obtain ⟨T46, hT⟩ : ∃ T, T = (b.drop 3).take 46 := ⟨_, rfl⟩
  have p3 := fun v w h => dec_s v T46 w h
  have hX : rqX b = ofB k (decT T46) (rdOf b 49 (bdK b)) := by unfold rqX; rw [← hk, ← hT]
  have hZ := bdK_Z b
  have hKd : bdK b = bdyR ⟨k, decT T46, 0, 0, 0⟩ := by unfold bdK; rw [← hk, ← hT]
  rw [← hk] at e1 hZ
  rw [← hT] at p2
  obtain ⟨tok, htok⟩ : ∃ t, t = decT T46 := ⟨_, rfl⟩
  rw [← htok] at p3 hX hKd
  have p4 := fun w => requestBody_s ⟨k, tok, 0, 0, 0⟩ w
  rw [← hKd] at p4
  obtain ⟨B, hB⟩ : ∃ B, B = bdK b := ⟨_, rfl⟩
  rw [← hB] at p4 hX hZ
  have p5 := fun w F S h => bdyRead_s B g bv b 49 w0 w F S hb h hl
  have p6 := fun w => requestOf_s k tok (rdOf b 49 B) w
  rw [← hX] at p6
  obtain ⟨X, hXe⟩ : ∃ X, X = rqX b := ⟨_, rfl⟩
  rw [← hXe] at p6
  unfold ReadR
  rw [← hk, ← hXe, ← hZ]
  have P1 := Lib.hid p1; have P2 := Lib.hid p2; have P3 := Lib.hid p3; have P4 := Lib.hid p4; have P5 := Lib.hid p5; have P6 := Lib.hid p6; have E1 := Lib.hid e1; clear p1 p2 p3 p4 p5 p6 e1
  clear hk hT hX hZ hKd htok hB hXe hb
  go_enter Tryd.func60, Tryd.ntmps60
  go_wp2_with (first | (go_at_call 61; (with_reducible refine (P1.out _ _ S).mono ?_); rintro e w1 (⟨hf, rfl, S1⟩ | ⟨hf, rfl, S1⟩); rotate_left; exact (by omega : False).elim; clear S; have S := S1; clear S1) | ((with_reducible refine iO none (.store 5 (.tmp 6) (.tmp 5)) ?_); refine step_store1 S 5 (.tmp 6) (.tmp 5) go 0 (by8 k) rfl (show Value.int .u8 _ = Value.int .u8 _ by rw [E1.out]) _ _ pk kR rfl rfl (by rw [rqL_size]; decide) gw ?_; clear S; intro w S; rw [rqL_set0] at S) | (go_at_call 63; (with_reducible refine (P2.out _ _ (S.pick (r := rdr g bv 3) pk)).mono ?_); rintro e w1 (⟨hf2, v9, rfl, S1⟩ | ⟨hf2, rfl, S1⟩); rotate_left; exact ⟨rfl, .inr ⟨by omega, rfl, _, _, S1⟩⟩; clear S; have S := S1; clear S1) | ((with_reducible refine iO none (.store 67 (.tmp 13) (.tmp 11)) ?_); refine step_storeP S 67 (.tmp 13) (.tmp 11) go 1 (tokL tok).toArray rfl rfl _ _ pk 36 kR (tokL_size _) (by rw [rqL_size]; decide) (tokL_one _) _ (rqL_setTok ..) gw ?_; clear S; intro w S) | (go_at_call 62; (with_reducible refine (P3.out _ _ (S.bs (xs := T46) pk)).mono ?_); rintro e w1 ⟨rfl, T⟩; replace S := S.call T; clear T; (try simp only [z4, z5] at S)) | fail)
  replace S : Has w0 w (blk go (.cells (rqL ⟨k, tok, 0, 0, 0⟩).toArray 69 (0, 0)) :: rdr g bv 49 :: row8 v9 T46 :: F) := S
  refine wp_relyBW (Bad := fun c w' => b.length < 49 + bdyZ B ∧ c = [erl] ∧ ∃ q cs, Has w0 w' (rdr g bv q :: blk go (.cells cs 69 (0, 0)) :: F)) (e1 := noRes) 7 ?hbad1 (S.pick (r := rdr g bv 49) pk) [sv [] (.pointer (some ⟨go, 0, none⟩)), sv [0] (by8 k), sv [] (.pointer (some ⟨go, 1, none⟩)), sv [2] (.agg (tokL tok).toArray), sv [] (.agg (rqL ⟨k, tok, 0, 0, 0⟩).toArray), sv [4] (bdyV B), sv [] ((.pointer (some ⟨g, 0, none⟩))), ⟨[4, 5, 6], [], [], fun _ v => 49 + bdyZ B ≤ b.length ∧ v = bdyV (rdOf b 49 B), fun _ v => [rdr g bv (49 + bdyZ B)]⟩, sv [0, 1, 2, 3, 4, 5, 6, 7] (.agg (rqL X).toArray)] ?A1 ?hA1 kR kR kR [0, 1, 2, 3, 4, 5, 6, 7, 8] kR (of_decide_eq_true rfl) ?hok1 ?fin1
  case hA1 => intro u; simp only [putAll, List.length_cons, List.length_nil, Nat.zero_add, Nat.reduceAdd, dstAt, List.getElem?_toArray, List.getElem?_cons_zero, List.getElem?_cons_succ, Option.bind_some, Act.put, List.setIfInBounds_toArray, List.set_cons_zero, List.set_cons_succ]; rfl
  case hbad1 => intro c a2 w2 hd hb; obtain ⟨hlt, rfl, q, cs, hS⟩ := hb; exact ⟨hd, .inr ⟨hlt, rfl, q, cs, hS⟩⟩
  case hok1 =>
    intro i hi
    obtain rfl | rfl | rfl | rfl | rfl | rfl | rfl | rfl | rfl : i = 0 ∨ i = 1 ∨ i = 2 ∨ i = 3 ∨ i = 4 ∨ i = 5 ∨ i = 6 ∨ i = 7 ∨ i = 8 := by simp only [List.length_cons, List.length_nil, Nat.zero_add, Nat.reduceAdd] at hi; omega
    · rw [if_neg (by decide)]; intro r0; exact oP []
    · clear hi
      rw [if_neg (by decide)]; intro r0
      refine step_ofB rfl rfl rfl ?_
      intro u G w hf S
      have f0 : u 0 = .pointer (some ⟨go, 0, none⟩) := hf 0 (by simp)
      simp only [fl, z4, z5, z6, z7, ptrBlk] at S ⊢
      simp only [f0]
      refine does.bad ?_
      refine does_load1 5 (.tmp 14) _ _ rfl (S.cell (g := go) pk co) _ Tryd.underlying5 rfl ?_; exact ⟨rfl, S⟩
    · rw [if_neg (by decide)]; intro r0; exact oP []
    · clear hi
      rw [if_neg (by decide)]; intro r0
      refine step_ofB rfl rfl rfl ?_
      intro u G w hf S
      have f2 : u 2 = .pointer (some ⟨go, 1, none⟩) := hf 2 (by simp)
      simp only [fl, z4, z5, z6, z7, ptrBlk] at S ⊢
      simp only [f2]
      refine does.bad ?_
      refine does_loadP S 67 (.tmp 16) _ _ rfl _ _ _ pk 36 _ pT lN _ Tryd.underlying67 rfl kR ?_; exact ⟨rfl, S⟩
    · clear hi
      rw [if_neg (by decide)]; intro r0
      refine step_ofB rfl rfl rfl ?_
      intro u G w hf S
      simp only [fl, z4, z5, z6, z7, ptrBlk] at S ⊢
      refine does.bad ?_
      refine does_load 69 (.tmp 1) go rfl _ _ _ (S.get (r := blk go _) pk) _ Tryd.underlying69 rfl 40 kR lN ?_; exact ⟨rfl, S⟩
    · clear hi
      rw [if_neg (by decide)]; intro r0
      refine step_ofB rfl rfl rfl ?_
      intro u G w hf S
      have f4 : u 4 = .agg (rqL ⟨k, tok, 0, 0, 0⟩).toArray := hf 4 (by simp)
      simp only [fl, z4, z5, z6, z7, ptrBlk] at S ⊢
      simp only [f4]
      refine does.bad ?_
      refine does_fn (args := [(.agg (rqL ⟨k, tok, 0, 0, 0⟩).toArray)]) Tryd.func57 kR kR (P4.out w) rfl ?_
      rintro e w1 ⟨rfl, T⟩
      exact ⟨_, rfl, rfl, S.call T⟩
    · rw [if_neg (by decide)]; intro r0; exact oP []
    · clear hi
      rw [if_pos rfl]
      refine step_ofB rfl rfl rfl ?_
      intro u G w hf S
      have f5 : u 5 = bdyV B := hf 5 (by simp)
      have f6 : u 6 = (.pointer (some ⟨g, 0, none⟩)) := hf 6 (by simp)
      simp only [fl, z4, z5, z6, z7, ptrBlk] at S ⊢
      simp only [f5, f6]
      obtain ⟨f, rv, hr, hc⟩ := P5.out w _ S hf2; refine doesB_inv (.tmp 19) "dunnage/wire.read" [.tmp 20] _ _ [.pointer (some ⟨g, 0, none⟩)] f _ rfl rfl hr hc ?_; rintro e w1 (⟨h1, rfl, S1⟩ | ⟨h1, rfl, q, S1⟩)
      · exact .inl ⟨_, rfl, ⟨h1, rfl⟩, S1.taken1⟩
      · exact .inr ⟨_, rfl, h1, rfl, q, _, (Has.front (l := rdr g bv q :: blk go _ :: row8 v9 T46 :: F) (G := G) S1).drop (Pick.tail (Pick.tail (Pick.head _ _)))⟩
    · clear hi
      rw [if_neg (by decide)]; intro r0
      refine step_ofB rfl rfl rfl ?_
      intro u G w hf S
      have f1 : u 1 = by8 k := hf 1 (by simp)
      have f3 : u 3 = .agg (tokL tok).toArray := hf 3 (by simp)
      have f7 : 49 + bdyZ B ≤ b.length ∧ u 7 = bdyV (rdOf b 49 B) := hf 7 (by simp)
      obtain ⟨q7, f7⟩ := f7
      simp only [fl, z4, z5, z6, z7, ptrBlk] at S ⊢
      simp only [f1, f3, f7]
      refine does.bad ?_
      refine does_fn (args := [(by8 k), (.agg (tokL tok).toArray), (bdyV (rdOf b 49 B))]) Tryd.func64 kR kR (P6.out w) rfl ?_
      rintro e w1 ⟨rfl, T⟩
      exact ⟨_, rfl, rfl, S.call T⟩
  case fin1 =>
    intro u w hf S
    have f7 : 49 + bdyZ B ≤ b.length ∧ u 7 = bdyV (rdOf b 49 B) := hf 7 (by simp)
    obtain ⟨q7, f7⟩ := f7
    have hvA := allV hf
    simp only [AllV, RSpec.valAt, sv, Nat.zero_add, Nat.reduceAdd] at hvA
    simp only [fl, z4, z5, z6, z7, ptrBlk] at S
    clear hf
    simp only [List.length_cons, List.length_nil, Nat.zero_add, Nat.reduceAdd, List.drop_succ_cons, List.drop_zero, f7, hvA]
    try simp only [f7, hvA, ptrBlk] at S
    clear f7 hvA
    go_wp2_with (first | ((with_reducible refine iO none (.store 69 (.tmp 1) (.tmp 22)) ?_); refine step_store S 69 (.tmp 1) (.tmp 22) _ _ rfl rfl _ _ pk 40 kR lN lN on1 rfl ?_; clear S; intro w S) | fail)
    go_end0
    exact .inl ⟨q7, rfl, ((S.drop (Pick.tail (Pick.tail (Pick.head _ _)))).drop (Pick.tail (Pick.tail (Pick.head _ _)))).perm (List.Perm.swap _ _ _)⟩
end Go.Proofs.YtfhkmmagpnojmaaDoor
