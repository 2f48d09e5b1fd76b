/- Whether a request is valid: the program's CheckRequest and the specification's. No condition but the reach. -/
import Derived.Test.YtfhkmmagpnojmaaDoorZBd
import Derived.Test.YtfhkmmagpnojmaaDoorZBdyW
import Derived.Test.YtfhkmmagpnojmaaDoorZRelyC
set_option linter.unusedSimpArgs false
set_option linter.unusedVariables false
namespace Go.Proofs.YtfhkmmagpnojmaaDoor
open Go.RowKit

/-- The error of a request. -/
def rqE (r : Rq) : Int := if rqV r then 0 else 8
theorem rqV_body (r : Rq) : rqV r = (decide (1 ≤ r.kind.toNat ∧ r.kind.toNat ≤ 6) && (bdyOk (bdyR r) && decide (ofB r.kind r.tok (bdyR r) = r))) := by
  obtain ⟨k, t, p, d, n⟩ := r
  rcases kcase k with rfl | rfl | rfl | rfl | rfl | rfl | ⟨h1, h2, h3, h4, h5, h6⟩
  case inr.inr.inr.inr.inr.inr =>
    have hd : decide (1 ≤ k.toNat ∧ k.toNat ≤ 6) = false := decide_eq_false (by omega)
    rw [show decide (1 ≤ (Rq.mk k t p d n).kind.toNat ∧ (Rq.mk k t p d n).kind.toNat ≤ 6) = false from hd, Bool.false_and]
    cases hv : rqV ⟨k, t, p, d, n⟩ with
    | false => rfl
    | true =>
      have := rqV_kind _ hv
      simp only at this
      rcases this with rfl | rfl | rfl | rfl | rfl | rfl <;> simp at *
  all_goals
    rw [Bool.eq_iff_iff]
    simp [rqV, bdyR, bdyOk, ofB, @eq_comm UInt8 0, @eq_comm UInt32 0]
    try (constructor <;> intro h <;> simp [h])
set_option maxRecDepth 100000 in
theorem eqTm (m : Nat) (a b : Tok) (w : World) : (Op.equalIn (m + 4) 67 (.agg (tokL a).toArray) (.agg (tokL b).toArray)).run Tryd.prog w = .ok (decide (a = b)) w := by
  have hp : Tryd.prog.stoodInHeld 67 = false := by kernel_rfl
  have hf : Tryd.prog.underlying 67 = some (.struct (Tryd.prog.fieldsOf 67)) := by kernel_rfl
  have e : decide (a = b) = (((a.tenant.toNat : Int) == (b.tenant.toNat : Int)) && (((a.role.toNat : Int) == (b.role.toNat : Int)) && (((a.expiry.toNat : Int) == (b.expiry.toNat : Int)) && (((a.serial.toNat : Int) == (b.serial.toNat : Int)) && (decide (a.tag = b.tag) && true))))) := by
    rw [beqU8, beqU8, beqU64, beqU32, Bool.eq_iff_iff]
    simp only [decide_eq_true_eq, Bool.and_eq_true, and_true]
    constructor
    · rintro rfl; exact ⟨rfl, rfl, rfl, rfl, rfl⟩
    · rintro ⟨h1, h2, h3, h4, h5⟩
      exact Tok.ext' h1 h2 h3 h4 h5
  have htag : ∀ t : Tok, (tokL t).toArray.extract 4 (4 + 32) = (t.tag.map by8).toArray := fun t => by
    have : (t.tag.map by8).length = 32 := by simp [t.len]
    apply Array.ext'
    simp only [tokL, Array.toList_extract, List.extract_eq_take_drop]
    show ((t.tag.map by8).take 32) = _
    rw [List.take_of_length_le (by omega)]
  rw [e, run_equalIn_agg (P := Tryd.prog) w (m + 3) 67 _ _ hf hp]
  unfold Program.fieldsOf
  rw [Tryd.underlying67]
  exact eqFields_step w (m + 3) _ _ _ _ rfl _ _ (run_part1 w _ _ _ _ _ Tryd.underlying5 rfl rfl) (run_part1 w _ _ _ _ _ Tryd.underlying5 rfl rfl) _ _ (run_equalIn_int w (m + 2) _ _ _ _ _ Tryd.underlying5)
    (eqFields_step w (m + 3) _ _ _ _ rfl _ _ (run_part1 w _ _ _ _ _ Tryd.underlying5 rfl rfl) (run_part1 w _ _ _ _ _ Tryd.underlying5 rfl rfl) _ _ (run_equalIn_int w (m + 2) _ _ _ _ _ Tryd.underlying5)
    (eqFields_step w (m + 3) _ _ _ _ rfl _ _ (run_part1 w _ _ _ _ _ Tryd.underlying23 rfl rfl) (run_part1 w _ _ _ _ _ Tryd.underlying23 rfl rfl) _ _ (run_equalIn_int w (m + 2) _ _ _ _ _ Tryd.underlying23)
    (eqFields_step w (m + 3) _ _ _ _ rfl _ _ (run_part1 w _ _ _ _ _ Tryd.underlying38 rfl rfl) (run_part1 w _ _ _ _ _ Tryd.underlying38 rfl rfl) _ _ (run_equalIn_int w (m + 2) _ _ _ _ _ Tryd.underlying38)
    (eqFields_step w (m + 3) _ _ _ _ rfl _ _ (run_partA w _ _ _ 32 _ _ Tryd.underlying22 rfl kR (htag a)) (run_partA w _ _ _ 32 _ _ Tryd.underlying22 rfl kR (htag b)) _ _
      (run_equalIn_map by8 w (m + 2) _ _ 32 Tryd.underlying22 kR (isAgg_int Tryd.underlying5) (fun a b w => eqIn_by8 (m + 1) _ Tryd.underlying5 a b w) a.tag b.tag a.len b.len)
    (eqFields_nil w (m + 3) _ _)))))
set_option maxRecDepth 100000 in
theorem eqRq (a b : Rq) (w : World) : (Op.equalIn 10000 69 (.agg (rqL a).toArray) (.agg (rqL b).toArray)).run Tryd.prog w = .ok (decide (a = b)) w := by
  have hp : Tryd.prog.stoodInHeld 69 = false := by kernel_rfl
  have hf : Tryd.prog.underlying 69 = some (.struct (Tryd.prog.fieldsOf 69)) := by kernel_rfl
  have e : decide (a = b) = (((a.kind.toNat : Int) == (b.kind.toNat : Int)) && (decide (a.tok = b.tok) && (((a.pick.toNat : Int) == (b.pick.toNat : Int)) && (((a.drop.toNat : Int) == (b.drop.toNat : Int)) && (((a.number.toNat : Int) == (b.number.toNat : Int)) && true))))) := by
    rw [beqU8, beqU8, beqU8, beqU32, Bool.eq_iff_iff]
    simp only [decide_eq_true_eq, Bool.and_eq_true, and_true]
    constructor
    · rintro rfl; exact ⟨rfl, rfl, rfl, rfl, rfl⟩
    · rintro ⟨h1, h2, h3, h4, h5⟩
      exact Rq.ext' h1 h2 h3 h4 h5
  have htok : ∀ r : Rq, (rqL r).toArray.extract 1 (1 + 36) = (tokL r.tok).toArray := fun r => by
    have := rqL_tok r
    rw [← this]
    apply Array.ext'
    simp only [Array.toList_extract, List.extract_eq_take_drop]
  rw [e, run_equalIn_agg (P := Tryd.prog) w 9999 69 _ _ hf hp]
  unfold Program.fieldsOf
  rw [Tryd.underlying69]
  exact eqFields_step w 9999 _ _ _ _ rfl _ _ (run_part1 w _ _ _ _ _ Tryd.underlying5 rfl (rqL_0 a)) (run_part1 w _ _ _ _ _ Tryd.underlying5 rfl (rqL_0 b)) _ _ (run_equalIn_int w 9998 _ _ _ _ _ Tryd.underlying5)
    (eqFields_step w 9999 _ _ _ _ rfl _ _ (run_partA w _ _ _ 36 _ _ Tryd.underlying67 rfl kR (htok a)) (run_partA w _ _ _ 36 _ _ Tryd.underlying67 rfl kR (htok b)) _ _ (eqTm 9995 a.tok b.tok w)
    (eqFields_step w 9999 _ _ _ _ rfl _ _ (run_part1 w _ _ _ _ _ Tryd.underlying5 rfl (rqL_37 a)) (run_part1 w _ _ _ _ _ Tryd.underlying5 rfl (rqL_37 b)) _ _ (run_equalIn_int w 9998 _ _ _ _ _ Tryd.underlying5)
    (eqFields_step w 9999 _ _ _ _ rfl _ _ (run_part1 w _ _ _ _ _ Tryd.underlying5 rfl (rqL_38 a)) (run_part1 w _ _ _ _ _ Tryd.underlying5 rfl (rqL_38 b)) _ _ (run_equalIn_int w 9998 _ _ _ _ _ Tryd.underlying5)
    (eqFields_step w 9999 _ _ _ _ rfl _ _ (run_part1 w _ _ _ _ _ Tryd.underlying38 rfl (rqL_39 a)) (run_part1 w _ _ _ _ _ Tryd.underlying38 rfl (rqL_39 b)) _ _ (run_equalIn_int w 9998 _ _ _ _ _ Tryd.underlying38)
    (eqFields_nil w 9999 _ _)))))
theorem neqRq (a b : Rq) (w : World) : (binOp .neq 69 (.agg (rqL a).toArray) (.agg (rqL b).toArray)).run Tryd.prog w = .ok (.bool (!decide (a = b))) w := by
  rw [run_neq_struct, eqRq, Result.andThen_ok]
theorem eqGuardRq : Tryd.prog.eqGuardType Tryd.prog.depth 69 = false := by kernel_rfl
set_option maxRecDepth 100000 in
set_option maxHeartbeats 4000000 in
theorem checkRequest_s (r : Rq) (w0 : World) : Calls Tryd.prog 36 #[.agg (rqL r).toArray] w0 fun e w' => e = .returned (.int .i64 (rqE r)) ∧ Has w0 w' [] := by
  have S := Has.start w0
  have hrb := fun w => requestBody_s r w
  have hbv := fun w => bdyValid_s (bdyR r) w
  have hof := fun w => requestOf_s r.kind r.tok (bdyR r) w
  have hV : rqE r = if (decide (1 ≤ r.kind.toNat ∧ r.kind.toNat ≤ 6) && (bdyOk (bdyR r) && decide (ofB r.kind r.tok (bdyR r) = r))) = true then 0 else 8 := by unfold rqE; rw [rqV_body]
  obtain ⟨B, hB⟩ : ∃ B, B = bdyR r := ⟨_, rfl⟩
  rw [← hB] at hrb hbv hof hV
  obtain ⟨q, hq⟩ : ∃ q, q = ofB r.kind r.tok B := ⟨_, rfl⟩
  rw [← hq] at hof hV
  have eg := eqGuardRq
  have hne := fun w => neqRq q r w
  obtain ⟨d, hd⟩ : ∃ d, d = decide (q = r) := ⟨_, rfl⟩
  rw [← hd] at hne hV
  obtain ⟨o, ho⟩ : ∃ o, o = bdyOk B := ⟨_, rfl⟩
  rw [← ho] at hbv hV
  clear hB hq hd ho
  by_cases k1 : r.kind.toNat < 1
  · rw [show rqE r = 8 by rw [hV, decide_eq_false (by omega)]; rfl]
    have i1 : (r.kind.toNat : Int) < 1 := by omega
    have HRB := Lib.hid hrb; have HBV := Lib.hid hbv; have HOF := Lib.hid hof; clear hrb hbv hof
    clear hV hne k1
    go_enter Tryd.func36, Tryd.ntmps36
    go_wp2_with (first | ((with_reducible refine iD 1 (.box 69 (.tmp 0)) ?_); refine step_boxA (dst := some 1) S 69 (.tmp 0) _ rfl gw ?_; clear S; intro g1 w S) | ((with_reducible refine iO _ (.load 69 _) ?_); first | (refine step_load S 69 _ _ rfl _ _ _ pk _ Tryd.underlying69 rfl 40 kR lN gw ?_) | (refine step_loadO 69 _ _ rfl _ _ _ (S.old_heap (Hid.out (by assumption))) _ Tryd.underlying69 rfl 40 kR lN gw ?_) | (refine step_loadR 69 _ _ _ rfl _ (S.old_range hy) _ Tryd.underlying69 rfl 40 kR lN _ rfl gw ?_)) | (go_at_call 57; (with_reducible refine (HRB.out _).mono ?_); rintro e w1 ⟨rfl, T⟩; replace S := S.call T; clear T; (try simp only [z4, z5] at S)) | ((with_reducible refine iO _ (.load 5 _) ?_); refine step_load1 5 _ _ _ rfl (cL) _ Tryd.underlying5 rfl gw ?_) | ((with_reducible refine iO _ (.load 67 _) ?_); first | (refine step_loadR 67 _ _ _ rfl _ (S.old_range hy) _ Tryd.underlying67 rfl 36 kR lN _ rfl gw ?_) | (refine step_loadP S 67 _ _ _ rfl _ _ _ pk 36 _ pT lN _ Tryd.underlying67 rfl kR gw ?_)) | fail)
    refine wp_rely S [⟨[], [], [], fun _ v => v = .pointer (some ⟨g1, 0, none⟩), fun _ v => []⟩, ⟨[0], [], [], fun _ v => v = by8 r.kind, fun _ v => []⟩, ⟨[0, 1], [], [], fun _ v => v = .bool true, fun _ v => []⟩, ⟨[0, 1, 2], [], [], fun _ v => v = (.bool true), fun _ v => []⟩, ⟨[0, 1, 2, 3], [], [], fun _ v => v = undef, fun _ v => []⟩, ⟨[0, 1, 2, 3, 4], [], [], fun _ v => v = undef, fun _ v => []⟩, ⟨[0, 1, 2, 3, 4, 5], [], [], fun _ v => v = undef, fun _ v => []⟩, ⟨[0, 1, 2, 3, 4, 5, 6], [], [], fun _ v => v = .bool true, fun _ v => []⟩, ⟨[0, 1, 2, 3, 4, 5, 6, 7], [], [], fun _ v => v = (.bool true), fun _ v => []⟩, ⟨[0, 1, 2, 3, 4, 5, 6, 7, 8], [], [], fun _ v => v = undef, fun _ v => []⟩, ⟨[0, 1, 2, 3, 4, 5, 6, 7, 8, 9], [], [], fun _ v => v = undef, fun _ v => []⟩, ⟨[0, 1, 2, 3, 4, 5, 6, 7, 8, 9, 10], [], [], fun _ v => v = undef, fun _ v => []⟩, ⟨[0, 1, 2, 3, 4, 5, 6, 7, 8, 9, 10, 11], [], [], fun _ v => v = .bool true, fun _ v => []⟩, ⟨[0, 1, 2, 3, 4, 5, 6, 7, 8, 9, 10, 11, 12], [], [], fun _ v => v = (.bool true), fun _ v => []⟩, ⟨[0, 1, 2, 3, 4, 5, 6, 7, 8, 9, 10, 11, 12, 13], [], [], fun _ v => v = undef, fun _ v => []⟩, ⟨[0, 1, 2, 3, 4, 5, 6, 7, 8, 9, 10, 11, 12, 13, 14], [], [], fun _ v => v = undef, fun _ v => []⟩, ⟨[0, 1, 2, 3, 4, 5, 6, 7, 8, 9, 10, 11, 12, 13], [], [], fun _ v => v = undef, fun _ v => []⟩, ⟨[0, 1, 2, 3, 4, 5, 6, 7, 8, 9, 10, 11, 12, 13, 16], [], [], fun _ v => v = undef, fun _ v => []⟩, ⟨[0, 1, 2, 3, 4, 5, 6, 7, 8, 9, 10, 11, 12, 13], [], [], fun _ v => v = undef, fun _ v => []⟩, ⟨[0, 1, 2, 3, 4, 5, 6, 7, 8, 9, 10, 11, 12, 13, 14, 15, 16, 17, 18], [], [], fun _ v => v = undef, fun _ v => []⟩, ⟨[0, 1, 2, 3, 4, 5, 6, 7, 8, 9, 10, 11, 12, 13], [], [], fun _ v => v = undef, fun _ v => []⟩, ⟨[0, 1, 2, 3, 4, 5, 6, 7, 8, 9, 10, 11, 12, 13, 14, 15, 16, 17, 18, 19, 20], [], [], fun _ v => v = undef, fun _ v => []⟩, ⟨[0, 1, 2, 3, 4, 5, 6, 7, 8, 9, 10, 11, 12, 13, 14, 15, 16, 17, 18, 19, 20, 21], [], [], fun _ v => v = .bool true, fun _ v => []⟩] ?A1 ?hA1 kR kR kR [0, 1, 2, 3, 4, 5, 6, 7, 8, 9, 10, 11, 12, 13, 14, 15, 16, 17, 18, 19, 20, 21, 22] kR ?hok1 ?fin1
    case hA1 => intro u; simp only [putAll, List.length_cons, List.length_nil, Nat.zero_add, Nat.reduceAdd, dstAt, List.getElem?_toArray, List.getElem?_cons_zero, List.getElem?_cons_succ, Option.bind_some, Act.put, List.setIfInBounds_toArray, List.set_cons_zero, List.set_cons_succ]; rfl
    case hok1 =>
      intro i hi
      obtain rfl | rfl | rfl | rfl | rfl | rfl | rfl | rfl | rfl | rfl | rfl | rfl | rfl | rfl | rfl | rfl | rfl | rfl | rfl | rfl | rfl | rfl | rfl : i = 0 ∨ i = 1 ∨ i = 2 ∨ i = 3 ∨ i = 4 ∨ i = 5 ∨ i = 6 ∨ i = 7 ∨ i = 8 ∨ i = 9 ∨ i = 10 ∨ i = 11 ∨ i = 12 ∨ i = 13 ∨ i = 14 ∨ i = 15 ∨ i = 16 ∨ i = 17 ∨ i = 18 ∨ i = 19 ∨ i = 20 ∨ i = 21 ∨ i = 22 := by simp only [List.length_cons, List.length_nil, Nat.zero_add, Nat.reduceAdd] at hi; omega
      · clear hi
        refine step_of rfl rfl rfl ?_
        intro u G w hf S
        simp only [resOf, spec, RSpec.resAt, z0, z1, z2, z3, z4, z5, z6, z7, ptrBlk] at S ⊢
        simp only [does]
        go_simp
        try first | exact S | exact ⟨vv, S⟩ | exact vv
      · clear hi
        refine step_of rfl rfl rfl ?_
        intro u G w hf S
        have f0 : u 0 = .pointer (some ⟨g1, 0, none⟩) := hf 0 (by simp)
        simp only [resOf, spec, RSpec.resAt, z0, z1, z2, z3, z4, z5, z6, z7, ptrBlk] at S ⊢
        simp only [f0]
        refine does_load1 5 (.tmp 6) _ _ rfl (S.cell (g := g1) pk co) _ Tryd.underlying5 rfl ?_; exact ⟨rfl, S⟩
      · clear hi
        refine step_of rfl rfl rfl ?_
        intro u G w hf S
        have f1 : u 1 = by8 r.kind := hf 1 (by simp)
        simp only [resOf, spec, RSpec.resAt, z0, z1, z2, z3, z4, z5, z6, z7, ptrBlk] at S ⊢
        simp only [f1]
        simp only [does]
        go_simp
        try first | exact S | exact ⟨vv, S⟩ | exact vv
      · clear hi
        refine step_of rfl rfl rfl ?_
        intro u G w hf S
        have f2 : u 2 = .bool true := hf 2 (by simp)
        simp only [resOf, spec, RSpec.resAt, z0, z1, z2, z3, z4, z5, z6, z7, ptrBlk] at S ⊢
        simp only [f2]
        simp only [does]
        go_simp
        try first | exact S | exact ⟨vv, S⟩ | exact vv
      · clear hi
        refine step_of_x rfl rfl ?_
        intro u G w hf S
        have f3 : u 3 = (.bool true) := hf 3 (by simp)
        simp only [resOf, spec, RSpec.resAt, z0, z1, z2, z3, z4, z5, z6, z7, ptrBlk] at S ⊢
        simp only [f3]
        refine ⟨rfl, ?_⟩
        first | exact ⟨rfl, S⟩ | exact ⟨trivial, S⟩
      · clear hi
        refine step_of_x rfl rfl ?_
        intro u G w hf S
        have f3 : u 3 = (.bool true) := hf 3 (by simp)
        have f4 : u 4 = undef := hf 4 (by simp)
        simp only [resOf, spec, RSpec.resAt, z0, z1, z2, z3, z4, z5, z6, z7, ptrBlk] at S ⊢
        simp only [f3, f4]
        refine ⟨rfl, ?_⟩
        first | exact ⟨rfl, S⟩ | exact ⟨trivial, S⟩
      · clear hi
        refine step_of_x rfl rfl ?_
        intro u G w hf S
        have f3 : u 3 = (.bool true) := hf 3 (by simp)
        have f5 : u 5 = undef := hf 5 (by simp)
        simp only [resOf, spec, RSpec.resAt, z0, z1, z2, z3, z4, z5, z6, z7, ptrBlk] at S ⊢
        simp only [f3, f5]
        refine ⟨rfl, ?_⟩
        first | exact ⟨rfl, S⟩ | exact ⟨trivial, S⟩
      · clear hi
        refine step_of rfl rfl rfl ?_
        intro u G w hf S
        have f3 : u 3 = (.bool true) := hf 3 (by simp)
        have f6 : u 6 = undef := hf 6 (by simp)
        simp only [resOf, spec, RSpec.resAt, z0, z1, z2, z3, z4, z5, z6, z7, ptrBlk] at S ⊢
        simp only [f3, f6]
        simp only [does]
        go_simp
        try first | exact S | exact ⟨vv, S⟩ | exact vv
      · clear hi
        refine step_of rfl rfl rfl ?_
        intro u G w hf S
        have f7 : u 7 = .bool true := hf 7 (by simp)
        simp only [resOf, spec, RSpec.resAt, z0, z1, z2, z3, z4, z5, z6, z7, ptrBlk] at S ⊢
        simp only [f7]
        simp only [does]
        go_simp
        try first | exact S | exact ⟨vv, S⟩ | exact vv
      · clear hi
        refine step_of_x rfl rfl ?_
        intro u G w hf S
        have f8 : u 8 = (.bool true) := hf 8 (by simp)
        simp only [resOf, spec, RSpec.resAt, z0, z1, z2, z3, z4, z5, z6, z7, ptrBlk] at S ⊢
        simp only [f8]
        refine ⟨rfl, ?_⟩
        first | exact ⟨rfl, S⟩ | exact ⟨trivial, S⟩
      · clear hi
        refine step_of_x rfl rfl ?_
        intro u G w hf S
        have f8 : u 8 = (.bool true) := hf 8 (by simp)
        have f9 : u 9 = undef := hf 9 (by simp)
        simp only [resOf, spec, RSpec.resAt, z0, z1, z2, z3, z4, z5, z6, z7, ptrBlk] at S ⊢
        simp only [f8, f9]
        refine ⟨rfl, ?_⟩
        first | exact ⟨rfl, S⟩ | exact ⟨trivial, S⟩
      · clear hi
        refine step_of_x rfl rfl ?_
        intro u G w hf S
        have f8 : u 8 = (.bool true) := hf 8 (by simp)
        have f10 : u 10 = undef := hf 10 (by simp)
        simp only [resOf, spec, RSpec.resAt, z0, z1, z2, z3, z4, z5, z6, z7, ptrBlk] at S ⊢
        simp only [f8, f10]
        refine ⟨rfl, ?_⟩
        first | exact ⟨rfl, S⟩ | exact ⟨trivial, S⟩
      · clear hi
        refine step_of rfl rfl rfl ?_
        intro u G w hf S
        have f8 : u 8 = (.bool true) := hf 8 (by simp)
        have f11 : u 11 = undef := hf 11 (by simp)
        simp only [resOf, spec, RSpec.resAt, z0, z1, z2, z3, z4, z5, z6, z7, ptrBlk] at S ⊢
        simp only [f8, f11]
        simp only [does]
        go_simp
        try first | exact S | exact ⟨vv, S⟩ | exact vv
      · clear hi
        refine step_of rfl rfl rfl ?_
        intro u G w hf S
        have f12 : u 12 = .bool true := hf 12 (by simp)
        simp only [resOf, spec, RSpec.resAt, z0, z1, z2, z3, z4, z5, z6, z7, ptrBlk] at S ⊢
        simp only [f12]
        simp only [does]
        go_simp
        try first | exact S | exact ⟨vv, S⟩ | exact vv
      · clear hi
        refine step_of_x rfl rfl ?_
        intro u G w hf S
        have f13 : u 13 = (.bool true) := hf 13 (by simp)
        simp only [resOf, spec, RSpec.resAt, z0, z1, z2, z3, z4, z5, z6, z7, ptrBlk] at S ⊢
        simp only [f13]
        refine ⟨rfl, ?_⟩
        first | exact ⟨rfl, S⟩ | exact ⟨trivial, S⟩
      · clear hi
        refine step_of_x rfl rfl ?_
        intro u G w hf S
        have f13 : u 13 = (.bool true) := hf 13 (by simp)
        have f14 : u 14 = undef := hf 14 (by simp)
        simp only [resOf, spec, RSpec.resAt, z0, z1, z2, z3, z4, z5, z6, z7, ptrBlk] at S ⊢
        simp only [f13, f14]
        refine ⟨rfl, ?_⟩
        first | exact ⟨rfl, S⟩ | exact ⟨trivial, S⟩
      · clear hi
        refine step_of_x rfl rfl ?_
        intro u G w hf S
        have f13 : u 13 = (.bool true) := hf 13 (by simp)
        simp only [resOf, spec, RSpec.resAt, z0, z1, z2, z3, z4, z5, z6, z7, ptrBlk] at S ⊢
        simp only [f13]
        refine ⟨rfl, ?_⟩
        first | exact ⟨rfl, S⟩ | exact ⟨trivial, S⟩
      · clear hi
        refine step_of_x rfl rfl ?_
        intro u G w hf S
        have f13 : u 13 = (.bool true) := hf 13 (by simp)
        have f16 : u 16 = undef := hf 16 (by simp)
        simp only [resOf, spec, RSpec.resAt, z0, z1, z2, z3, z4, z5, z6, z7, ptrBlk] at S ⊢
        simp only [f13, f16]
        refine ⟨rfl, ?_⟩
        first | exact ⟨rfl, S⟩ | exact ⟨trivial, S⟩
      · clear hi
        refine step_of_x rfl rfl ?_
        intro u G w hf S
        have f13 : u 13 = (.bool true) := hf 13 (by simp)
        simp only [resOf, spec, RSpec.resAt, z0, z1, z2, z3, z4, z5, z6, z7, ptrBlk] at S ⊢
        simp only [f13]
        refine ⟨rfl, ?_⟩
        first | exact ⟨rfl, S⟩ | exact ⟨trivial, S⟩
      · clear hi
        refine step_of_x rfl rfl ?_
        intro u G w hf S
        have f13 : u 13 = (.bool true) := hf 13 (by simp)
        have f15 : u 15 = undef := hf 15 (by simp)
        have f17 : u 17 = undef := hf 17 (by simp)
        have f18 : u 18 = undef := hf 18 (by simp)
        simp only [resOf, spec, RSpec.resAt, z0, z1, z2, z3, z4, z5, z6, z7, ptrBlk] at S ⊢
        simp only [f13, f15, f17, f18]
        refine ⟨rfl, ?_⟩
        first | exact ⟨rfl, S⟩ | exact ⟨trivial, S⟩
      · clear hi
        refine step_of_x rfl rfl ?_
        intro u G w hf S
        have f13 : u 13 = (.bool true) := hf 13 (by simp)
        simp only [resOf, spec, RSpec.resAt, z0, z1, z2, z3, z4, z5, z6, z7, ptrBlk] at S ⊢
        simp only [f13]
        refine ⟨rfl, ?_⟩
        first | exact ⟨rfl, S⟩ | exact ⟨trivial, S⟩
      · clear hi
        refine step_of_x rfl rfl ?_
        intro u G w hf S
        have f13 : u 13 = (.bool true) := hf 13 (by simp)
        have f19 : u 19 = undef := hf 19 (by simp)
        have f20 : u 20 = undef := hf 20 (by simp)
        simp only [resOf, spec, RSpec.resAt, z0, z1, z2, z3, z4, z5, z6, z7, ptrBlk] at S ⊢
        simp only [f13, f19, f20]
        refine ⟨rfl, ?_⟩
        first | exact ⟨rfl, S⟩ | exact ⟨trivial, S⟩
      · clear hi
        refine step_of rfl rfl rfl ?_
        intro u G w hf S
        have f13 : u 13 = (.bool true) := hf 13 (by simp)
        have f21 : u 21 = undef := hf 21 (by simp)
        simp only [resOf, spec, RSpec.resAt, z0, z1, z2, z3, z4, z5, z6, z7, ptrBlk] at S ⊢
        simp only [f13, f21]
        simp only [does]
        go_simp
        try first | exact S | exact ⟨vv, S⟩ | exact vv
    case fin1 =>
      intro u w hf S
      have f0 : u 0 = .pointer (some ⟨g1, 0, none⟩) := hf 0 (by simp)
      have f1 : u 1 = by8 r.kind := hf 1 (by simp)
      have f2 : u 2 = .bool true := hf 2 (by simp)
      have f3 : u 3 = (.bool true) := hf 3 (by simp)
      have f4 : u 4 = undef := hf 4 (by simp)
      have f5 : u 5 = undef := hf 5 (by simp)
      have f6 : u 6 = undef := hf 6 (by simp)
      have f7 : u 7 = .bool true := hf 7 (by simp)
      have f8 : u 8 = (.bool true) := hf 8 (by simp)
      have f9 : u 9 = undef := hf 9 (by simp)
      have f10 : u 10 = undef := hf 10 (by simp)
      have f11 : u 11 = undef := hf 11 (by simp)
      have f12 : u 12 = .bool true := hf 12 (by simp)
      have f13 : u 13 = (.bool true) := hf 13 (by simp)
      have f14 : u 14 = undef := hf 14 (by simp)
      have f15 : u 15 = undef := hf 15 (by simp)
      have f16 : u 16 = undef := hf 16 (by simp)
      have f17 : u 17 = undef := hf 17 (by simp)
      have f18 : u 18 = undef := hf 18 (by simp)
      have f19 : u 19 = undef := hf 19 (by simp)
      have f20 : u 20 = undef := hf 20 (by simp)
      have f21 : u 21 = undef := hf 21 (by simp)
      have f22 : u 22 = .bool true := hf 22 (by simp)
      simp only [resOf, spec, RSpec.resAt, z0, z1, z2, z3, z4, z5, z6, z7, ptrBlk] at S
      clear hf
      simp only [List.length_cons, List.length_nil, Nat.zero_add, Nat.reduceAdd, List.drop_succ_cons, List.drop_zero, f0, f1, f2, f3, f4, f5, f6, f7, f8, f9, f10, f11, f12, f13, f14, f15, f16, f17, f18, f19, f20, f21, f22]
      clear f0 f1 f2 f3 f4 f5 f6 f7 f8 f9 f10 f11 f12 f13 f14 f15 f16 f17 f18 f19 f20 f21 f22
      go_wp2_with (first | ((with_reducible refine iD 1 (.box 69 (.tmp 0)) ?_); refine step_boxA (dst := some 1) S 69 (.tmp 0) _ rfl gw ?_; clear S; intro g1 w S) | ((with_reducible refine iO _ (.load 69 _) ?_); first | (refine step_load S 69 _ _ rfl _ _ _ pk _ Tryd.underlying69 rfl 40 kR lN gw ?_) | (refine step_loadO 69 _ _ rfl _ _ _ (S.old_heap (Hid.out (by assumption))) _ Tryd.underlying69 rfl 40 kR lN gw ?_) | (refine step_loadR 69 _ _ _ rfl _ (S.old_range hy) _ Tryd.underlying69 rfl 40 kR lN _ rfl gw ?_)) | ((with_reducible refine iO _ (.load 5 _) ?_); refine step_load1 5 _ _ _ rfl (cL) _ Tryd.underlying5 rfl gw ?_) | ((with_reducible refine iO _ (.load 67 _) ?_); first | (refine step_loadR 67 _ _ _ rfl _ (S.old_range hy) _ Tryd.underlying67 rfl 36 kR lN _ rfl gw ?_) | (refine step_loadP S 67 _ _ _ rfl _ _ _ pk 36 _ pT lN _ Tryd.underlying67 rfl kR gw ?_)) | fail)
      go_ret
      exact ⟨rfl, S.nil⟩
  by_cases k6 : 6 < r.kind.toNat
  · rw [show rqE r = 8 by rw [hV, decide_eq_false (by omega)]; rfl]
    have i1 : ¬ (r.kind.toNat : Int) < 1 := by omega
    have i2 : 6 < (r.kind.toNat : Int) := by omega
    have HRB := Lib.hid hrb; have HBV := Lib.hid hbv; have HOF := Lib.hid hof; clear hrb hbv hof
    clear hV hne k1 k6
    go_enter Tryd.func36, Tryd.ntmps36
    go_wp2_with (first | ((with_reducible refine iD 1 (.box 69 (.tmp 0)) ?_); refine step_boxA (dst := some 1) S 69 (.tmp 0) _ rfl gw ?_; clear S; intro g1 w S) | ((with_reducible refine iO _ (.load 69 _) ?_); first | (refine step_load S 69 _ _ rfl _ _ _ pk _ Tryd.underlying69 rfl 40 kR lN gw ?_) | (refine step_loadO 69 _ _ rfl _ _ _ (S.old_heap (Hid.out (by assumption))) _ Tryd.underlying69 rfl 40 kR lN gw ?_) | (refine step_loadR 69 _ _ _ rfl _ (S.old_range hy) _ Tryd.underlying69 rfl 40 kR lN _ rfl gw ?_)) | (go_at_call 57; (with_reducible refine (HRB.out _).mono ?_); rintro e w1 ⟨rfl, T⟩; replace S := S.call T; clear T; (try simp only [z4, z5] at S)) | ((with_reducible refine iO _ (.load 5 _) ?_); refine step_load1 5 _ _ _ rfl (cL) _ Tryd.underlying5 rfl gw ?_) | ((with_reducible refine iO _ (.load 67 _) ?_); first | (refine step_loadR 67 _ _ _ rfl _ (S.old_range hy) _ Tryd.underlying67 rfl 36 kR lN _ rfl gw ?_) | (refine step_loadP S 67 _ _ _ rfl _ _ _ pk 36 _ pT lN _ Tryd.underlying67 rfl kR gw ?_)) | fail)
    refine wp_rely S [⟨[], [], [], fun _ v => v = .pointer (some ⟨g1, 0, none⟩), fun _ v => []⟩, ⟨[0], [], [], fun _ v => v = by8 r.kind, fun _ v => []⟩, ⟨[0, 1], [], [], fun _ v => v = .bool false, fun _ v => []⟩, ⟨[0, 1, 2], [], [], fun _ v => v = (.bool false), fun _ v => []⟩, ⟨[0, 1, 2, 3], [], [], fun _ v => v = .pointer (some ⟨g1, 0, none⟩), fun _ v => []⟩, ⟨[0, 1, 2, 3, 4], [], [], fun _ v => v = by8 r.kind, fun _ v => []⟩, ⟨[0, 1, 2, 3, 4, 5], [], [], fun _ v => v = .bool true, fun _ v => []⟩, ⟨[0, 1, 2, 3, 4, 5, 6], [], [], fun _ v => v = .bool true, fun _ v => []⟩, ⟨[0, 1, 2, 3, 4, 5, 6, 7], [], [], fun _ v => v = (.bool true), fun _ v => []⟩, ⟨[0, 1, 2, 3, 4, 5, 6, 7, 8], [], [], fun _ v => v = undef, fun _ v => []⟩, ⟨[0, 1, 2, 3, 4, 5, 6, 7, 8, 9], [], [], fun _ v => v = undef, fun _ v => []⟩, ⟨[0, 1, 2, 3, 4, 5, 6, 7, 8, 9, 10], [], [], fun _ v => v = undef, fun _ v => []⟩, ⟨[0, 1, 2, 3, 4, 5, 6, 7, 8, 9, 10, 11], [], [], fun _ v => v = .bool true, fun _ v => []⟩, ⟨[0, 1, 2, 3, 4, 5, 6, 7, 8, 9, 10, 11, 12], [], [], fun _ v => v = (.bool true), fun _ v => []⟩, ⟨[0, 1, 2, 3, 4, 5, 6, 7, 8, 9, 10, 11, 12, 13], [], [], fun _ v => v = undef, fun _ v => []⟩, ⟨[0, 1, 2, 3, 4, 5, 6, 7, 8, 9, 10, 11, 12, 13, 14], [], [], fun _ v => v = undef, fun _ v => []⟩, ⟨[0, 1, 2, 3, 4, 5, 6, 7, 8, 9, 10, 11, 12, 13], [], [], fun _ v => v = undef, fun _ v => []⟩, ⟨[0, 1, 2, 3, 4, 5, 6, 7, 8, 9, 10, 11, 12, 13, 16], [], [], fun _ v => v = undef, fun _ v => []⟩, ⟨[0, 1, 2, 3, 4, 5, 6, 7, 8, 9, 10, 11, 12, 13], [], [], fun _ v => v = undef, fun _ v => []⟩, ⟨[0, 1, 2, 3, 4, 5, 6, 7, 8, 9, 10, 11, 12, 13, 14, 15, 16, 17, 18], [], [], fun _ v => v = undef, fun _ v => []⟩, ⟨[0, 1, 2, 3, 4, 5, 6, 7, 8, 9, 10, 11, 12, 13], [], [], fun _ v => v = undef, fun _ v => []⟩, ⟨[0, 1, 2, 3, 4, 5, 6, 7, 8, 9, 10, 11, 12, 13, 14, 15, 16, 17, 18, 19, 20], [], [], fun _ v => v = undef, fun _ v => []⟩, ⟨[0, 1, 2, 3, 4, 5, 6, 7, 8, 9, 10, 11, 12, 13, 14, 15, 16, 17, 18, 19, 20, 21], [], [], fun _ v => v = .bool true, fun _ v => []⟩] ?A2 ?hA2 kR kR kR [0, 1, 2, 3, 4, 5, 6, 7, 8, 9, 10, 11, 12, 13, 14, 15, 16, 17, 18, 19, 20, 21, 22] kR ?hok2 ?fin2
    case hA2 => intro u; simp only [putAll, List.length_cons, List.length_nil, Nat.zero_add, Nat.reduceAdd, dstAt, List.getElem?_toArray, List.getElem?_cons_zero, List.getElem?_cons_succ, Option.bind_some, Act.put, List.setIfInBounds_toArray, List.set_cons_zero, List.set_cons_succ]; rfl
    case hok2 =>
      intro i hi
      obtain rfl | rfl | rfl | rfl | rfl | rfl | rfl | rfl | rfl | rfl | rfl | rfl | rfl | rfl | rfl | rfl | rfl | rfl | rfl | rfl | rfl | rfl | rfl : i = 0 ∨ i = 1 ∨ i = 2 ∨ i = 3 ∨ i = 4 ∨ i = 5 ∨ i = 6 ∨ i = 7 ∨ i = 8 ∨ i = 9 ∨ i = 10 ∨ i = 11 ∨ i = 12 ∨ i = 13 ∨ i = 14 ∨ i = 15 ∨ i = 16 ∨ i = 17 ∨ i = 18 ∨ i = 19 ∨ i = 20 ∨ i = 21 ∨ i = 22 := by simp only [List.length_cons, List.length_nil, Nat.zero_add, Nat.reduceAdd] at hi; omega
      · clear hi
        refine step_of rfl rfl rfl ?_
        intro u G w hf S
        simp only [resOf, spec, RSpec.resAt, z0, z1, z2, z3, z4, z5, z6, z7, ptrBlk] at S ⊢
        simp only [does]
        go_simp
        try first | exact S | exact ⟨vv, S⟩ | exact vv
      · clear hi
        refine step_of rfl rfl rfl ?_
        intro u G w hf S
        have f0 : u 0 = .pointer (some ⟨g1, 0, none⟩) := hf 0 (by simp)
        simp only [resOf, spec, RSpec.resAt, z0, z1, z2, z3, z4, z5, z6, z7, ptrBlk] at S ⊢
        simp only [f0]
        refine does_load1 5 (.tmp 6) _ _ rfl (S.cell (g := g1) pk co) _ Tryd.underlying5 rfl ?_; exact ⟨rfl, S⟩
      · clear hi
        refine step_of rfl rfl rfl ?_
        intro u G w hf S
        have f1 : u 1 = by8 r.kind := hf 1 (by simp)
        simp only [resOf, spec, RSpec.resAt, z0, z1, z2, z3, z4, z5, z6, z7, ptrBlk] at S ⊢
        simp only [f1]
        simp only [does]
        go_simp
        try first | exact S | exact ⟨vv, S⟩ | exact vv
      · clear hi
        refine step_of rfl rfl rfl ?_
        intro u G w hf S
        have f2 : u 2 = .bool false := hf 2 (by simp)
        simp only [resOf, spec, RSpec.resAt, z0, z1, z2, z3, z4, z5, z6, z7, ptrBlk] at S ⊢
        simp only [f2]
        simp only [does]
        go_simp
        try first | exact S | exact ⟨vv, S⟩ | exact vv
      · clear hi
        refine step_of_g rfl rfl ?_
        intro u G w hf S
        have f3 : u 3 = (.bool false) := hf 3 (by simp)
        simp only [resOf, spec, RSpec.resAt, z0, z1, z2, z3, z4, z5, z6, z7, ptrBlk] at S ⊢
        simp only [f3]
        refine ⟨rfl, ?_⟩
        simp only [does]
        go_simp
        try first | exact S | exact ⟨vv, S⟩ | exact vv
      · clear hi
        refine step_of_g rfl rfl ?_
        intro u G w hf S
        have f3 : u 3 = (.bool false) := hf 3 (by simp)
        have f4 : u 4 = .pointer (some ⟨g1, 0, none⟩) := hf 4 (by simp)
        simp only [resOf, spec, RSpec.resAt, z0, z1, z2, z3, z4, z5, z6, z7, ptrBlk] at S ⊢
        simp only [f3, f4]
        refine ⟨rfl, ?_⟩
        refine does_load1 5 (.tmp 10) _ _ rfl (S.cell (g := g1) pk co) _ Tryd.underlying5 rfl ?_; exact ⟨rfl, S⟩
      · clear hi
        refine step_of_g rfl rfl ?_
        intro u G w hf S
        have f3 : u 3 = (.bool false) := hf 3 (by simp)
        have f5 : u 5 = by8 r.kind := hf 5 (by simp)
        simp only [resOf, spec, RSpec.resAt, z0, z1, z2, z3, z4, z5, z6, z7, ptrBlk] at S ⊢
        simp only [f3, f5]
        refine ⟨rfl, ?_⟩
        simp only [does]
        go_simp
        try first | exact S | exact ⟨vv, S⟩ | exact vv
      · clear hi
        refine step_of rfl rfl rfl ?_
        intro u G w hf S
        have f3 : u 3 = (.bool false) := hf 3 (by simp)
        have f6 : u 6 = .bool true := hf 6 (by simp)
        simp only [resOf, spec, RSpec.resAt, z0, z1, z2, z3, z4, z5, z6, z7, ptrBlk] at S ⊢
        simp only [f3, f6]
        simp only [does]
        go_simp
        try first | exact S | exact ⟨vv, S⟩ | exact vv
      · clear hi
        refine step_of rfl rfl rfl ?_
        intro u G w hf S
        have f7 : u 7 = .bool true := hf 7 (by simp)
        simp only [resOf, spec, RSpec.resAt, z0, z1, z2, z3, z4, z5, z6, z7, ptrBlk] at S ⊢
        simp only [f7]
        simp only [does]
        go_simp
        try first | exact S | exact ⟨vv, S⟩ | exact vv
      · clear hi
        refine step_of_x rfl rfl ?_
        intro u G w hf S
        have f8 : u 8 = (.bool true) := hf 8 (by simp)
        simp only [resOf, spec, RSpec.resAt, z0, z1, z2, z3, z4, z5, z6, z7, ptrBlk] at S ⊢
        simp only [f8]
        refine ⟨rfl, ?_⟩
        first | exact ⟨rfl, S⟩ | exact ⟨trivial, S⟩
      · clear hi
        refine step_of_x rfl rfl ?_
        intro u G w hf S
        have f8 : u 8 = (.bool true) := hf 8 (by simp)
        have f9 : u 9 = undef := hf 9 (by simp)
        simp only [resOf, spec, RSpec.resAt, z0, z1, z2, z3, z4, z5, z6, z7, ptrBlk] at S ⊢
        simp only [f8, f9]
        refine ⟨rfl, ?_⟩
        first | exact ⟨rfl, S⟩ | exact ⟨trivial, S⟩
      · clear hi
        refine step_of_x rfl rfl ?_
        intro u G w hf S
        have f8 : u 8 = (.bool true) := hf 8 (by simp)
        have f10 : u 10 = undef := hf 10 (by simp)
        simp only [resOf, spec, RSpec.resAt, z0, z1, z2, z3, z4, z5, z6, z7, ptrBlk] at S ⊢
        simp only [f8, f10]
        refine ⟨rfl, ?_⟩
        first | exact ⟨rfl, S⟩ | exact ⟨trivial, S⟩
      · clear hi
        refine step_of rfl rfl rfl ?_
        intro u G w hf S
        have f8 : u 8 = (.bool true) := hf 8 (by simp)
        have f11 : u 11 = undef := hf 11 (by simp)
        simp only [resOf, spec, RSpec.resAt, z0, z1, z2, z3, z4, z5, z6, z7, ptrBlk] at S ⊢
        simp only [f8, f11]
        simp only [does]
        go_simp
        try first | exact S | exact ⟨vv, S⟩ | exact vv
      · clear hi
        refine step_of rfl rfl rfl ?_
        intro u G w hf S
        have f12 : u 12 = .bool true := hf 12 (by simp)
        simp only [resOf, spec, RSpec.resAt, z0, z1, z2, z3, z4, z5, z6, z7, ptrBlk] at S ⊢
        simp only [f12]
        simp only [does]
        go_simp
        try first | exact S | exact ⟨vv, S⟩ | exact vv
      · clear hi
        refine step_of_x rfl rfl ?_
        intro u G w hf S
        have f13 : u 13 = (.bool true) := hf 13 (by simp)
        simp only [resOf, spec, RSpec.resAt, z0, z1, z2, z3, z4, z5, z6, z7, ptrBlk] at S ⊢
        simp only [f13]
        refine ⟨rfl, ?_⟩
        first | exact ⟨rfl, S⟩ | exact ⟨trivial, S⟩
      · clear hi
        refine step_of_x rfl rfl ?_
        intro u G w hf S
        have f13 : u 13 = (.bool true) := hf 13 (by simp)
        have f14 : u 14 = undef := hf 14 (by simp)
        simp only [resOf, spec, RSpec.resAt, z0, z1, z2, z3, z4, z5, z6, z7, ptrBlk] at S ⊢
        simp only [f13, f14]
        refine ⟨rfl, ?_⟩
        first | exact ⟨rfl, S⟩ | exact ⟨trivial, S⟩
      · clear hi
        refine step_of_x rfl rfl ?_
        intro u G w hf S
        have f13 : u 13 = (.bool true) := hf 13 (by simp)
        simp only [resOf, spec, RSpec.resAt, z0, z1, z2, z3, z4, z5, z6, z7, ptrBlk] at S ⊢
        simp only [f13]
        refine ⟨rfl, ?_⟩
        first | exact ⟨rfl, S⟩ | exact ⟨trivial, S⟩
      · clear hi
        refine step_of_x rfl rfl ?_
        intro u G w hf S
        have f13 : u 13 = (.bool true) := hf 13 (by simp)
        have f16 : u 16 = undef := hf 16 (by simp)
        simp only [resOf, spec, RSpec.resAt, z0, z1, z2, z3, z4, z5, z6, z7, ptrBlk] at S ⊢
        simp only [f13, f16]
        refine ⟨rfl, ?_⟩
        first | exact ⟨rfl, S⟩ | exact ⟨trivial, S⟩
      · clear hi
        refine step_of_x rfl rfl ?_
        intro u G w hf S
        have f13 : u 13 = (.bool true) := hf 13 (by simp)
        simp only [resOf, spec, RSpec.resAt, z0, z1, z2, z3, z4, z5, z6, z7, ptrBlk] at S ⊢
        simp only [f13]
        refine ⟨rfl, ?_⟩
        first | exact ⟨rfl, S⟩ | exact ⟨trivial, S⟩
      · clear hi
        refine step_of_x rfl rfl ?_
        intro u G w hf S
        have f13 : u 13 = (.bool true) := hf 13 (by simp)
        have f15 : u 15 = undef := hf 15 (by simp)
        have f17 : u 17 = undef := hf 17 (by simp)
        have f18 : u 18 = undef := hf 18 (by simp)
        simp only [resOf, spec, RSpec.resAt, z0, z1, z2, z3, z4, z5, z6, z7, ptrBlk] at S ⊢
        simp only [f13, f15, f17, f18]
        refine ⟨rfl, ?_⟩
        first | exact ⟨rfl, S⟩ | exact ⟨trivial, S⟩
      · clear hi
        refine step_of_x rfl rfl ?_
        intro u G w hf S
        have f13 : u 13 = (.bool true) := hf 13 (by simp)
        simp only [resOf, spec, RSpec.resAt, z0, z1, z2, z3, z4, z5, z6, z7, ptrBlk] at S ⊢
        simp only [f13]
        refine ⟨rfl, ?_⟩
        first | exact ⟨rfl, S⟩ | exact ⟨trivial, S⟩
      · clear hi
        refine step_of_x rfl rfl ?_
        intro u G w hf S
        have f13 : u 13 = (.bool true) := hf 13 (by simp)
        have f19 : u 19 = undef := hf 19 (by simp)
        have f20 : u 20 = undef := hf 20 (by simp)
        simp only [resOf, spec, RSpec.resAt, z0, z1, z2, z3, z4, z5, z6, z7, ptrBlk] at S ⊢
        simp only [f13, f19, f20]
        refine ⟨rfl, ?_⟩
        first | exact ⟨rfl, S⟩ | exact ⟨trivial, S⟩
      · clear hi
        refine step_of rfl rfl rfl ?_
        intro u G w hf S
        have f13 : u 13 = (.bool true) := hf 13 (by simp)
        have f21 : u 21 = undef := hf 21 (by simp)
        simp only [resOf, spec, RSpec.resAt, z0, z1, z2, z3, z4, z5, z6, z7, ptrBlk] at S ⊢
        simp only [f13, f21]
        simp only [does]
        go_simp
        try first | exact S | exact ⟨vv, S⟩ | exact vv
    case fin2 =>
      intro u w hf S
      have f0 : u 0 = .pointer (some ⟨g1, 0, none⟩) := hf 0 (by simp)
      have f1 : u 1 = by8 r.kind := hf 1 (by simp)
      have f2 : u 2 = .bool false := hf 2 (by simp)
      have f3 : u 3 = (.bool false) := hf 3 (by simp)
      have f4 : u 4 = .pointer (some ⟨g1, 0, none⟩) := hf 4 (by simp)
      have f5 : u 5 = by8 r.kind := hf 5 (by simp)
      have f6 : u 6 = .bool true := hf 6 (by simp)
      have f7 : u 7 = .bool true := hf 7 (by simp)
      have f8 : u 8 = (.bool true) := hf 8 (by simp)
      have f9 : u 9 = undef := hf 9 (by simp)
      have f10 : u 10 = undef := hf 10 (by simp)
      have f11 : u 11 = undef := hf 11 (by simp)
      have f12 : u 12 = .bool true := hf 12 (by simp)
      have f13 : u 13 = (.bool true) := hf 13 (by simp)
      have f14 : u 14 = undef := hf 14 (by simp)
      have f15 : u 15 = undef := hf 15 (by simp)
      have f16 : u 16 = undef := hf 16 (by simp)
      have f17 : u 17 = undef := hf 17 (by simp)
      have f18 : u 18 = undef := hf 18 (by simp)
      have f19 : u 19 = undef := hf 19 (by simp)
      have f20 : u 20 = undef := hf 20 (by simp)
      have f21 : u 21 = undef := hf 21 (by simp)
      have f22 : u 22 = .bool true := hf 22 (by simp)
      simp only [resOf, spec, RSpec.resAt, z0, z1, z2, z3, z4, z5, z6, z7, ptrBlk] at S
      clear hf
      simp only [List.length_cons, List.length_nil, Nat.zero_add, Nat.reduceAdd, List.drop_succ_cons, List.drop_zero, f0, f1, f2, f3, f4, f5, f6, f7, f8, f9, f10, f11, f12, f13, f14, f15, f16, f17, f18, f19, f20, f21, f22]
      clear f0 f1 f2 f3 f4 f5 f6 f7 f8 f9 f10 f11 f12 f13 f14 f15 f16 f17 f18 f19 f20 f21 f22
      go_wp2_with (first | ((with_reducible refine iD 1 (.box 69 (.tmp 0)) ?_); refine step_boxA (dst := some 1) S 69 (.tmp 0) _ rfl gw ?_; clear S; intro g1 w S) | ((with_reducible refine iO _ (.load 69 _) ?_); first | (refine step_load S 69 _ _ rfl _ _ _ pk _ Tryd.underlying69 rfl 40 kR lN gw ?_) | (refine step_loadO 69 _ _ rfl _ _ _ (S.old_heap (Hid.out (by assumption))) _ Tryd.underlying69 rfl 40 kR lN gw ?_) | (refine step_loadR 69 _ _ _ rfl _ (S.old_range hy) _ Tryd.underlying69 rfl 40 kR lN _ rfl gw ?_)) | ((with_reducible refine iO _ (.load 5 _) ?_); refine step_load1 5 _ _ _ rfl (cL) _ Tryd.underlying5 rfl gw ?_) | ((with_reducible refine iO _ (.load 67 _) ?_); first | (refine step_loadR 67 _ _ _ rfl _ (S.old_range hy) _ Tryd.underlying67 rfl 36 kR lN _ rfl gw ?_) | (refine step_loadP S 67 _ _ _ rfl _ _ _ pk 36 _ pT lN _ Tryd.underlying67 rfl kR gw ?_)) | fail)
      go_ret
      exact ⟨rfl, S.nil⟩
  rw [decide_eq_true (by omega)] at hV
  have i1 : ¬ (r.kind.toNat : Int) < 1 := by omega
  have i2 : ¬ 6 < (r.kind.toNat : Int) := by omega
  clear k1 k6
  cases o
  · rw [show rqE r = 8 from hV]
    have HRB := Lib.hid hrb; have HBV := Lib.hid hbv; have HOF := Lib.hid hof; clear hrb hbv hof
    clear hV hne
    go_enter Tryd.func36, Tryd.ntmps36
    go_wp2_with (first | ((with_reducible refine iD 1 (.box 69 (.tmp 0)) ?_); refine step_boxA (dst := some 1) S 69 (.tmp 0) _ rfl gw ?_; clear S; intro g1 w S) | ((with_reducible refine iO _ (.load 69 _) ?_); first | (refine step_load S 69 _ _ rfl _ _ _ pk _ Tryd.underlying69 rfl 40 kR lN gw ?_) | (refine step_loadO 69 _ _ rfl _ _ _ (S.old_heap (Hid.out (by assumption))) _ Tryd.underlying69 rfl 40 kR lN gw ?_) | (refine step_loadR 69 _ _ _ rfl _ (S.old_range hy) _ Tryd.underlying69 rfl 40 kR lN _ rfl gw ?_)) | (go_at_call 57; (with_reducible refine (HRB.out _).mono ?_); rintro e w1 ⟨rfl, T⟩; replace S := S.call T; clear T; (try simp only [z4, z5] at S)) | ((with_reducible refine iO _ (.load 5 _) ?_); refine step_load1 5 _ _ _ rfl (cL) _ Tryd.underlying5 rfl gw ?_) | ((with_reducible refine iO _ (.load 67 _) ?_); first | (refine step_loadR 67 _ _ _ rfl _ (S.old_range hy) _ Tryd.underlying67 rfl 36 kR lN _ rfl gw ?_) | (refine step_loadP S 67 _ _ _ rfl _ _ _ pk 36 _ pT lN _ Tryd.underlying67 rfl kR gw ?_)) | fail)
    refine wp_rely S [⟨[], [], [], fun _ v => v = .pointer (some ⟨g1, 0, none⟩), fun _ v => []⟩, ⟨[0], [], [], fun _ v => v = by8 r.kind, fun _ v => []⟩, ⟨[0, 1], [], [], fun _ v => v = .bool false, fun _ v => []⟩, ⟨[0, 1, 2], [], [], fun _ v => v = (.bool false), fun _ v => []⟩, ⟨[0, 1, 2, 3], [], [], fun _ v => v = .pointer (some ⟨g1, 0, none⟩), fun _ v => []⟩, ⟨[0, 1, 2, 3, 4], [], [], fun _ v => v = by8 r.kind, fun _ v => []⟩, ⟨[0, 1, 2, 3, 4, 5], [], [], fun _ v => v = .bool false, fun _ v => []⟩, ⟨[0, 1, 2, 3, 4, 5, 6], [], [], fun _ v => v = .bool false, fun _ v => []⟩, ⟨[0, 1, 2, 3, 4, 5, 6, 7], [], [], fun _ v => v = (.bool false), fun _ v => []⟩, ⟨[0, 1, 2, 3, 4, 5, 6, 7, 8], [], [], fun _ v => v = (bdyV B), fun _ v => []⟩, ⟨[0, 1, 2, 3, 4, 5, 6, 7, 8, 9], [], [], fun _ v => v = .bool false, fun _ v => []⟩, ⟨[0, 1, 2, 3, 4, 5, 6, 7, 8, 9, 10], [], [], fun _ v => v = .bool true, fun _ v => []⟩, ⟨[0, 1, 2, 3, 4, 5, 6, 7, 8, 9, 10, 11], [], [], fun _ v => v = .bool true, fun _ v => []⟩, ⟨[0, 1, 2, 3, 4, 5, 6, 7, 8, 9, 10, 11, 12], [], [], fun _ v => v = (.bool true), fun _ v => []⟩, ⟨[0, 1, 2, 3, 4, 5, 6, 7, 8, 9, 10, 11, 12, 13], [], [], fun _ v => v = undef, fun _ v => []⟩, ⟨[0, 1, 2, 3, 4, 5, 6, 7, 8, 9, 10, 11, 12, 13, 14], [], [], fun _ v => v = undef, fun _ v => []⟩, ⟨[0, 1, 2, 3, 4, 5, 6, 7, 8, 9, 10, 11, 12, 13], [], [], fun _ v => v = undef, fun _ v => []⟩, ⟨[0, 1, 2, 3, 4, 5, 6, 7, 8, 9, 10, 11, 12, 13, 16], [], [], fun _ v => v = undef, fun _ v => []⟩, ⟨[0, 1, 2, 3, 4, 5, 6, 7, 8, 9, 10, 11, 12, 13], [], [], fun _ v => v = undef, fun _ v => []⟩, ⟨[0, 1, 2, 3, 4, 5, 6, 7, 8, 9, 10, 11, 12, 13, 14, 15, 16, 17, 18], [], [], fun _ v => v = undef, fun _ v => []⟩, ⟨[0, 1, 2, 3, 4, 5, 6, 7, 8, 9, 10, 11, 12, 13], [], [], fun _ v => v = undef, fun _ v => []⟩, ⟨[0, 1, 2, 3, 4, 5, 6, 7, 8, 9, 10, 11, 12, 13, 14, 15, 16, 17, 18, 19, 20], [], [], fun _ v => v = undef, fun _ v => []⟩, ⟨[0, 1, 2, 3, 4, 5, 6, 7, 8, 9, 10, 11, 12, 13, 14, 15, 16, 17, 18, 19, 20, 21], [], [], fun _ v => v = .bool true, fun _ v => []⟩] ?A3 ?hA3 kR kR kR [0, 1, 2, 3, 4, 5, 6, 7, 8, 9, 10, 11, 12, 13, 14, 15, 16, 17, 18, 19, 20, 21, 22] kR ?hok3 ?fin3
    case hA3 => intro u; simp only [putAll, List.length_cons, List.length_nil, Nat.zero_add, Nat.reduceAdd, dstAt, List.getElem?_toArray, List.getElem?_cons_zero, List.getElem?_cons_succ, Option.bind_some, Act.put, List.setIfInBounds_toArray, List.set_cons_zero, List.set_cons_succ]; rfl
    case hok3 =>
      intro i hi
      obtain rfl | rfl | rfl | rfl | rfl | rfl | rfl | rfl | rfl | rfl | rfl | rfl | rfl | rfl | rfl | rfl | rfl | rfl | rfl | rfl | rfl | rfl | rfl : i = 0 ∨ i = 1 ∨ i = 2 ∨ i = 3 ∨ i = 4 ∨ i = 5 ∨ i = 6 ∨ i = 7 ∨ i = 8 ∨ i = 9 ∨ i = 10 ∨ i = 11 ∨ i = 12 ∨ i = 13 ∨ i = 14 ∨ i = 15 ∨ i = 16 ∨ i = 17 ∨ i = 18 ∨ i = 19 ∨ i = 20 ∨ i = 21 ∨ i = 22 := by simp only [List.length_cons, List.length_nil, Nat.zero_add, Nat.reduceAdd] at hi; omega
      · clear hi
        refine step_of rfl rfl rfl ?_
        intro u G w hf S
        simp only [resOf, spec, RSpec.resAt, z0, z1, z2, z3, z4, z5, z6, z7, ptrBlk] at S ⊢
        simp only [does]
        go_simp
        try first | exact S | exact ⟨vv, S⟩ | exact vv
      · clear hi
        refine step_of rfl rfl rfl ?_
        intro u G w hf S
        have f0 : u 0 = .pointer (some ⟨g1, 0, none⟩) := hf 0 (by simp)
        simp only [resOf, spec, RSpec.resAt, z0, z1, z2, z3, z4, z5, z6, z7, ptrBlk] at S ⊢
        simp only [f0]
        refine does_load1 5 (.tmp 6) _ _ rfl (S.cell (g := g1) pk co) _ Tryd.underlying5 rfl ?_; exact ⟨rfl, S⟩
      · clear hi
        refine step_of rfl rfl rfl ?_
        intro u G w hf S
        have f1 : u 1 = by8 r.kind := hf 1 (by simp)
        simp only [resOf, spec, RSpec.resAt, z0, z1, z2, z3, z4, z5, z6, z7, ptrBlk] at S ⊢
        simp only [f1]
        simp only [does]
        go_simp
        try first | exact S | exact ⟨vv, S⟩ | exact vv
      · clear hi
        refine step_of rfl rfl rfl ?_
        intro u G w hf S
        have f2 : u 2 = .bool false := hf 2 (by simp)
        simp only [resOf, spec, RSpec.resAt, z0, z1, z2, z3, z4, z5, z6, z7, ptrBlk] at S ⊢
        simp only [f2]
        simp only [does]
        go_simp
        try first | exact S | exact ⟨vv, S⟩ | exact vv
      · clear hi
        refine step_of_g rfl rfl ?_
        intro u G w hf S
        have f3 : u 3 = (.bool false) := hf 3 (by simp)
        simp only [resOf, spec, RSpec.resAt, z0, z1, z2, z3, z4, z5, z6, z7, ptrBlk] at S ⊢
        simp only [f3]
        refine ⟨rfl, ?_⟩
        simp only [does]
        go_simp
        try first | exact S | exact ⟨vv, S⟩ | exact vv
      · clear hi
        refine step_of_g rfl rfl ?_
        intro u G w hf S
        have f3 : u 3 = (.bool false) := hf 3 (by simp)
        have f4 : u 4 = .pointer (some ⟨g1, 0, none⟩) := hf 4 (by simp)
        simp only [resOf, spec, RSpec.resAt, z0, z1, z2, z3, z4, z5, z6, z7, ptrBlk] at S ⊢
        simp only [f3, f4]
        refine ⟨rfl, ?_⟩
        refine does_load1 5 (.tmp 10) _ _ rfl (S.cell (g := g1) pk co) _ Tryd.underlying5 rfl ?_; exact ⟨rfl, S⟩
      · clear hi
        refine step_of_g rfl rfl ?_
        intro u G w hf S
        have f3 : u 3 = (.bool false) := hf 3 (by simp)
        have f5 : u 5 = by8 r.kind := hf 5 (by simp)
        simp only [resOf, spec, RSpec.resAt, z0, z1, z2, z3, z4, z5, z6, z7, ptrBlk] at S ⊢
        simp only [f3, f5]
        refine ⟨rfl, ?_⟩
        simp only [does]
        go_simp
        try first | exact S | exact ⟨vv, S⟩ | exact vv
      · clear hi
        refine step_of rfl rfl rfl ?_
        intro u G w hf S
        have f3 : u 3 = (.bool false) := hf 3 (by simp)
        have f6 : u 6 = .bool false := hf 6 (by simp)
        simp only [resOf, spec, RSpec.resAt, z0, z1, z2, z3, z4, z5, z6, z7, ptrBlk] at S ⊢
        simp only [f3, f6]
        simp only [does]
        go_simp
        try first | exact S | exact ⟨vv, S⟩ | exact vv
      · clear hi
        refine step_of rfl rfl rfl ?_
        intro u G w hf S
        have f7 : u 7 = .bool false := hf 7 (by simp)
        simp only [resOf, spec, RSpec.resAt, z0, z1, z2, z3, z4, z5, z6, z7, ptrBlk] at S ⊢
        simp only [f7]
        simp only [does]
        go_simp
        try first | exact S | exact ⟨vv, S⟩ | exact vv
      · clear hi
        refine step_of_g rfl rfl ?_
        intro u G w hf S
        have f8 : u 8 = (.bool false) := hf 8 (by simp)
        simp only [resOf, spec, RSpec.resAt, z0, z1, z2, z3, z4, z5, z6, z7, ptrBlk] at S ⊢
        simp only [f8]
        refine ⟨rfl, ?_⟩
        simp only [does]
        go_simp
        try first | exact S | exact ⟨vv, S⟩ | exact vv
      · clear hi
        refine step_of_g rfl rfl ?_
        intro u G w hf S
        have f8 : u 8 = (.bool false) := hf 8 (by simp)
        have f9 : u 9 = (bdyV B) := hf 9 (by simp)
        simp only [resOf, spec, RSpec.resAt, z0, z1, z2, z3, z4, z5, z6, z7, ptrBlk] at S ⊢
        simp only [f8, f9]
        refine ⟨rfl, ?_⟩
        obtain ⟨f, rv, hr, hc⟩ := HBV.out w; refine does_inv (.tmp 15) "dunnage/wire.valid" [] _ _ [] f #[rv] rfl rfl hr hc ?_; rintro e w1 ⟨rfl, T⟩; exact ⟨_, rfl, rfl, S.call T⟩
      · clear hi
        refine step_of_g rfl rfl ?_
        intro u G w hf S
        have f8 : u 8 = (.bool false) := hf 8 (by simp)
        have f10 : u 10 = .bool false := hf 10 (by simp)
        simp only [resOf, spec, RSpec.resAt, z0, z1, z2, z3, z4, z5, z6, z7, ptrBlk] at S ⊢
        simp only [f8, f10]
        refine ⟨rfl, ?_⟩
        simp only [does]
        go_simp
        try first | exact S | exact ⟨vv, S⟩ | exact vv
      · clear hi
        refine step_of rfl rfl rfl ?_
        intro u G w hf S
        have f8 : u 8 = (.bool false) := hf 8 (by simp)
        have f11 : u 11 = .bool true := hf 11 (by simp)
        simp only [resOf, spec, RSpec.resAt, z0, z1, z2, z3, z4, z5, z6, z7, ptrBlk] at S ⊢
        simp only [f8, f11]
        simp only [does]
        go_simp
        try first | exact S | exact ⟨vv, S⟩ | exact vv
      · clear hi
        refine step_of rfl rfl rfl ?_
        intro u G w hf S
        have f12 : u 12 = .bool true := hf 12 (by simp)
        simp only [resOf, spec, RSpec.resAt, z0, z1, z2, z3, z4, z5, z6, z7, ptrBlk] at S ⊢
        simp only [f12]
        simp only [does]
        go_simp
        try first | exact S | exact ⟨vv, S⟩ | exact vv
      · clear hi
        refine step_of_x rfl rfl ?_
        intro u G w hf S
        have f13 : u 13 = (.bool true) := hf 13 (by simp)
        simp only [resOf, spec, RSpec.resAt, z0, z1, z2, z3, z4, z5, z6, z7, ptrBlk] at S ⊢
        simp only [f13]
        refine ⟨rfl, ?_⟩
        first | exact ⟨rfl, S⟩ | exact ⟨trivial, S⟩
      · clear hi
        refine step_of_x rfl rfl ?_
        intro u G w hf S
        have f13 : u 13 = (.bool true) := hf 13 (by simp)
        have f14 : u 14 = undef := hf 14 (by simp)
        simp only [resOf, spec, RSpec.resAt, z0, z1, z2, z3, z4, z5, z6, z7, ptrBlk] at S ⊢
        simp only [f13, f14]
        refine ⟨rfl, ?_⟩
        first | exact ⟨rfl, S⟩ | exact ⟨trivial, S⟩
      · clear hi
        refine step_of_x rfl rfl ?_
        intro u G w hf S
        have f13 : u 13 = (.bool true) := hf 13 (by simp)
        simp only [resOf, spec, RSpec.resAt, z0, z1, z2, z3, z4, z5, z6, z7, ptrBlk] at S ⊢
        simp only [f13]
        refine ⟨rfl, ?_⟩
        first | exact ⟨rfl, S⟩ | exact ⟨trivial, S⟩
      · clear hi
        refine step_of_x rfl rfl ?_
        intro u G w hf S
        have f13 : u 13 = (.bool true) := hf 13 (by simp)
        have f16 : u 16 = undef := hf 16 (by simp)
        simp only [resOf, spec, RSpec.resAt, z0, z1, z2, z3, z4, z5, z6, z7, ptrBlk] at S ⊢
        simp only [f13, f16]
        refine ⟨rfl, ?_⟩
        first | exact ⟨rfl, S⟩ | exact ⟨trivial, S⟩
      · clear hi
        refine step_of_x rfl rfl ?_
        intro u G w hf S
        have f13 : u 13 = (.bool true) := hf 13 (by simp)
        simp only [resOf, spec, RSpec.resAt, z0, z1, z2, z3, z4, z5, z6, z7, ptrBlk] at S ⊢
        simp only [f13]
        refine ⟨rfl, ?_⟩
        first | exact ⟨rfl, S⟩ | exact ⟨trivial, S⟩
      · clear hi
        refine step_of_x rfl rfl ?_
        intro u G w hf S
        have f13 : u 13 = (.bool true) := hf 13 (by simp)
        have f15 : u 15 = undef := hf 15 (by simp)
        have f17 : u 17 = undef := hf 17 (by simp)
        have f18 : u 18 = undef := hf 18 (by simp)
        simp only [resOf, spec, RSpec.resAt, z0, z1, z2, z3, z4, z5, z6, z7, ptrBlk] at S ⊢
        simp only [f13, f15, f17, f18]
        refine ⟨rfl, ?_⟩
        first | exact ⟨rfl, S⟩ | exact ⟨trivial, S⟩
      · clear hi
        refine step_of_x rfl rfl ?_
        intro u G w hf S
        have f13 : u 13 = (.bool true) := hf 13 (by simp)
        simp only [resOf, spec, RSpec.resAt, z0, z1, z2, z3, z4, z5, z6, z7, ptrBlk] at S ⊢
        simp only [f13]
        refine ⟨rfl, ?_⟩
        first | exact ⟨rfl, S⟩ | exact ⟨trivial, S⟩
      · clear hi
        refine step_of_x rfl rfl ?_
        intro u G w hf S
        have f13 : u 13 = (.bool true) := hf 13 (by simp)
        have f19 : u 19 = undef := hf 19 (by simp)
        have f20 : u 20 = undef := hf 20 (by simp)
        simp only [resOf, spec, RSpec.resAt, z0, z1, z2, z3, z4, z5, z6, z7, ptrBlk] at S ⊢
        simp only [f13, f19, f20]
        refine ⟨rfl, ?_⟩
        first | exact ⟨rfl, S⟩ | exact ⟨trivial, S⟩
      · clear hi
        refine step_of rfl rfl rfl ?_
        intro u G w hf S
        have f13 : u 13 = (.bool true) := hf 13 (by simp)
        have f21 : u 21 = undef := hf 21 (by simp)
        simp only [resOf, spec, RSpec.resAt, z0, z1, z2, z3, z4, z5, z6, z7, ptrBlk] at S ⊢
        simp only [f13, f21]
        simp only [does]
        go_simp
        try first | exact S | exact ⟨vv, S⟩ | exact vv
    case fin3 =>
      intro u w hf S
      have f0 : u 0 = .pointer (some ⟨g1, 0, none⟩) := hf 0 (by simp)
      have f1 : u 1 = by8 r.kind := hf 1 (by simp)
      have f2 : u 2 = .bool false := hf 2 (by simp)
      have f3 : u 3 = (.bool false) := hf 3 (by simp)
      have f4 : u 4 = .pointer (some ⟨g1, 0, none⟩) := hf 4 (by simp)
      have f5 : u 5 = by8 r.kind := hf 5 (by simp)
      have f6 : u 6 = .bool false := hf 6 (by simp)
      have f7 : u 7 = .bool false := hf 7 (by simp)
      have f8 : u 8 = (.bool false) := hf 8 (by simp)
      have f9 : u 9 = (bdyV B) := hf 9 (by simp)
      have f10 : u 10 = .bool false := hf 10 (by simp)
      have f11 : u 11 = .bool true := hf 11 (by simp)
      have f12 : u 12 = .bool true := hf 12 (by simp)
      have f13 : u 13 = (.bool true) := hf 13 (by simp)
      have f14 : u 14 = undef := hf 14 (by simp)
      have f15 : u 15 = undef := hf 15 (by simp)
      have f16 : u 16 = undef := hf 16 (by simp)
      have f17 : u 17 = undef := hf 17 (by simp)
      have f18 : u 18 = undef := hf 18 (by simp)
      have f19 : u 19 = undef := hf 19 (by simp)
      have f20 : u 20 = undef := hf 20 (by simp)
      have f21 : u 21 = undef := hf 21 (by simp)
      have f22 : u 22 = .bool true := hf 22 (by simp)
      simp only [resOf, spec, RSpec.resAt, z0, z1, z2, z3, z4, z5, z6, z7, ptrBlk] at S
      clear hf
      simp only [List.length_cons, List.length_nil, Nat.zero_add, Nat.reduceAdd, List.drop_succ_cons, List.drop_zero, f0, f1, f2, f3, f4, f5, f6, f7, f8, f9, f10, f11, f12, f13, f14, f15, f16, f17, f18, f19, f20, f21, f22]
      clear f0 f1 f2 f3 f4 f5 f6 f7 f8 f9 f10 f11 f12 f13 f14 f15 f16 f17 f18 f19 f20 f21 f22
      go_wp2_with (first | ((with_reducible refine iD 1 (.box 69 (.tmp 0)) ?_); refine step_boxA (dst := some 1) S 69 (.tmp 0) _ rfl gw ?_; clear S; intro g1 w S) | ((with_reducible refine iO _ (.load 69 _) ?_); first | (refine step_load S 69 _ _ rfl _ _ _ pk _ Tryd.underlying69 rfl 40 kR lN gw ?_) | (refine step_loadO 69 _ _ rfl _ _ _ (S.old_heap (Hid.out (by assumption))) _ Tryd.underlying69 rfl 40 kR lN gw ?_) | (refine step_loadR 69 _ _ _ rfl _ (S.old_range hy) _ Tryd.underlying69 rfl 40 kR lN _ rfl gw ?_)) | ((with_reducible refine iO _ (.load 5 _) ?_); refine step_load1 5 _ _ _ rfl (cL) _ Tryd.underlying5 rfl gw ?_) | ((with_reducible refine iO _ (.load 67 _) ?_); first | (refine step_loadR 67 _ _ _ rfl _ (S.old_range hy) _ Tryd.underlying67 rfl 36 kR lN _ rfl gw ?_) | (refine step_loadP S 67 _ _ _ rfl _ _ _ pk 36 _ pT lN _ Tryd.underlying67 rfl kR gw ?_)) | fail)
      go_ret
      exact ⟨rfl, S.nil⟩
  · rw [show rqE r = if d = true then 0 else 8 from hV]
    have HRB := Lib.hid hrb; have HBV := Lib.hid hbv; have HOF := Lib.hid hof; clear hrb hbv hof
    clear hV
    go_enter Tryd.func36, Tryd.ntmps36
    go_wp2_with (first | ((with_reducible refine iD 1 (.box 69 (.tmp 0)) ?_); refine step_boxA (dst := some 1) S 69 (.tmp 0) _ rfl gw ?_; clear S; intro g1 w S) | ((with_reducible refine iO _ (.load 69 _) ?_); first | (refine step_load S 69 _ _ rfl _ _ _ pk _ Tryd.underlying69 rfl 40 kR lN gw ?_) | (refine step_loadO 69 _ _ rfl _ _ _ (S.old_heap (Hid.out (by assumption))) _ Tryd.underlying69 rfl 40 kR lN gw ?_) | (refine step_loadR 69 _ _ _ rfl _ (S.old_range hy) _ Tryd.underlying69 rfl 40 kR lN _ rfl gw ?_)) | (go_at_call 57; (with_reducible refine (HRB.out _).mono ?_); rintro e w1 ⟨rfl, T⟩; replace S := S.call T; clear T; (try simp only [z4, z5] at S)) | ((with_reducible refine iO _ (.load 5 _) ?_); refine step_load1 5 _ _ _ rfl (cL) _ Tryd.underlying5 rfl gw ?_) | ((with_reducible refine iO _ (.load 67 _) ?_); first | (refine step_loadR 67 _ _ _ rfl _ (S.old_range hy) _ Tryd.underlying67 rfl 36 kR lN _ rfl gw ?_) | (refine step_loadP S 67 _ _ _ rfl _ _ _ pk 36 _ pT lN _ Tryd.underlying67 rfl kR gw ?_)) | fail)
    refine wp_rely S [⟨[], [], [], fun _ v => v = .pointer (some ⟨g1, 0, none⟩), fun _ v => []⟩, ⟨[0], [], [], fun _ v => v = by8 r.kind, fun _ v => []⟩, ⟨[0, 1], [], [], fun _ v => v = .bool false, fun _ v => []⟩, ⟨[0, 1, 2], [], [], fun _ v => v = (.bool false), fun _ v => []⟩, ⟨[0, 1, 2, 3], [], [], fun _ v => v = .pointer (some ⟨g1, 0, none⟩), fun _ v => []⟩, ⟨[0, 1, 2, 3, 4], [], [], fun _ v => v = by8 r.kind, fun _ v => []⟩, ⟨[0, 1, 2, 3, 4, 5], [], [], fun _ v => v = .bool false, fun _ v => []⟩, ⟨[0, 1, 2, 3, 4, 5, 6], [], [], fun _ v => v = .bool false, fun _ v => []⟩, ⟨[0, 1, 2, 3, 4, 5, 6, 7], [], [], fun _ v => v = (.bool false), fun _ v => []⟩, ⟨[0, 1, 2, 3, 4, 5, 6, 7, 8], [], [], fun _ v => v = (bdyV B), fun _ v => []⟩, ⟨[0, 1, 2, 3, 4, 5, 6, 7, 8, 9], [], [], fun _ v => v = .bool true, fun _ v => []⟩, ⟨[0, 1, 2, 3, 4, 5, 6, 7, 8, 9, 10], [], [], fun _ v => v = .bool false, fun _ v => []⟩, ⟨[0, 1, 2, 3, 4, 5, 6, 7, 8, 9, 10, 11], [], [], fun _ v => v = .bool false, fun _ v => []⟩, ⟨[0, 1, 2, 3, 4, 5, 6, 7, 8, 9, 10, 11, 12], [], [], fun _ v => v = (.bool false), fun _ v => []⟩, ⟨[0, 1, 2, 3, 4, 5, 6, 7, 8, 9, 10, 11, 12, 13], [], [], fun _ v => v = .pointer (some ⟨g1, 0, none⟩), fun _ v => []⟩, ⟨[0, 1, 2, 3, 4, 5, 6, 7, 8, 9, 10, 11, 12, 13, 14], [], [], fun _ v => v = by8 r.kind, fun _ v => []⟩, ⟨[0, 1, 2, 3, 4, 5, 6, 7, 8, 9, 10, 11, 12, 13], [], [], fun _ v => v = .pointer (some ⟨g1, 1, none⟩), fun _ v => []⟩, ⟨[0, 1, 2, 3, 4, 5, 6, 7, 8, 9, 10, 11, 12, 13, 16], [], [], fun _ v => v = .agg (tokL r.tok).toArray, fun _ v => []⟩, ⟨[0, 1, 2, 3, 4, 5, 6, 7, 8, 9, 10, 11, 12, 13], [], [], fun _ v => v = (bdyV B), fun _ v => []⟩, ⟨[0, 1, 2, 3, 4, 5, 6, 7, 8, 9, 10, 11, 12, 13, 14, 15, 16, 17, 18], [], [], fun _ v => v = .agg (rqL q).toArray, fun _ v => []⟩, ⟨[0, 1, 2, 3, 4, 5, 6, 7, 8, 9, 10, 11, 12, 13], [], [], fun _ v => v = .agg (rqL r).toArray, fun _ v => []⟩, ⟨[0, 1, 2, 3, 4, 5, 6, 7, 8, 9, 10, 11, 12, 13, 14, 15, 16, 17, 18, 19, 20], [], [], fun _ v => v = .bool (!d), fun _ v => []⟩, ⟨[0, 1, 2, 3, 4, 5, 6, 7, 8, 9, 10, 11, 12, 13, 14, 15, 16, 17, 18, 19, 20, 21], [], [], fun _ v => v = .bool (!d), fun _ v => []⟩] ?A4 ?hA4 kR kR kR [0, 1, 2, 3, 4, 5, 6, 7, 8, 9, 10, 11, 12, 13, 14, 15, 16, 17, 18, 19, 20, 21, 22] kR ?hok4 ?fin4
    case hA4 => intro u; simp only [putAll, List.length_cons, List.length_nil, Nat.zero_add, Nat.reduceAdd, dstAt, List.getElem?_toArray, List.getElem?_cons_zero, List.getElem?_cons_succ, Option.bind_some, Act.put, List.setIfInBounds_toArray, List.set_cons_zero, List.set_cons_succ]; rfl
    case hok4 =>
      intro i hi
      obtain rfl | rfl | rfl | rfl | rfl | rfl | rfl | rfl | rfl | rfl | rfl | rfl | rfl | rfl | rfl | rfl | rfl | rfl | rfl | rfl | rfl | rfl | rfl : i = 0 ∨ i = 1 ∨ i = 2 ∨ i = 3 ∨ i = 4 ∨ i = 5 ∨ i = 6 ∨ i = 7 ∨ i = 8 ∨ i = 9 ∨ i = 10 ∨ i = 11 ∨ i = 12 ∨ i = 13 ∨ i = 14 ∨ i = 15 ∨ i = 16 ∨ i = 17 ∨ i = 18 ∨ i = 19 ∨ i = 20 ∨ i = 21 ∨ i = 22 := by simp only [List.length_cons, List.length_nil, Nat.zero_add, Nat.reduceAdd] at hi; omega
      · clear hi
        refine step_of rfl rfl rfl ?_
        intro u G w hf S
        simp only [resOf, spec, RSpec.resAt, z0, z1, z2, z3, z4, z5, z6, z7, ptrBlk] at S ⊢
        simp only [does]
        go_simp
        try first | exact S | exact ⟨vv, S⟩ | exact vv
      · clear hi
        refine step_of rfl rfl rfl ?_
        intro u G w hf S
        have f0 : u 0 = .pointer (some ⟨g1, 0, none⟩) := hf 0 (by simp)
        simp only [resOf, spec, RSpec.resAt, z0, z1, z2, z3, z4, z5, z6, z7, ptrBlk] at S ⊢
        simp only [f0]
        refine does_load1 5 (.tmp 6) _ _ rfl (S.cell (g := g1) pk co) _ Tryd.underlying5 rfl ?_; exact ⟨rfl, S⟩
      · clear hi
        refine step_of rfl rfl rfl ?_
        intro u G w hf S
        have f1 : u 1 = by8 r.kind := hf 1 (by simp)
        simp only [resOf, spec, RSpec.resAt, z0, z1, z2, z3, z4, z5, z6, z7, ptrBlk] at S ⊢
        simp only [f1]
        simp only [does]
        go_simp
        try first | exact S | exact ⟨vv, S⟩ | exact vv
      · clear hi
        refine step_of rfl rfl rfl ?_
        intro u G w hf S
        have f2 : u 2 = .bool false := hf 2 (by simp)
        simp only [resOf, spec, RSpec.resAt, z0, z1, z2, z3, z4, z5, z6, z7, ptrBlk] at S ⊢
        simp only [f2]
        simp only [does]
        go_simp
        try first | exact S | exact ⟨vv, S⟩ | exact vv
      · clear hi
        refine step_of_g rfl rfl ?_
        intro u G w hf S
        have f3 : u 3 = (.bool false) := hf 3 (by simp)
        simp only [resOf, spec, RSpec.resAt, z0, z1, z2, z3, z4, z5, z6, z7, ptrBlk] at S ⊢
        simp only [f3]
        refine ⟨rfl, ?_⟩
        simp only [does]
        go_simp
        try first | exact S | exact ⟨vv, S⟩ | exact vv
      · clear hi
        refine step_of_g rfl rfl ?_
        intro u G w hf S
        have f3 : u 3 = (.bool false) := hf 3 (by simp)
        have f4 : u 4 = .pointer (some ⟨g1, 0, none⟩) := hf 4 (by simp)
        simp only [resOf, spec, RSpec.resAt, z0, z1, z2, z3, z4, z5, z6, z7, ptrBlk] at S ⊢
        simp only [f3, f4]
        refine ⟨rfl, ?_⟩
        refine does_load1 5 (.tmp 10) _ _ rfl (S.cell (g := g1) pk co) _ Tryd.underlying5 rfl ?_; exact ⟨rfl, S⟩
      · clear hi
        refine step_of_g rfl rfl ?_
        intro u G w hf S
        have f3 : u 3 = (.bool false) := hf 3 (by simp)
        have f5 : u 5 = by8 r.kind := hf 5 (by simp)
        simp only [resOf, spec, RSpec.resAt, z0, z1, z2, z3, z4, z5, z6, z7, ptrBlk] at S ⊢
        simp only [f3, f5]
        refine ⟨rfl, ?_⟩
        simp only [does]
        go_simp
        try first | exact S | exact ⟨vv, S⟩ | exact vv
      · clear hi
        refine step_of rfl rfl rfl ?_
        intro u G w hf S
        have f3 : u 3 = (.bool false) := hf 3 (by simp)
        have f6 : u 6 = .bool false := hf 6 (by simp)
        simp only [resOf, spec, RSpec.resAt, z0, z1, z2, z3, z4, z5, z6, z7, ptrBlk] at S ⊢
        simp only [f3, f6]
        simp only [does]
        go_simp
        try first | exact S | exact ⟨vv, S⟩ | exact vv
      · clear hi
        refine step_of rfl rfl rfl ?_
        intro u G w hf S
        have f7 : u 7 = .bool false := hf 7 (by simp)
        simp only [resOf, spec, RSpec.resAt, z0, z1, z2, z3, z4, z5, z6, z7, ptrBlk] at S ⊢
        simp only [f7]
        simp only [does]
        go_simp
        try first | exact S | exact ⟨vv, S⟩ | exact vv
      · clear hi
        refine step_of_g rfl rfl ?_
        intro u G w hf S
        have f8 : u 8 = (.bool false) := hf 8 (by simp)
        simp only [resOf, spec, RSpec.resAt, z0, z1, z2, z3, z4, z5, z6, z7, ptrBlk] at S ⊢
        simp only [f8]
        refine ⟨rfl, ?_⟩
        simp only [does]
        go_simp
        try first | exact S | exact ⟨vv, S⟩ | exact vv
      · clear hi
        refine step_of_g rfl rfl ?_
        intro u G w hf S
        have f8 : u 8 = (.bool false) := hf 8 (by simp)
        have f9 : u 9 = (bdyV B) := hf 9 (by simp)
        simp only [resOf, spec, RSpec.resAt, z0, z1, z2, z3, z4, z5, z6, z7, ptrBlk] at S ⊢
        simp only [f8, f9]
        refine ⟨rfl, ?_⟩
        obtain ⟨f, rv, hr, hc⟩ := HBV.out w; refine does_inv (.tmp 15) "dunnage/wire.valid" [] _ _ [] f #[rv] rfl rfl hr hc ?_; rintro e w1 ⟨rfl, T⟩; exact ⟨_, rfl, rfl, S.call T⟩
      · clear hi
        refine step_of_g rfl rfl ?_
        intro u G w hf S
        have f8 : u 8 = (.bool false) := hf 8 (by simp)
        have f10 : u 10 = .bool true := hf 10 (by simp)
        simp only [resOf, spec, RSpec.resAt, z0, z1, z2, z3, z4, z5, z6, z7, ptrBlk] at S ⊢
        simp only [f8, f10]
        refine ⟨rfl, ?_⟩
        simp only [does]
        go_simp
        try first | exact S | exact ⟨vv, S⟩ | exact vv
      · clear hi
        refine step_of rfl rfl rfl ?_
        intro u G w hf S
        have f8 : u 8 = (.bool false) := hf 8 (by simp)
        have f11 : u 11 = .bool false := hf 11 (by simp)
        simp only [resOf, spec, RSpec.resAt, z0, z1, z2, z3, z4, z5, z6, z7, ptrBlk] at S ⊢
        simp only [f8, f11]
        simp only [does]
        go_simp
        try first | exact S | exact ⟨vv, S⟩ | exact vv
      · clear hi
        refine step_of rfl rfl rfl ?_
        intro u G w hf S
        have f12 : u 12 = .bool false := hf 12 (by simp)
        simp only [resOf, spec, RSpec.resAt, z0, z1, z2, z3, z4, z5, z6, z7, ptrBlk] at S ⊢
        simp only [f12]
        simp only [does]
        go_simp
        try first | exact S | exact ⟨vv, S⟩ | exact vv
      · clear hi
        refine step_of_g rfl rfl ?_
        intro u G w hf S
        have f13 : u 13 = (.bool false) := hf 13 (by simp)
        simp only [resOf, spec, RSpec.resAt, z0, z1, z2, z3, z4, z5, z6, z7, ptrBlk] at S ⊢
        simp only [f13]
        refine ⟨rfl, ?_⟩
        simp only [does]
        go_simp
        try first | exact S | exact ⟨vv, S⟩ | exact vv
      · clear hi
        refine step_of_g rfl rfl ?_
        intro u G w hf S
        have f13 : u 13 = (.bool false) := hf 13 (by simp)
        have f14 : u 14 = .pointer (some ⟨g1, 0, none⟩) := hf 14 (by simp)
        simp only [resOf, spec, RSpec.resAt, z0, z1, z2, z3, z4, z5, z6, z7, ptrBlk] at S ⊢
        simp only [f13, f14]
        refine ⟨rfl, ?_⟩
        refine does_load1 5 (.tmp 20) _ _ rfl (S.cell (g := g1) pk co) _ Tryd.underlying5 rfl ?_; exact ⟨rfl, S⟩
      · clear hi
        refine step_of_g rfl rfl ?_
        intro u G w hf S
        have f13 : u 13 = (.bool false) := hf 13 (by simp)
        simp only [resOf, spec, RSpec.resAt, z0, z1, z2, z3, z4, z5, z6, z7, ptrBlk] at S ⊢
        simp only [f13]
        refine ⟨rfl, ?_⟩
        simp only [does]
        go_simp
        try first | exact S | exact ⟨vv, S⟩ | exact vv
      · clear hi
        refine step_of_g rfl rfl ?_
        intro u G w hf S
        have f13 : u 13 = (.bool false) := hf 13 (by simp)
        have f16 : u 16 = .pointer (some ⟨g1, 1, none⟩) := hf 16 (by simp)
        simp only [resOf, spec, RSpec.resAt, z0, z1, z2, z3, z4, z5, z6, z7, ptrBlk] at S ⊢
        simp only [f13, f16]
        refine ⟨rfl, ?_⟩
        refine does_loadP S 67 (.tmp 22) _ _ rfl _ _ _ pk 36 _ pT lN _ Tryd.underlying67 rfl kR ?_; exact ⟨rfl, S⟩
      · clear hi
        refine step_of_g rfl rfl ?_
        intro u G w hf S
        have f13 : u 13 = (.bool false) := hf 13 (by simp)
        simp only [resOf, spec, RSpec.resAt, z0, z1, z2, z3, z4, z5, z6, z7, ptrBlk] at S ⊢
        simp only [f13]
        refine ⟨rfl, ?_⟩
        simp only [does]
        go_simp
        try first | exact S | exact ⟨vv, S⟩ | exact vv
      · clear hi
        refine step_of_g rfl rfl ?_
        intro u G w hf S
        have f13 : u 13 = (.bool false) := hf 13 (by simp)
        have f15 : u 15 = by8 r.kind := hf 15 (by simp)
        have f17 : u 17 = .agg (tokL r.tok).toArray := hf 17 (by simp)
        have f18 : u 18 = (bdyV B) := hf 18 (by simp)
        simp only [resOf, spec, RSpec.resAt, z0, z1, z2, z3, z4, z5, z6, z7, ptrBlk] at S ⊢
        simp only [f13, f15, f17, f18]
        refine ⟨rfl, ?_⟩
        refine does_fn (args := [(by8 r.kind), (.agg (tokL r.tok).toArray), ((bdyV B))]) Tryd.func64 kR kR (HOF.out w) rfl ?_
        rintro e w1 ⟨rfl, T⟩
        exact ⟨_, rfl, rfl, S.call T⟩
      · clear hi
        refine step_of_g rfl rfl ?_
        intro u G w hf S
        have f13 : u 13 = (.bool false) := hf 13 (by simp)
        simp only [resOf, spec, RSpec.resAt, z0, z1, z2, z3, z4, z5, z6, z7, ptrBlk] at S ⊢
        simp only [f13]
        refine ⟨rfl, ?_⟩
        refine does_load 69 (.tmp 1) g1 rfl _ _ _ (S.get (r := blk g1 _) pk) _ Tryd.underlying69 rfl 40 kR lN ?_; exact ⟨rfl, S⟩
      · clear hi
        refine step_of_g rfl rfl ?_
        intro u G w hf S
        have f13 : u 13 = (.bool false) := hf 13 (by simp)
        have f19 : u 19 = .agg (rqL q).toArray := hf 19 (by simp)
        have f20 : u 20 = .agg (rqL r).toArray := hf 20 (by simp)
        simp only [resOf, spec, RSpec.resAt, z0, z1, z2, z3, z4, z5, z6, z7, ptrBlk] at S ⊢
        simp only [f13, f19, f20]
        refine ⟨rfl, ?_⟩
        simp only [does]
        go_simp
        try first | exact S | exact ⟨vv, S⟩ | exact vv
      · clear hi
        refine step_of rfl rfl rfl ?_
        intro u G w hf S
        have f13 : u 13 = (.bool false) := hf 13 (by simp)
        have f21 : u 21 = .bool (!d) := hf 21 (by simp)
        simp only [resOf, spec, RSpec.resAt, z0, z1, z2, z3, z4, z5, z6, z7, ptrBlk] at S ⊢
        simp only [f13, f21]
        simp only [does]
        go_simp
        try first | exact S | exact ⟨vv, S⟩ | exact vv
    case fin4 =>
      intro u w hf S
      have f0 : u 0 = .pointer (some ⟨g1, 0, none⟩) := hf 0 (by simp)
      have f1 : u 1 = by8 r.kind := hf 1 (by simp)
      have f2 : u 2 = .bool false := hf 2 (by simp)
      have f3 : u 3 = (.bool false) := hf 3 (by simp)
      have f4 : u 4 = .pointer (some ⟨g1, 0, none⟩) := hf 4 (by simp)
      have f5 : u 5 = by8 r.kind := hf 5 (by simp)
      have f6 : u 6 = .bool false := hf 6 (by simp)
      have f7 : u 7 = .bool false := hf 7 (by simp)
      have f8 : u 8 = (.bool false) := hf 8 (by simp)
      have f9 : u 9 = (bdyV B) := hf 9 (by simp)
      have f10 : u 10 = .bool true := hf 10 (by simp)
      have f11 : u 11 = .bool false := hf 11 (by simp)
      have f12 : u 12 = .bool false := hf 12 (by simp)
      have f13 : u 13 = (.bool false) := hf 13 (by simp)
      have f14 : u 14 = .pointer (some ⟨g1, 0, none⟩) := hf 14 (by simp)
      have f15 : u 15 = by8 r.kind := hf 15 (by simp)
      have f16 : u 16 = .pointer (some ⟨g1, 1, none⟩) := hf 16 (by simp)
      have f17 : u 17 = .agg (tokL r.tok).toArray := hf 17 (by simp)
      have f18 : u 18 = (bdyV B) := hf 18 (by simp)
      have f19 : u 19 = .agg (rqL q).toArray := hf 19 (by simp)
      have f20 : u 20 = .agg (rqL r).toArray := hf 20 (by simp)
      have f21 : u 21 = .bool (!d) := hf 21 (by simp)
      have f22 : u 22 = .bool (!d) := hf 22 (by simp)
      simp only [resOf, spec, RSpec.resAt, z0, z1, z2, z3, z4, z5, z6, z7, ptrBlk] at S
      clear hf
      simp only [List.length_cons, List.length_nil, Nat.zero_add, Nat.reduceAdd, List.drop_succ_cons, List.drop_zero, f0, f1, f2, f3, f4, f5, f6, f7, f8, f9, f10, f11, f12, f13, f14, f15, f16, f17, f18, f19, f20, f21, f22]
      clear f0 f1 f2 f3 f4 f5 f6 f7 f8 f9 f10 f11 f12 f13 f14 f15 f16 f17 f18 f19 f20 f21 f22
      cases d
      · go_wp2_with (first | ((with_reducible refine iD 1 (.box 69 (.tmp 0)) ?_); refine step_boxA (dst := some 1) S 69 (.tmp 0) _ rfl gw ?_; clear S; intro g1 w S) | ((with_reducible refine iO _ (.load 69 _) ?_); first | (refine step_load S 69 _ _ rfl _ _ _ pk _ Tryd.underlying69 rfl 40 kR lN gw ?_) | (refine step_loadO 69 _ _ rfl _ _ _ (S.old_heap (Hid.out (by assumption))) _ Tryd.underlying69 rfl 40 kR lN gw ?_) | (refine step_loadR 69 _ _ _ rfl _ (S.old_range hy) _ Tryd.underlying69 rfl 40 kR lN _ rfl gw ?_)) | ((with_reducible refine iO _ (.load 5 _) ?_); refine step_load1 5 _ _ _ rfl (cL) _ Tryd.underlying5 rfl gw ?_) | ((with_reducible refine iO _ (.load 67 _) ?_); first | (refine step_loadR 67 _ _ _ rfl _ (S.old_range hy) _ Tryd.underlying67 rfl 36 kR lN _ rfl gw ?_) | (refine step_loadP S 67 _ _ _ rfl _ _ _ pk 36 _ pT lN _ Tryd.underlying67 rfl kR gw ?_)) | fail)
        go_ret
        exact ⟨rfl, S.nil⟩
      · go_wp2_with (first | ((with_reducible refine iD 1 (.box 69 (.tmp 0)) ?_); refine step_boxA (dst := some 1) S 69 (.tmp 0) _ rfl gw ?_; clear S; intro g1 w S) | ((with_reducible refine iO _ (.load 69 _) ?_); first | (refine step_load S 69 _ _ rfl _ _ _ pk _ Tryd.underlying69 rfl 40 kR lN gw ?_) | (refine step_loadO 69 _ _ rfl _ _ _ (S.old_heap (Hid.out (by assumption))) _ Tryd.underlying69 rfl 40 kR lN gw ?_) | (refine step_loadR 69 _ _ _ rfl _ (S.old_range hy) _ Tryd.underlying69 rfl 40 kR lN _ rfl gw ?_)) | ((with_reducible refine iO _ (.load 5 _) ?_); refine step_load1 5 _ _ _ rfl (cL) _ Tryd.underlying5 rfl gw ?_) | ((with_reducible refine iO _ (.load 67 _) ?_); first | (refine step_loadR 67 _ _ _ rfl _ (S.old_range hy) _ Tryd.underlying67 rfl 36 kR lN _ rfl gw ?_) | (refine step_loadP S 67 _ _ _ rfl _ _ _ pk 36 _ pT lN _ Tryd.underlying67 rfl kR gw ?_)) | fail)
        go_ret
        exact ⟨rfl, S.nil⟩
end Go.Proofs.YtfhkmmagpnojmaaDoor
