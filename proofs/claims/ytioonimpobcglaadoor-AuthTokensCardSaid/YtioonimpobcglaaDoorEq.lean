/- Whether two arrays are equal: of bytes, of words; whatever their length. No condition. -/
import Derived.Test.YtioonimpobcglaaDoorWord
import Derived.Laws.StructEq
set_option linter.unusedSimpArgs false
set_option linter.unusedVariables false
namespace Go.Proofs.YtioonimpobcglaaDoor
open Go.RowKit

def eqElems (d : Nat) (e : TypeId) (n : Nat) (xs ys : Array Value) : List Nat → Sem Bool
  | [] => pure true
  | i :: l => do
    let a ← part e xs (i * n)
    let b ← part e ys (i * n)
    let r ← Op.equalIn d e a b
    if (!r) = true then pure false else eqElems d e n xs ys l

theorem run_equalIn_elems {P : Program} (w : World) (d : Nat) (t : TypeId) (n m : Nat) (e : TypeId) (xs ys : Array Value) (ht : P.underlying t = some (.array n e)) (hs : (P.info? e).map (·.size) = some m) :
    (Op.equalIn (d + 1) t (.agg xs) (.agg ys)).run P w = (eqElems d e m xs ys (List.range' 0 n)).run P w := by
  obtain ⟨i, hi, hm⟩ : ∃ i, P.info? e = some i ∧ i.size = m := by
    cases h : P.info? e with
    | none => simp [h] at hs
    | some i => exact ⟨i, rfl, by simpa [h] using hs⟩
  simp only [Op.equalIn, Sem.run_bind, run_underlying ht, Result.andThen_ok]
  simp only [sizeOf, typeInfo, Sem.run_bind, run_program, Result.andThen_ok, hi, Sem.run_pure, hm]
  simp only [Std.Legacy.Range.forIn_eq_forIn_range', Std.Legacy.Range.size, Nat.sub_zero, Nat.add_sub_cancel, Nat.div_one]
  generalize List.range' 0 n = l
  clear ht
  induction l generalizing w with
  | nil => simp [eqElems]
  | cons j l ih =>
    simp only [List.forIn_cons, eqElems, Sem.run_bind]
    generalize (part e xs (j * m)).run P w = r1
    cases r1 with
    | ok a w1 =>
      simp only [Result.andThen_ok]
      generalize (part e ys (j * m)).run P w1 = r2
      cases r2 with
      | ok b w2 =>
        simp only [Result.andThen_ok]
        generalize (Op.equalIn d e a b).run P w2 = r3
        cases r3 with
        | ok r w3 =>
          cases r
          · simp only [Result.andThen_ok, Bool.not_false, if_true, Sem.run_pure]
          · simp only [Result.andThen_ok, Bool.not_true, Bool.false_eq_true, if_false, Sem.run_pure]
            exact ih w3
        | halt x w3 => simp [Result.andThen]
      | halt x w2 => simp [Result.andThen]
    | halt x w1 => simp [Result.andThen]

theorem run_eqElems {P : Program} {α : Type} [DecidableEq α] (f : α → Value) (w : World) (d : Nat) (e : TypeId) (hs : ∀ w, (isAgg e).run P w = .ok false w)
    (hf : ∀ a b w, (Op.equalIn d e (f a) (f b)).run P w = .ok (decide (a = b)) w) (xs ys : List α) (hl : xs.length = ys.length) :
    ∀ k, k ≤ xs.length → (eqElems d e 1 (xs.map f).toArray (ys.map f).toArray (List.range' k (xs.length - k))).run P w = .ok (decide (xs.drop k = ys.drop k)) w := by
  intro k
  generalize hm : xs.length - k = m
  induction m generalizing k w with
  | zero =>
    intro hk
    have h1 : xs.drop k = [] := List.drop_eq_nil_of_le (by omega)
    have h2 : ys.drop k = [] := List.drop_eq_nil_of_le (by omega)
    simp [eqElems, h1, h2]
  | succ m ih =>
    intro hk
    have hx : k < xs.length := by omega
    have hy : k < ys.length := by omega
    have ih' := ih w (k + 1) (by omega) (by omega)
    rw [List.range'_succ]
    simp only [eqElems, Sem.run_bind, Nat.mul_one]
    have p1 : (part e (xs.map f).toArray k).run P w = .ok (f xs[k]) w := by
      simp [part, Sem.run_bind, hs, hx]
    have p2 : (part e (ys.map f).toArray k).run P w = .ok (f ys[k]) w := by
      simp [part, Sem.run_bind, hs, hy]
    rw [p1]
    simp only [Result.andThen_ok, p2, hf]
    have hd : (xs.drop k = ys.drop k) ↔ (xs[k] = ys[k] ∧ xs.drop (k + 1) = ys.drop (k + 1)) := by
      rw [List.drop_eq_getElem_cons hx, List.drop_eq_getElem_cons hy, List.cons.injEq]
    by_cases h : xs[k] = ys[k]
    · have hd2 : (xs.drop k = ys.drop k) ↔ (xs.drop (k + 1) = ys.drop (k + 1)) := by rw [hd]; simp [h]
      simp only [h, decide_true, Bool.not_true, Bool.false_eq_true, if_false, ih', hd2]
    · have hd2 : ¬ (xs.drop k = ys.drop k) := by rw [hd]; simp [h]
      simp [h, hd2]

theorem run_equalIn_map {P : Program} {α : Type} [DecidableEq α] (f : α → Value) (w : World) (d : Nat) (t e : TypeId) (n : Nat) (ht : P.underlying t = some (.array n e)) (hi : (P.info? e).map (·.size) = some 1)
    (hs : ∀ w, (isAgg e).run P w = .ok false w) (hf : ∀ a b w, (Op.equalIn d e (f a) (f b)).run P w = .ok (decide (a = b)) w) (xs ys : List α) (hx : xs.length = n) (hy : ys.length = n) :
    (Op.equalIn (d + 1) t (.agg (xs.map f).toArray) (.agg (ys.map f).toArray)).run P w = .ok (decide (xs = ys)) w := by
  rw [run_equalIn_elems w d t n 1 e _ _ ht hi]
  have := run_eqElems (P := P) f w d e hs hf xs ys (by omega) 0 (by omega)
  rw [Nat.sub_zero, hx] at this
  simpa using this

theorem eqIn_by8 {P : Program} (d : Nat) (e : TypeId) (he : P.underlying e = some (.int .u8)) (a b : UInt8) (w : World) : (Op.equalIn (d + 1) e (by8 a) (by8 b)).run P w = .ok (decide (a = b)) w := by
  rw [run_equalIn_int w d e .u8 .u8 _ _ he]
  congr 1
  rw [Bool.eq_iff_iff, beq_iff_eq, decide_eq_true_eq, ← UInt8.toNat_inj]
  omega

theorem eqIn_U32 {P : Program} (d : Nat) (e : TypeId) (he : P.underlying e = some (.int .u32)) (a b : UInt32) (w : World) : (Op.equalIn (d + 1) e (U32 a) (U32 b)).run P w = .ok (decide (a = b)) w := by
  unfold U32
  rw [run_equalIn_int w d e .u32 .u32 _ _ he]
  congr 1
  rw [Bool.eq_iff_iff, beq_iff_eq, decide_eq_true_eq, ← UInt32.toNat_inj]
  omega

theorem isAgg_int {P : Program} {e : TypeId} {k : IntKind} (he : P.underlying e = some (.int k)) (w : World) : (isAgg e).run P w = .ok false w := by
  unfold isAgg
  rw [Sem.run_bind, run_underlying he w]
  rfl

/-- Are two arrays of bytes equal? -/
theorem eql_bytes {P : Program} (t e : TypeId) (n : Nat) (ht : P.underlying t = some (.array n e)) (he : P.underlying e = some (.int .u8)) (hi : (P.info? e).map (·.size) = some 1)
    (xs ys : List UInt8) (hx : xs.length = n) (hy : ys.length = n) (w : World) :
    (binOp .eql t (.agg (xs.map by8).toArray) (.agg (ys.map by8).toArray)).run P w = .ok (.bool (decide (xs = ys))) w := by
  rw [run_eql_struct, show (10000 : Nat) = 9998 + 1 + 1 from rfl, run_equalIn_map by8 w _ t e n ht hi (isAgg_int he) (fun a b w => eqIn_by8 9998 e he a b w) xs ys hx hy]
  rfl

theorem neq_bytes {P : Program} (t e : TypeId) (n : Nat) (ht : P.underlying t = some (.array n e)) (he : P.underlying e = some (.int .u8)) (hi : (P.info? e).map (·.size) = some 1)
    (xs ys : List UInt8) (hx : xs.length = n) (hy : ys.length = n) (w : World) :
    (binOp .neq t (.agg (xs.map by8).toArray) (.agg (ys.map by8).toArray)).run P w = .ok (.bool (!decide (xs = ys))) w := by
  rw [run_neq_struct, show (10000 : Nat) = 9998 + 1 + 1 from rfl, run_equalIn_map by8 w _ t e n ht hi (isAgg_int he) (fun a b w => eqIn_by8 9998 e he a b w) xs ys hx hy]
  rfl

theorem eql_words {P : Program} (t e : TypeId) (n : Nat) (ht : P.underlying t = some (.array n e)) (he : P.underlying e = some (.int .u32)) (hi : (P.info? e).map (·.size) = some 1)
    (xs ys : List UInt32) (hx : xs.length = n) (hy : ys.length = n) (w : World) :
    (binOp .eql t (.agg (xs.map U32).toArray) (.agg (ys.map U32).toArray)).run P w = .ok (.bool (decide (xs = ys))) w := by
  rw [run_eql_struct, show (10000 : Nat) = 9998 + 1 + 1 from rfl, run_equalIn_map U32 w _ t e n ht hi (isAgg_int he) (fun a b w => eqIn_U32 9998 e he a b w) xs ys hx hy]
  rfl
end Go.Proofs.YtioonimpobcglaaDoor
