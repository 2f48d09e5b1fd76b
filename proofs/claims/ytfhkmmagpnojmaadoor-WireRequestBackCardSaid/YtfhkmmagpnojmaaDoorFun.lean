/- Function values that a call makes: closures, structs that hold them, slices of such structs, and the call of one. No condition. -/
import Derived.Test.YtfhkmmagpnojmaaDoorBd
set_option linter.unusedSimpArgs false
set_option linter.unusedVariables false
namespace Go.Proofs.YtfhkmmagpnojmaaDoor
open Go.RowKit

/-- A closure: the function, what it holds; with the number that stands beside it. -/
abbrev Cnd := FuncId × List Value × Int

/-- The cells of one condition. -/
def cndL (c : Cnd) : List Value := [.func (.func c.1) #[] c.2.1.toArray, .int .i64 c.2.2]

theorem cndL_len (c : Cnd) : (cndL c).length = 2 := rfl

theorem cndL_one (c : Cnd) : (cndL c).toArray.all (·.oneCell') = true := by simp [cndL, Value.oneCell', one_int]

section
variable {P : Program} {ops : Array Oper} {rest : List Oper} {a : Act} {w0 w : World} {l F : List Res} {Q : Exit → Act → World → Prop} {dst : Option Tmp} {ty : TypeId} {pos : String} {after : Array Edge} {gd : Option (Nat × Bool)} {Post : Value → World → Prop}

/-- A closure is made. -/
theorem step_makeF (f : FuncId) (xs : List Operand) (vs : List Value) (hx : xs.map a.eval = vs)
    (hw : Region.wanted ⟨dst, .makeFunc (.func f) #[] xs.toArray, ty, pos, after, gd⟩ (yielded ops a.tmps) = true)
    (h : wpList P ops Q rest (a.put dst (.func (.func f) #[] vs.toArray)) w) : wpList P ops Q (⟨dst, .makeFunc (.func f) #[] xs.toArray, ty, pos, after, gd⟩ :: rest) a w := by
  subst hx
  refine step_val (v := .func (.func f) #[] (xs.map a.eval).toArray) hw ?_ h
  simp [execOp, Instr.makeFunc, Result.andThen]

/-- A function value is called. -/
theorem step_callV {R : Ending → World → Prop} (x : Operand) (ts : Array TypeId) (f : FuncId) (fn : Func) (vs : List Value) (hx : a.eval x = .func (.func f) #[] vs.toArray)
    (hf : P.funcs[f]? = some fn) (hn : (fn.name == "runtime.NumGoroutine") = false) (hb : fn.body.isNone = false) (hc : Calls P f vs.toArray w R)
    (hw : Region.wanted ⟨dst, .call { callee := .value x, args := #[], argTypes := ts }, ty, pos, after, gd⟩ (yielded ops a.tmps) = true)
    (h : ∀ e w', R e w' → ∃ v, e = .returned v ∧ wpList P ops Q rest (a.put dst v) w') : wpList P ops Q (⟨dst, .call { callee := .value x, args := #[], argTypes := ts }, ty, pos, after, gd⟩ :: rest) a w := by
  have hrun : (execOp a.eval ⟨dst, .call { callee := .value x, args := #[], argTypes := ts }, ty, pos, after, gd⟩).run P w = .ok (.enter f vs.toArray) w := by
    obtain ⟨b, hb'⟩ : ∃ b, fn.body = some b := by
      cases h : fn.body with
      | none => rw [h] at hb; cases hb
      | some b => exact ⟨b, rfl⟩
    have hn' : ¬ fn.name = "runtime.NumGoroutine" := by simpa using hn
    simp [execOp, resolve, hx, Deferred.ofValue, invoke, callFunc, hf, hn', hb', Result.andThen]
  refine wpList_step fun K hK => ?_
  rw [if_pos hw]
  unfold Oper.wp
  rw [hrun, Oper.upon_enter]
  refine hc.mono fun e w' he => ?_
  obtain ⟨v, rfl, hp⟩ := h e w' he
  exact hK _ _ hp

/-- A new slice of structs, each with as many cells. -/
theorem step_buildSN {α : Type} (S : Has w0 w l) (t e s n : Nat) (ps : Array (Nat × Operand)) (xs : List Operand) (f : α → List Value) (us : List α) (z : Value) (ht : P.underlying t = some (.slice e)) (hi : (P.info? e).map (fun i => (i.zero, i.size)) = some (some z, s)) (hs : 0 < s)
    (hs2 : us.length * s ≤ 16777216) (hps : ((xs.zipIdx 0).map fun x => (x.2, x.1)).toArray = ps) (hx : xs.map a.eval = us.map fun u => Value.agg (f u).toArray) (hc : ∀ u, (f u).length = s) (hn : us.length = n) (h0 : us ≠ [])
    (hw : Region.wanted ⟨dst, .buildSlice t n ps, ty, pos, after, gd⟩ (yielded ops a.tmps) = true)
    (h : ∀ v w', Has w0 w' (row v e s n (us.flatMap f) :: l) → wpList P ops Q rest (a.put dst v) w') : wpList P ops Q (⟨dst, .buildSlice t n ps, ty, pos, after, gd⟩ :: rest) a w := by
  subst hn
  have hp : (ps.map fun (i, x) => (i, a.eval x)) = ((((us.map fun u => Value.agg (f u).toArray).zipIdx 0).map fun x => (x.2, x.1)).toArray) := by
    rw [← hps, ← hx, List.map_toArray, List.zipIdx_map, List.map_map, List.map_map]
    rfl
  have hr := run_buildSliceN (P := P) t e z s (us.map fun u => Value.agg (f u).toArray) ht hi hs (by intro v hv; obtain ⟨u, _, rfl⟩ := List.mem_map.1 hv; simpa [Value.cells] using hc u) (by simpa using hs2) (by simpa using h0) w
  have hfl : ((us.map fun u => Value.agg (f u).toArray).flatMap fun v => v.cells.toList) = us.flatMap f := by simp [List.flatMap_map, Value.cells]
  rw [hfl] at hr
  have hlen := flat_len f s hc us
  have ho := World.ownsRow_lit (base := w.heap.size) (e := e) (size := s) w (us.flatMap f).toArray us.length (Nat.le_refl _) (Nat.le_trans (Nat.le_trans (Nat.le_mul_of_pos_right _ hs) hs2) (by decide)) (by simp [hlen])
  refine step_val (v := .slice (some ⟨w.heap.size, 0, none⟩) us.length us.length) (w' := w.alloc (.cells (us.flatMap f).toArray e)) hw ?_ (h _ _ (S.call (Has.of_own (below1 w _) (by simpa using ho))))
  rw [List.length_map] at hr
  simp only [execOp, hp, Sem.run_bind, hr, Result.andThen_ok, Sem.run_pure]
end

end Go.Proofs.YtfhkmmagpnojmaaDoor
