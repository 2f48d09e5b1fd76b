/- whole: what it reads by a function that may panic, and its deferred closure. No condition but the reach. -/
import Derived.Test.YtfhkmmagpnojmaaZBd
import Derived.Test.YtfhkmmagpnojmaaZDecR
import Derived.Defers
import Derived.Recover
set_option linter.unusedSimpArgs false
set_option linter.unusedVariables false
namespace Go.Proofs.Ytfhkmmagpnojmaa
open Go.RowKit

abbrev bblk (g : Nat) (x : Bool) : Res := blk g (.cells #[.bool x] 4 (0, 0))
set_option maxRecDepth 100000 in
theorem catch_p (g : Nat) (x : Bool) (w0 w : World) (F : List Res) (S : Has w0 w (bblk g x :: F)) :
    CallsD Try.prog 55 #[.pointer (some ⟨g, 0, none⟩)] (.panicking [erl]) w fun e u' w' =>
      e = .returned (.tuple #[]) ∧ u' = .panicking [{ erl with recovered := true }] ∧ Has w0 w' (bblk g false :: F) := by
  have hg : w.heap[g]? = some (.cells #[.bool x] 4 (0, 0)) := S.holds (bblk g x) (by simp)
  have hc : w.cell? ⟨g, 0, none⟩ = some (.bool x) := by rw [cell_of_row w g 0 _ _ _ hg]; rfl
  have S2 := S.setCell (i := 0) (.bool false)
  have hz : w.frozen? ⟨g, 0, none⟩ = false := by
    simp [World.frozen?, hg]
  refine callsD_of_wpS Try.func55 rfl fun c₀ cs hu => ?_
  apply wpS_seq
  apply wpS_region
  simp [wpOpsS, go_sem, recoverD, hu, Try.ntmps55, Exit.thenS, erl]
  refine wpS_cond (t := true) (by simp [Act.eval, Array.replicate]) ?_
  simp only [if_true]
  apply wpS_region
  simp [wpOpsS, go_sem, hc, hz, bodyPostS, results, Try.results55]
  exact S2
set_option maxRecDepth 100000 in
theorem catch_i (g : Nat) (x : Bool) (w0 w : World) (F : List Res) (S : Has w0 w (bblk g x :: F)) :
    CallsD Try.prog 55 #[.pointer (some ⟨g, 0, none⟩)] .returning w fun e u' w' =>
      e = .returned (.tuple #[]) ∧ u' = .returning ∧ Has w0 w' (bblk g x :: F) := by
  refine callsD_of_wpS Try.func55 rfl fun c₀ cs hu => ?_
  apply wpS_seq
  apply wpS_region
  simp [wpOpsS, go_sem, recoverD, hu, Try.ntmps55, Exit.thenS]
  refine wpS_cond (t := false) (by simp [Act.eval, Array.replicate]) ?_
  simp only [Bool.false_eq_true, if_false]
  refine wpS_of_wp (wp_skip ?_)
  cases c₀
  simp_all [bodyPostS, results, Try.results55]
section
variable {P : Program} {ops : Array Oper} {rest : List Oper} {a : Act} {w : World} {Q : Exit → Act → World → Prop} {dst : Option Tmp} {ty : TypeId} {pos : String} {after : Array Edge} {gd : Option (Nat × Bool)}

/-- A function value is called, which may panic. -/
theorem step_callVP {R : Ending → World → Prop} (x : Operand) (xs : List Operand) (ts : Array TypeId) (f : FuncId) (fn : Func) (caps vs : List Value) (hx : a.eval x = .func (.func f) #[] caps.toArray) (hxs : xs.map a.eval = vs)
    (hf : P.funcs[f]? = some fn) (hn : (fn.name == "runtime.NumGoroutine") = false) (hb : fn.body.isNone = false) (hc : Calls P f (vs ++ caps).toArray w R)
    (hw : Region.wanted ⟨dst, .call { callee := .value x, args := xs.toArray, argTypes := ts }, ty, pos, after, gd⟩ (yielded ops a.tmps) = true)
    (h : ∀ e w', R e w' → (∃ v, e = .returned v ∧ wpList P ops Q rest (a.put dst v) w') ∨ (∃ c, e = .panicked c ∧ Q (.panic c) a w')) : wpList P ops Q (⟨dst, .call { callee := .value x, args := xs.toArray, argTypes := ts }, ty, pos, after, gd⟩ :: rest) a w := by
  subst hxs
  have hrun : (execOp a.eval ⟨dst, .call { callee := .value x, args := xs.toArray, argTypes := ts }, ty, pos, after, gd⟩).run P w = .ok (.enter f (xs.map a.eval ++ caps).toArray) w := by
    obtain ⟨b, hb'⟩ : ∃ b, fn.body = some b := by
      cases h : fn.body with
      | none => rw [h] at hb; cases hb
      | some b => exact ⟨b, rfl⟩
    have hn' : ¬ fn.name = "runtime.NumGoroutine" := by simpa using hn
    simp [execOp, resolve, hx, Deferred.ofValue, invoke, callFunc, hf, hn', hb', Result.andThen]
  refine wpList_step fun K hK => ?_
  rw [if_pos hw]
  unfold Oper.wp
  rw [hrun, Oper.upon_enter]
  refine hc.mono fun e w' he => ?_
  rcases h e w' he with ⟨v, rfl, hp⟩ | ⟨c, rfl, hp⟩
  · exact hK _ _ hp
  · exact hp
end

end Go.Proofs.Ytfhkmmagpnojmaa
