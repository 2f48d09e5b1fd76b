/- whole: what it reads by a function that may panic, and its deferred closure. No condition but the reach. -/
import Derived.Test.YtfhkmmagpnojmaaDoorZBd
import Derived.Test.YtfhkmmagpnojmaaDoorZDecR
import Derived.Defers
import Derived.Recover
set_option linter.unusedSimpArgs false
set_option linter.unusedVariables false
namespace Go.Proofs.YtfhkmmagpnojmaaDoor
open Go.RowKit

abbrev bblk (g : Nat) (x : Bool) : Res := blk g (.cells #[.bool x] 4 (0, 0))
set_option maxRecDepth 100000 in
theorem catch_p (g : Nat) (x : Bool) (w0 w : World) (F : List Res) (S : Has w0 w (bblk g x :: F)) :
    CallsD Tryd.prog 83 #[.pointer (some ⟨g, 0, none⟩)] (.panicking [erl]) w fun e u' w' =>
      e = .returned (.tuple #[]) ∧ u' = .panicking [{ erl with recovered := true }] ∧ Has w0 w' (bblk g false :: F) := by
  have hg : w.heap[g]? = some (.cells #[.bool x] 4 (0, 0)) := S.holds (bblk g x) (by simp)
  have hc : w.cell? ⟨g, 0, none⟩ = some (.bool x) := by rw [cell_of_row w g 0 _ _ _ hg]; rfl
  have S2 := S.setCell (i := 0) (.bool false)
  have hz : w.frozen? ⟨g, 0, none⟩ = false := by
    simp [World.frozen?, hg]
  refine callsD_of_wpS Tryd.func83 rfl fun c₀ cs hu => ?_
  apply wpS_seq
  apply wpS_region
  simp [wpOpsS, go_sem, recoverD, hu, Tryd.ntmps83, Exit.thenS, erl]
  refine wpS_cond (t := true) (by simp [Act.eval, Array.replicate]) ?_
  simp only [if_true]
  apply wpS_region
  simp [wpOpsS, go_sem, hc, hz, bodyPostS, results, Tryd.results83]
  exact S2
set_option maxRecDepth 100000 in
theorem catch_i (g : Nat) (x : Bool) (w0 w : World) (F : List Res) (S : Has w0 w (bblk g x :: F)) :
    CallsD Tryd.prog 83 #[.pointer (some ⟨g, 0, none⟩)] .returning w fun e u' w' =>
      e = .returned (.tuple #[]) ∧ u' = .returning ∧ Has w0 w' (bblk g x :: F) := by
  refine callsD_of_wpS Tryd.func83 rfl fun c₀ cs hu => ?_
  apply wpS_seq
  apply wpS_region
  simp [wpOpsS, go_sem, recoverD, hu, Tryd.ntmps83, Exit.thenS]
  refine wpS_cond (t := false) (by simp [Act.eval, Array.replicate]) ?_
  simp only [Bool.false_eq_true, if_false]
  refine wpS_of_wp (wp_skip ?_)
  cases c₀
  simp_all [bodyPostS, results, Tryd.results83]
section
variable {P : Program} {ops : Array Oper} {rest : List Oper} {a : Act} {w : World} {Q : Exit → Act → World → Prop} {dst : Option Tmp} {ty : TypeId} {pos : String} {after : Array Edge} {gd : Option (Nat × Bool)}

/-- A function value is called, which may panic. -/
theorem step_callVP {R : Ending → World → Prop} (x : Operand) (xs : List Operand) (ts : Array TypeId) (f : FuncId) (fn : Func) (caps vs : List Value) (hx : a.eval x = .func (.func f) #[] caps.toArray) (hxs : xs.map a.eval = vs)
    (hf : P.funcs[f]? = some fn) (hn : (fn.name == "runtime.NumGoroutine") = false) (hb : fn.body.isNone = false) (hc : Calls P f (vs ++ caps).toArray w R)
    (hw : Region.wanted ⟨dst, .call { callee := .value x, args := xs.toArray, argTypes := ts }, ty, pos, after, gd⟩ (yielded ops a.tmps) = true)
    (h : ∀ e w', R e w' → (∃ v, e = .returned v ∧ wpList P ops Q rest (a.put dst v) w') ∨ (∃ c, e = .panicked c ∧ Q (.panic c) a w')) : wpList P ops Q (⟨dst, .call { callee := .value x, args := xs.toArray, argTypes := ts }, ty, pos, after, gd⟩ :: rest) a w := by
  subst hxs
  have hrun : (execOp a.eval ⟨dst, .call { callee := .value x, args := xs.toArray, argTypes := ts }, ty, pos, after, gd⟩).run P w = .ok (.enter f (xs.map a.eval ++ caps).toArray) w := by
    obtain ⟨b, hb'⟩ : ∃ b, fn.body = some b := by
      cases h : fn.body with
      | none => rw [h] at hb; cases hb
      | some b => exact ⟨b, rfl⟩
    have hn' : ¬ fn.name = "runtime.NumGoroutine" := by simpa using hn
    simp [execOp, resolve, hx, Deferred.ofValue, invoke, callFunc, hf, hn', hb', Result.andThen]
  refine wpList_step fun K hK => ?_
  rw [if_pos hw]
  unfold Oper.wp
  rw [hrun, Oper.upon_enter]
  refine hc.mono fun e w' he => ?_
  rcases h e w' he with ⟨v, rfl, hp⟩ | ⟨c, rfl, hp⟩
  · exact hK _ _ hp
  · exact hp
end

/-- What a function that reads leaves. -/
def ReadF (w0 : World) (g : Nat) (bv : Value) (fit : Prop) (N : Nat) (F1 : List Res) (FB : Array Value → List Res) (G : List Res) (e : Ending) (w' : World) : Prop :=
  (fit ∧ e = .returned (.tuple #[]) ∧ Has w0 w' (rdr g bv N :: (F1 ++ G))) ∨ (¬ fit ∧ e = .panicked [erl] ∧ ∃ q cs, Has w0 w' (rdr g bv q :: (FB cs ++ G)))
set_option maxRecDepth 100000 in
set_option maxHeartbeats 8000000 in
theorem whole_s (bv : Value) (b : List UInt8) (f : FuncId) (fn : Func) (caps : List Value) (w0 w1 : World) (r : Res) (G0 : List Res) (S : Has w0 w1 (r :: G0)) (hb : Bs w0 bv b) (h2 : 2 ≤ b.length) (hl : b.length ≤ 140737488355328)
    (hf : Tryd.prog.funcs[f]? = some fn) (hn : (fn.name == "runtime.NumGoroutine") = false) (hbd : fn.body.isNone = false) (fit : Prop) [Decidable fit] (N : Nat) (F1 : List Res) (FB : Array Value → List Res)
    (hr : ∀ g w G, Has w0 w (rdr g bv 2 :: r :: G) → Calls Tryd.prog f ([Value.pointer (some ⟨g, 0, none⟩)] ++ caps).toArray w (ReadF w0 g bv fit N F1 FB G)) :
    Calls Tryd.prog 59 #[bv, .func (.func f) #[] caps.toArray] w1 fun e w' =>
      (fit ∧ e = .returned (.bool (decide (val (b.take 2) = b.length ∧ N = b.length))) ∧ Has w0 w' (F1 ++ G0)) ∨ (¬ fit ∧ e = .returned (.bool false) ∧ ∃ cs, Has w0 w' (FB cs ++ G0)) := by
  obtain ⟨a0, c0, rfl, k1, k2⟩ := Sl.shape hb
  unfold maxLen at k2
  have p1 := fun g w F S => ruint_i 2 2 rfl g (.slice a0 b.length c0) b 0 w0 w F S hb (by decide) (by decide) (by omega) hl
  have e1 : atB b 0 2 = val (b.take 2) := by rw [atB_fit b 0 2 (by omega), List.drop_zero]
  rw [e1] at p1
  have hv := val_lt (b.take 2)
  rw [List.length_take, Nat.min_eq_left h2] at hv
  obtain ⟨n, hn2⟩ : ∃ n, n = val (b.take 2) := ⟨_, rfl⟩
  rw [← hn2] at p1 hv ⊢
  have P1 := Lib.hid p1; have HR := Lib.hid hr; have HF := Lib.hid hf; have HN := Lib.hid hn; have HBD := Lib.hid hbd; have HB := Lib.hid hb; clear p1 hr hf hn hbd hb
  clear e1 hn2
  by_cases hnb : n = b.length
  · have i1 : ((n : Int) == (b.length : Int)) = true := by rw [beq_iff_eq]; omega
    have i2 : ((N : Int) == (b.length : Int)) = decide (n = b.length ∧ N = b.length) := by rw [Bool.eq_iff_iff, beq_iff_eq, decide_eq_true_eq]; omega
    have I2 := Lib.hid i2; clear i2
    clear hnb
    go_enter_defers Tryd.func59, Tryd.ntmps59
    go_wp2_with (first | (go_at_call 61; have S0 : Has w0 _ (rdr g10 (.slice a0 b.length c0) 0 :: bblk g4 false :: r :: G0) := S; (with_reducible refine (P1.out g10 _ _ S0).mono ?_); rintro e w1 (⟨hf1, rfl, S1⟩ | ⟨hf1, rfl, S1⟩); rotate_left; exact (by omega : False).elim; clear S S0; have S : Has w0 w1 (rdr g10 (.slice a0 b.length c0) 2 :: r :: bblk g4 false :: G0) := S1.perm (List.Perm.cons _ (List.Perm.swap _ _ _)); clear S1) | ((with_reducible refine iD 15 (.call _) ?_); refine step_callVP (.tmp 13) [.tmp 14] _ f fn caps [.pointer (some ⟨g10, 0, none⟩)] rfl rfl HF.out HN.out HBD.out (HR.out g10 _ _ S) gw ?_; rintro e w1 (⟨hft, rfl, S1⟩ | ⟨hft, rfl, q, cs, S1⟩); (refine .inl ⟨_, rfl, ?_⟩; clear S; have S : Has w0 w1 (rdr g10 (.slice a0 b.length c0) N :: bblk g4 false :: (F1 ++ G0)) := S1.perm (List.Perm.cons _ List.perm_middle); clear S1); rotate_left; (refine .inr ⟨_, rfl, ?_⟩; clear S; have S : Has w0 w1 (bblk g4 false :: (FB cs ++ G0)) := S1.tail.perm List.perm_middle; clear S1); rotate_left) | ((with_reducible refine iD 4 (.alloc 4) ?_); refine step_alloc (dst := some 4) S 4 (.bool false) (#[.bool false]) kR rfl gw ?_; clear S; intro g4 w S) | ((with_reducible refine iD 7 (.makeFunc _ _ _) ?_); refine step_makeF _ [.tmp 4] [.pointer (some ⟨g4, 0, none⟩)] rfl gw ?_) | ((with_reducible refine iD 10 (.box 154 (.tmp 9)) ?_); refine step_boxA (dst := some 10) S 154 (.tmp 9) _ rfl gw ?_; clear S; intro g10 w S) | ((with_reducible refine iO _ (.load 3 _) ?_); refine step_load1 3 _ _ _ rfl (cL) _ Tryd.underlying3 rfl gw ?_) | ((with_reducible refine iO none (.store 4 (.tmp 4) (.tmp 29)) ?_); refine step_store1 S 4 (.tmp 4) (.tmp 29) _ _ (.bool _) rfl rfl _ _ pk kR kR rfl lN gw ?_; clear S; intro w S; try simp only [List.setIfInBounds_toArray, List.set_cons_zero, List.set_cons_succ] at S) | fail)
    · refine leaves_cons (f := 83) (args := #[.pointer (some ⟨g4, 0, none⟩)]) (by simp) (by simp [go_sem]) ?_
      refine (catch_i g4 _ w0 _ _ (S.pick (r := bblk g4 ((N : Int) == (b.length : Int))) pk)).mono ?_
      rintro e u1 w2 ⟨rfl, rfl, S1⟩
      have hc : w2.cell? ⟨g4, 0, none⟩ = some (.bool ((N : Int) == (b.length : Int))) := S1.cell (g := g4) (Pick.head _ _) rfl
      refine ⟨.bool ((N : Int) == (b.length : Int)), by simp [results, Tryd.results59, go_sem, hc], .inl ⟨hft, ?_, S1.tail.tail⟩⟩
      rw [I2.out]
    · refine leaves_cons (f := 83) (args := #[.pointer (some ⟨g4, 0, none⟩)]) (by simp) (by simp [go_sem]) ?_
      refine (catch_p g4 _ w0 _ _ S).mono ?_
      rintro e u1 w2 ⟨rfl, rfl, S1⟩
      have hc : w2.cell? ⟨g4, 0, none⟩ = some (.bool false) := S1.cell (g := g4) (Pick.head _ _) rfl
      refine ⟨.bool false, by simp [results, Tryd.results59, go_sem, hc], .inr ⟨hft, rfl, cs, S1.tail⟩⟩
  · have i1 : ((n : Int) == (b.length : Int)) = false := by rw [beq_eq_false_iff_ne]; omega
    have i2 : false = decide (n = b.length ∧ N = b.length) := (decide_eq_false (fun h => hnb h.1)).symm
    have I2 := Lib.hid i2; clear i2
    clear hnb
    go_enter_defers Tryd.func59, Tryd.ntmps59
    go_wp2_with (first | (go_at_call 61; have S0 : Has w0 _ (rdr g10 (.slice a0 b.length c0) 0 :: bblk g4 false :: r :: G0) := S; (with_reducible refine (P1.out g10 _ _ S0).mono ?_); rintro e w1 (⟨hf1, rfl, S1⟩ | ⟨hf1, rfl, S1⟩); rotate_left; exact (by omega : False).elim; clear S S0; have S : Has w0 w1 (rdr g10 (.slice a0 b.length c0) 2 :: r :: bblk g4 false :: G0) := S1.perm (List.Perm.cons _ (List.Perm.swap _ _ _)); clear S1) | ((with_reducible refine iD 15 (.call _) ?_); refine step_callVP (.tmp 13) [.tmp 14] _ f fn caps [.pointer (some ⟨g10, 0, none⟩)] rfl rfl HF.out HN.out HBD.out (HR.out g10 _ _ S) gw ?_; rintro e w1 (⟨hft, rfl, S1⟩ | ⟨hft, rfl, q, cs, S1⟩); (refine .inl ⟨_, rfl, ?_⟩; clear S; have S : Has w0 w1 (rdr g10 (.slice a0 b.length c0) N :: bblk g4 false :: (F1 ++ G0)) := S1.perm (List.Perm.cons _ List.perm_middle); clear S1); rotate_left; (refine .inr ⟨_, rfl, ?_⟩; clear S; have S : Has w0 w1 (bblk g4 false :: (FB cs ++ G0)) := S1.tail.perm List.perm_middle; clear S1); rotate_left) | ((with_reducible refine iD 4 (.alloc 4) ?_); refine step_alloc (dst := some 4) S 4 (.bool false) (#[.bool false]) kR rfl gw ?_; clear S; intro g4 w S) | ((with_reducible refine iD 7 (.makeFunc _ _ _) ?_); refine step_makeF _ [.tmp 4] [.pointer (some ⟨g4, 0, none⟩)] rfl gw ?_) | ((with_reducible refine iD 10 (.box 154 (.tmp 9)) ?_); refine step_boxA (dst := some 10) S 154 (.tmp 9) _ rfl gw ?_; clear S; intro g10 w S) | ((with_reducible refine iO _ (.load 3 _) ?_); refine step_load1 3 _ _ _ rfl (cL) _ Tryd.underlying3 rfl gw ?_) | ((with_reducible refine iO none (.store 4 (.tmp 4) (.tmp 29)) ?_); refine step_store1 S 4 (.tmp 4) (.tmp 29) _ _ (.bool _) rfl rfl _ _ pk kR kR rfl lN gw ?_; clear S; intro w S; try simp only [List.setIfInBounds_toArray, List.set_cons_zero, List.set_cons_succ] at S) | fail)
    · refine leaves_cons (f := 83) (args := #[.pointer (some ⟨g4, 0, none⟩)]) (by simp) (by simp [go_sem]) ?_
      refine (catch_i g4 _ w0 _ _ (S.pick (r := bblk g4 false) pk)).mono ?_
      rintro e u1 w2 ⟨rfl, rfl, S1⟩
      have hc : w2.cell? ⟨g4, 0, none⟩ = some (.bool false) := S1.cell (g := g4) (Pick.head _ _) rfl
      refine ⟨.bool false, by simp [results, Tryd.results59, go_sem, hc], .inl ⟨hft, ?_, S1.tail.tail⟩⟩
      rw [I2.out]
    · refine leaves_cons (f := 83) (args := #[.pointer (some ⟨g4, 0, none⟩)]) (by simp) (by simp [go_sem]) ?_
      refine (catch_p g4 _ w0 _ _ S).mono ?_
      rintro e u1 w2 ⟨rfl, rfl, S1⟩
      have hc : w2.cell? ⟨g4, 0, none⟩ = some (.bool false) := S1.cell (g := g4) (Pick.head _ _) rfl
      refine ⟨.bool false, by simp [results, Tryd.results59, go_sem, hc], .inr ⟨hft, rfl, cs, S1.tail⟩⟩
end Go.Proofs.YtfhkmmagpnojmaaDoor
