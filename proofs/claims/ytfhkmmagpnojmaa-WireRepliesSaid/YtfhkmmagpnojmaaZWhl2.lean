/- whole, with things that are not known beforehand. No condition but the reach. -/
import Derived.Test.YtfhkmmagpnojmaaZBd
import Derived.Test.YtfhkmmagpnojmaaZWhl
set_option linter.unusedSimpArgs false
set_option linter.unusedVariables false
namespace Go.Proofs.Ytfhkmmagpnojmaa
open Go.RowKit

/-- What a function that reads leaves. -/
def ReadF2 {α : Type} (w0 : World) (g : Nat) (bv : Value) (fit : Prop) (N : Nat) (F1 : α → List Res) (FB : Array Value → List Res) (G : List Res) (e : Ending) (w' : World) : Prop :=
  (fit ∧ e = .returned (.tuple #[]) ∧ ∃ z, Has w0 w' (rdr g bv N :: (F1 z ++ G))) ∨ (¬ fit ∧ e = .panicked [erl] ∧ ∃ q cs, Has w0 w' (rdr g bv q :: (FB cs ++ G)))
set_option maxRecDepth 100000 in
set_option maxHeartbeats 8000000 in
theorem whole2_s {α : Type} (bv : Value) (b : List UInt8) (f : FuncId) (fn : Func) (caps : List Value) (w0 w1 : World) (r : Res) (G0 : List Res) (S : Has w0 w1 (r :: G0)) (hb : Bs w0 bv b) (h2 : 2 ≤ b.length) (hl : b.length ≤ 140737488355328)
    (hf : Try.prog.funcs[f]? = some fn) (hn : (fn.name == "runtime.NumGoroutine") = false) (hbd : fn.body.isNone = false) (fit : Prop) [Decidable fit] (N : Nat) (F1 : α → List Res) (FB : Array Value → List Res)
    (hr : ∀ g w G, Has w0 w (rdr g bv 2 :: r :: G) → Calls Try.prog f ([Value.pointer (some ⟨g, 0, none⟩)] ++ caps).toArray w (ReadF2 w0 g bv fit N F1 FB G)) :
    Calls Try.prog 33 #[bv, .func (.func f) #[] caps.toArray] w1 fun e w' =>
      (fit ∧ e = .returned (.bool (decide (val (b.take 2) = b.length ∧ N = b.length))) ∧ ∃ z, Has w0 w' (F1 z ++ G0)) ∨ (¬ fit ∧ e = .returned (.bool false) ∧ ∃ cs, Has w0 w' (FB cs ++ G0)) := by
  obtain ⟨a0, c0, rfl, k1, k2⟩ := Sl.shape hb
  unfold maxLen at k2
  have p1 := fun g w F S => ruint_i 2 2 rfl g (.slice a0 b.length c0) b 0 w0 w F S hb (by decide) (by decide) (by omega) hl
  have e1 : atB b 0 2 = val (b.take 2) := by rw [atB_fit b 0 2 (by omega), List.drop_zero]
  rw [e1] at p1
  have hv := val_lt (b.take 2)
  rw [List.length_take, Nat.min_eq_left h2] at hv
  obtain ⟨n, hn2⟩ : ∃ n, n = val (b.take 2) := ⟨_, rfl⟩
  rw [← hn2] at p1 hv ⊢
  have P1 := Lib.hid p1; have HR := Lib.hid hr; have HF := Lib.hid hf; have HN := Lib.hid hn; have HBD := Lib.hid hbd; have HB := Lib.hid hb; clear p1 hr hf hn hbd hb
  clear e1 hn2
  by_cases hnb : n = b.length
  · have i1 : ((n : Int) == (b.length : Int)) = true := by rw [beq_iff_eq]; omega
    have i2 : ((N : Int) == (b.length : Int)) = decide (n = b.length ∧ N = b.length) := by rw [Bool.eq_iff_iff, beq_iff_eq, decide_eq_true_eq]; omega
    have I2 := Lib.hid i2; clear i2
    clear hnb
    go_enter_defers Try.func33, Try.ntmps33
    go_wp2_with (first | (go_at_call 35; have S0 : Has w0 _ (rdr g10 (.slice a0 b.length c0) 0 :: bblk g4 false :: r :: G0) := S; (with_reducible refine (P1.out g10 _ _ S0).mono ?_); rintro e w1 (⟨hf1, rfl, S1⟩ | ⟨hf1, rfl, S1⟩); rotate_left; exact (by omega : False).elim; clear S S0; have S : Has w0 w1 (rdr g10 (.slice a0 b.length c0) 2 :: r :: bblk g4 false :: G0) := S1.perm (List.Perm.cons _ (List.Perm.swap _ _ _)); clear S1) | ((with_reducible refine iD 15 (.call _) ?_); refine step_callVP (.tmp 13) [.tmp 14] _ f fn caps [.pointer (some ⟨g10, 0, none⟩)] rfl rfl HF.out HN.out HBD.out (HR.out g10 _ _ S) gw ?_; rintro e w1 (⟨hft, rfl, z, S1⟩ | ⟨hft, rfl, q, cs, S1⟩); (refine .inl ⟨_, rfl, ?_⟩; clear S; have S : Has w0 w1 (rdr g10 (.slice a0 b.length c0) N :: bblk g4 false :: (F1 z ++ G0)) := S1.perm (List.Perm.cons _ List.perm_middle); clear S1); rotate_left; (refine .inr ⟨_, rfl, ?_⟩; clear S; have S : Has w0 w1 (bblk g4 false :: (FB cs ++ G0)) := S1.tail.perm List.perm_middle; clear S1); rotate_left) | ((with_reducible refine iD 4 (.alloc 4) ?_); refine step_alloc (dst := some 4) S 4 (.bool false) (#[.bool false]) kR rfl gw ?_; clear S; intro g4 w S) | ((with_reducible refine iD 7 (.makeFunc _ _ _) ?_); refine step_makeF _ [.tmp 4] [.pointer (some ⟨g4, 0, none⟩)] rfl gw ?_) | ((with_reducible refine iD 10 (.box 116 (.tmp 9)) ?_); refine step_boxA (dst := some 10) S 116 (.tmp 9) _ rfl gw ?_; clear S; intro g10 w S) | ((with_reducible refine iO _ (.load 3 _) ?_); refine step_load1 3 _ _ _ rfl (cL) _ Try.underlying3 rfl gw ?_) | ((with_reducible refine iO none (.store 4 (.tmp 4) (.tmp 29)) ?_); refine step_store1 S 4 (.tmp 4) (.tmp 29) _ _ (.bool _) rfl rfl _ _ pk kR kR rfl lN gw ?_; clear S; intro w S; try simp only [List.setIfInBounds_toArray, List.set_cons_zero, List.set_cons_succ] at S) | fail)
    · refine leaves_cons (f := 55) (args := #[.pointer (some ⟨g4, 0, none⟩)]) (by simp) (by simp [go_sem]) ?_
      refine (catch_i g4 _ w0 _ _ (S.pick (r := bblk g4 ((N : Int) == (b.length : Int))) pk)).mono ?_
      rintro e u1 w2 ⟨rfl, rfl, S1⟩
      have hc : w2.cell? ⟨g4, 0, none⟩ = some (.bool ((N : Int) == (b.length : Int))) := S1.cell (g := g4) (Pick.head _ _) rfl
      refine ⟨.bool ((N : Int) == (b.length : Int)), by simp [results, Try.results33, go_sem, hc], .inl ⟨hft, ?_, z, S1.tail.tail⟩⟩
      rw [I2.out]
    · refine leaves_cons (f := 55) (args := #[.pointer (some ⟨g4, 0, none⟩)]) (by simp) (by simp [go_sem]) ?_
      refine (catch_p g4 _ w0 _ _ S).mono ?_
      rintro e u1 w2 ⟨rfl, rfl, S1⟩
      have hc : w2.cell? ⟨g4, 0, none⟩ = some (.bool false) := S1.cell (g := g4) (Pick.head _ _) rfl
      refine ⟨.bool false, by simp [results, Try.results33, go_sem, hc], .inr ⟨hft, rfl, cs, S1.tail⟩⟩
  · have i1 : ((n : Int) == (b.length : Int)) = false := by rw [beq_eq_false_iff_ne]; omega
    have i2 : false = decide (n = b.length ∧ N = b.length) := (decide_eq_false (fun h => hnb h.1)).symm
    have I2 := Lib.hid i2; clear i2
    clear hnb
    go_enter_defers Try.func33, Try.ntmps33
    go_wp2_with (first | (go_at_call 35; have S0 : Has w0 _ (rdr g10 (.slice a0 b.length c0) 0 :: bblk g4 false :: r :: G0) := S; (with_reducible refine (P1.out g10 _ _ S0).mono ?_); rintro e w1 (⟨hf1, rfl, S1⟩ | ⟨hf1, rfl, S1⟩); rotate_left; exact (by omega : False).elim; clear S S0; have S : Has w0 w1 (rdr g10 (.slice a0 b.length c0) 2 :: r :: bblk g4 false :: G0) := S1.perm (List.Perm.cons _ (List.Perm.swap _ _ _)); clear S1) | ((with_reducible refine iD 15 (.call _) ?_); refine step_callVP (.tmp 13) [.tmp 14] _ f fn caps [.pointer (some ⟨g10, 0, none⟩)] rfl rfl HF.out HN.out HBD.out (HR.out g10 _ _ S) gw ?_; rintro e w1 (⟨hft, rfl, z, S1⟩ | ⟨hft, rfl, q, cs, S1⟩); (refine .inl ⟨_, rfl, ?_⟩; clear S; have S : Has w0 w1 (rdr g10 (.slice a0 b.length c0) N :: bblk g4 false :: (F1 z ++ G0)) := S1.perm (List.Perm.cons _ List.perm_middle); clear S1); rotate_left; (refine .inr ⟨_, rfl, ?_⟩; clear S; have S : Has w0 w1 (bblk g4 false :: (FB cs ++ G0)) := S1.tail.perm List.perm_middle; clear S1); rotate_left) | ((with_reducible refine iD 4 (.alloc 4) ?_); refine step_alloc (dst := some 4) S 4 (.bool false) (#[.bool false]) kR rfl gw ?_; clear S; intro g4 w S) | ((with_reducible refine iD 7 (.makeFunc _ _ _) ?_); refine step_makeF _ [.tmp 4] [.pointer (some ⟨g4, 0, none⟩)] rfl gw ?_) | ((with_reducible refine iD 10 (.box 116 (.tmp 9)) ?_); refine step_boxA (dst := some 10) S 116 (.tmp 9) _ rfl gw ?_; clear S; intro g10 w S) | ((with_reducible refine iO _ (.load 3 _) ?_); refine step_load1 3 _ _ _ rfl (cL) _ Try.underlying3 rfl gw ?_) | ((with_reducible refine iO none (.store 4 (.tmp 4) (.tmp 29)) ?_); refine step_store1 S 4 (.tmp 4) (.tmp 29) _ _ (.bool _) rfl rfl _ _ pk kR kR rfl lN gw ?_; clear S; intro w S; try simp only [List.setIfInBounds_toArray, List.set_cons_zero, List.set_cons_succ] at S) | fail)
    · refine leaves_cons (f := 55) (args := #[.pointer (some ⟨g4, 0, none⟩)]) (by simp) (by simp [go_sem]) ?_
      refine (catch_i g4 _ w0 _ _ (S.pick (r := bblk g4 false) pk)).mono ?_
      rintro e u1 w2 ⟨rfl, rfl, S1⟩
      have hc : w2.cell? ⟨g4, 0, none⟩ = some (.bool false) := S1.cell (g := g4) (Pick.head _ _) rfl
      refine ⟨.bool false, by simp [results, Try.results33, go_sem, hc], .inl ⟨hft, ?_, z, S1.tail.tail⟩⟩
      rw [I2.out]
    · refine leaves_cons (f := 55) (args := #[.pointer (some ⟨g4, 0, none⟩)]) (by simp) (by simp [go_sem]) ?_
      refine (catch_p g4 _ w0 _ _ S).mono ?_
      rintro e u1 w2 ⟨rfl, rfl, S1⟩
      have hc : w2.cell? ⟨g4, 0, none⟩ = some (.bool false) := S1.cell (g := g4) (Pick.head _ _) rfl
      refine ⟨.bool false, by simp [results, Try.results33, go_sem, hc], .inr ⟨hft, rfl, cs, S1.tail⟩⟩
end Go.Proofs.Ytfhkmmagpnojmaa
