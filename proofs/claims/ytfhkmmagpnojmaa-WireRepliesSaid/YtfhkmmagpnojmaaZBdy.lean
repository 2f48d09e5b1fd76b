/- Bodies of requests: values behind the interface, its methods. No condition but the reach. -/
import Derived.Test.YtfhkmmagpnojmaaZBd
import Derived.Test.YtfhkmmagpnojmaaZBh
set_option linter.unusedSimpArgs false
set_option linter.unusedVariables false
namespace Go.Proofs.Ytfhkmmagpnojmaa
open Go.RowKit

section
variable {P : Program} {ops : Array Oper} {rest : List Oper} {a : Act} {w0 w : World} {l F : List Res} {Q : Exit → Act → World → Prop} {dst : Option Tmp} {ty : TypeId} {pos : String} {after : Array Edge} {gd : Option (Nat × Bool)} {Post : Value → World → Prop} {Bad : List PanicEntry → World → Prop}

theorem run_inv (x : Operand) (name : String) (xs : List Operand) (ts : Array TypeId) (rv : Value) (vs : List Value) (f : FuncId) (args : Array Value) (hx : a.eval x = rv) (hxs : xs.map a.eval = vs) (hr : (callMethod rv name vs.toArray).run P w = .ok (.enter f args) w) :
    (execOp a.eval ⟨dst, .call { callee := .invoke x name, args := xs.toArray, argTypes := ts }, ty, pos, after, gd⟩).run P w = .ok (.enter f args) w := by
  subst hx
  subst hxs
  have e : (#[a.eval x] ++ (xs.toArray.map a.eval)).extract 1 (#[a.eval x] ++ (xs.toArray.map a.eval)).size = (xs.map a.eval).toArray := by
    apply Array.ext'
    simp [List.take_of_length_le]
  simp only [execOp, resolve, Sem.run_bind, Sem.run_pure, Result.andThen_ok, invoke]
  have e0 : (#[a.eval x] ++ (xs.toArray.map a.eval))[0]? = some (a.eval x) := by simp
  simp only [e0, e, hr]
/-- A method is called through an interface. -/
theorem step_inv {R : Ending → World → Prop} (x : Operand) (name : String) (xs : List Operand) (ts : Array TypeId) (rv : Value) (vs : List Value) (f : FuncId) (args : Array Value) (hx : a.eval x = rv) (hxs : xs.map a.eval = vs) (hr : (callMethod rv name vs.toArray).run P w = .ok (.enter f args) w) (hc : Calls P f args w R)
    (hw : Region.wanted ⟨dst, .call { callee := .invoke x name, args := xs.toArray, argTypes := ts }, ty, pos, after, gd⟩ (yielded ops a.tmps) = true)
    (h : ∀ e w', R e w' → (∃ v, e = .returned v ∧ wpList P ops Q rest (a.put dst v) w') ∨ (∃ c, e = .panicked c ∧ Q (.panic c) a w')) : wpList P ops Q (⟨dst, .call { callee := .invoke x name, args := xs.toArray, argTypes := ts }, ty, pos, after, gd⟩ :: rest) a w := by
  refine wpList_step fun K hK => ?_
  rw [if_pos hw]
  unfold Oper.wp
  rw [run_inv x name xs ts rv vs f args hx hxs hr, Oper.upon_enter]
  refine hc.mono fun e w' he => ?_
  rcases h e w' he with ⟨v, rfl, hp⟩ | ⟨c, rfl, hp⟩
  · exact hK _ _ hp
  · exact hp
theorem doesB_inv {R : Ending → World → Prop} (x : Operand) (name : String) (xs : List Operand) (ts : Array TypeId) (rv : Value) (vs : List Value) (f : FuncId) (args : Array Value) (hx : a.eval x = rv) (hxs : xs.map a.eval = vs) (hr : (callMethod rv name vs.toArray).run P w = .ok (.enter f args) w) (hc : Calls P f args w R)
    (h : ∀ e w', R e w' → (∃ v, e = .returned v ∧ Post v w') ∨ (∃ c, e = .panicked c ∧ Bad c w')) : doesB P Bad a.eval ⟨dst, .call { callee := .invoke x name, args := xs.toArray, argTypes := ts }, ty, pos, after, gd⟩ w Post :=
  doesB_call (run_inv x name xs ts rv vs f args hx hxs hr) hc h
theorem does_inv {R : Ending → World → Prop} (x : Operand) (name : String) (xs : List Operand) (ts : Array TypeId) (rv : Value) (vs : List Value) (f : FuncId) (args : Array Value) (hx : a.eval x = rv) (hxs : xs.map a.eval = vs) (hr : (callMethod rv name vs.toArray).run P w = .ok (.enter f args) w) (hc : Calls P f args w R)
    (h : ∀ e w', R e w' → ∃ v, e = .returned v ∧ Post v w') : does P a.eval ⟨dst, .call { callee := .invoke x name, args := xs.toArray, argTypes := ts }, ty, pos, after, gd⟩ w Post :=
  does_call (run_inv x name xs ts rv vs f args hx hxs hr) hc h
end

theorem Has.pick2 {w0 w : World} {l F G : List Res} {r s : Res} (S : Has w0 w l) (h : Pick l r F) (h2 : Pick F s G) : Has w0 w (r :: s :: G) := S.perm (h.perm.trans (List.Perm.cons _ h2.perm))
/-- A body of a request. -/
inductive Bdy where
  | none
  | pair (p d : UInt8)
  | short (n : UInt32)
  | long (n : UInt32)
def bdyV : Bdy → Value
  | .none => .iface 113 (.agg #[])
  | .pair p d => .iface 109 (.agg #[by8 p, by8 d])
  | .short n => .iface 110 (.int .u32 (n.toNat : Int))
  | .long n => .iface 111 (.int .u32 (n.toNat : Int))
theorem ruint_i (si : Int) (s : Nat) (hsi : si = (s : Int)) (g : Nat) (bv : Value) (b : List UInt8) (p : Nat) (w0 w1 : World) (F : List Res) (S : Has w0 w1 (rdr g bv p :: F)) (hb : Bs w0 bv b) (h1 : 1 ≤ s) (h8 : s ≤ 8) (hp : p ≤ b.length) (hl : b.length ≤ 140737488355328) :
    Calls Try.prog 35 #[.pointer (some ⟨g, 0, none⟩), .int .i64 si] w1 fun e w' =>
      (p + s ≤ b.length ∧ e = .returned (.int .u64 (atB b p s : Int)) ∧ Has w0 w' (rdr g bv (p + s) :: F)) ∨ (b.length < p + s ∧ e = .panicked [erl] ∧ Has w0 w' (rdr g bv p :: F)) := by
  subst hsi
  refine (ruint_s g bv b p s w0 w1 F S hb h1 h8 hp hl).mono fun e w' h => ?_
  rcases h with ⟨h1, h2, h3⟩ | h
  · exact .inl ⟨h1, by rw [atB_fit b p s h1]; exact h2, h3⟩
  · exact .inr h
theorem wuint_i (ni : Int) (n : Nat) (hni : ni = (n : Int)) (si : Int) (s : Nat) (hsi : si = (s : Int)) (g : Nat) (v : Value) (xs : List UInt8) (w0 w1 : World) (F : List Res) (S : Has w0 w1 (wrt g v :: row8 v xs :: F)) (hn : n < 18446744073709551616) (hs : s ≤ 8) (hl : xs.length + s ≤ 140737488355328) :
    Calls Try.prog 26 #[.pointer (some ⟨g, 0, none⟩), .int .u64 ni, .int .i64 si] w1 (Wrote w0 g (xs ++ numB n s) F) := by
  subst hni
  subst hsi
  exact wuint_s g v xs n s w0 w1 F S hn hs hl
theorem wrap8 (n : Nat) (h : n < 256) : IntKind.u8.wrap (n : Int) = ((UInt8.ofNat n).toNat : Int) := by rw [IntKind.wrap_u8, UInt8.toNat_ofNat']; omega
set_option maxRecDepth 100000 in
set_option maxHeartbeats 1000000 in
theorem nothingRead_s (v : Value) (cs : Array Value) (hv : v = .agg cs) (u : Value) (w0 w1 : World) (F : List Res) (S : Has w0 w1 F) :
    Calls Try.prog 95 #[v, u] w1 fun e w' => e = .returned (bdyV .none) ∧ Has w0 w' F := by
  subst hv
  have eb : ∀ w, (Instr.build 113 #[]).run Try.prog w = .ok (.agg #[]) w := fun w => by kernel_rfl
  go_enter Try.func95, Try.ntmps95
  go_wp2_with (first | ((with_reducible refine iD 2 (.box 113 (.tmp 0)) ?_); refine step_boxA (dst := some 2) S 113 (.tmp 0) _ rfl rfl ?_; clear S; intro g2 w S) | fail)
  go_ret
  exact ⟨rfl, S.tail⟩
end Go.Proofs.Ytfhkmmagpnojmaa
