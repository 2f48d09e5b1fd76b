/- Several texts under one header: what the claim needs of Bdy, BdyW. No condition but those that each names. -/
import Derived.Test.YtfhkmmagpnojmaaDoorYE1
import Derived.Test.YtfhkmmagpnojmaaDoorYE7
set_option linter.unusedSimpArgs false
set_option linter.unusedVariables false

/- Bodies of requests: values behind the interface, its methods. No condition but the reach. -/
namespace Go.Proofs.YtfhkmmagpnojmaaDoor
open Go.RowKit

section
variable {P : Program} {ops : Array Oper} {rest : List Oper} {a : Act} {w0 w : World} {l F : List Res} {Q : Exit → Act → World → Prop} {dst : Option Tmp} {ty : TypeId} {pos : String} {after : Array Edge} {gd : Option (Nat × Bool)} {Post : Value → World → Prop} {Bad : List PanicEntry → World → Prop}

theorem run_inv (x : Operand) (name : String) (xs : List Operand) (ts : Array TypeId) (rv : Value) (vs : List Value) (f : FuncId) (args : Array Value) (hx : a.eval x = rv) (hxs : xs.map a.eval = vs) (hr : (callMethod rv name vs.toArray).run P w = .ok (.enter f args) w) :
    (execOp a.eval ⟨dst, .call { callee := .invoke x name, args := xs.toArray, argTypes := ts }, ty, pos, after, gd⟩).run P w = .ok (.enter f args) w := by
  subst hx
  subst hxs
  have e : (#[a.eval x] ++ (xs.toArray.map a.eval)).extract 1 (#[a.eval x] ++ (xs.toArray.map a.eval)).size = (xs.map a.eval).toArray := by
    apply Array.ext'
    simp [List.take_of_length_le]
  simp only [execOp, resolve, Sem.run_bind, Sem.run_pure, Result.andThen_ok, invoke]
  have e0 : (#[a.eval x] ++ (xs.toArray.map a.eval))[0]? = some (a.eval x) := by simp
  simp only [e0, e, hr]
/-- A method is called through an interface. -/
theorem step_inv {R : Ending → World → Prop} (x : Operand) (name : String) (xs : List Operand) (ts : Array TypeId) (rv : Value) (vs : List Value) (f : FuncId) (args : Array Value) (hx : a.eval x = rv) (hxs : xs.map a.eval = vs) (hr : (callMethod rv name vs.toArray).run P w = .ok (.enter f args) w) (hc : Calls P f args w R)
    (hw : Region.wanted ⟨dst, .call { callee := .invoke x name, args := xs.toArray, argTypes := ts }, ty, pos, after, gd⟩ (yielded ops a.tmps) = true)
    (h : ∀ e w', R e w' → (∃ v, e = .returned v ∧ wpList P ops Q rest (a.put dst v) w') ∨ (∃ c, e = .panicked c ∧ Q (.panic c) a w')) : wpList P ops Q (⟨dst, .call { callee := .invoke x name, args := xs.toArray, argTypes := ts }, ty, pos, after, gd⟩ :: rest) a w := by
  refine wpList_step fun K hK => ?_
  rw [if_pos hw]
  unfold Oper.wp
  rw [run_inv x name xs ts rv vs f args hx hxs hr, Oper.upon_enter]
  refine hc.mono fun e w' he => ?_
  rcases h e w' he with ⟨v, rfl, hp⟩ | ⟨c, rfl, hp⟩
  · exact hK _ _ hp
  · exact hp
theorem doesB_inv {R : Ending → World → Prop} (x : Operand) (name : String) (xs : List Operand) (ts : Array TypeId) (rv : Value) (vs : List Value) (f : FuncId) (args : Array Value) (hx : a.eval x = rv) (hxs : xs.map a.eval = vs) (hr : (callMethod rv name vs.toArray).run P w = .ok (.enter f args) w) (hc : Calls P f args w R)
    (h : ∀ e w', R e w' → (∃ v, e = .returned v ∧ Post v w') ∨ (∃ c, e = .panicked c ∧ Bad c w')) : doesB P Bad a.eval ⟨dst, .call { callee := .invoke x name, args := xs.toArray, argTypes := ts }, ty, pos, after, gd⟩ w Post :=
  doesB_call (run_inv x name xs ts rv vs f args hx hxs hr) hc h
theorem does_inv {R : Ending → World → Prop} (x : Operand) (name : String) (xs : List Operand) (ts : Array TypeId) (rv : Value) (vs : List Value) (f : FuncId) (args : Array Value) (hx : a.eval x = rv) (hxs : xs.map a.eval = vs) (hr : (callMethod rv name vs.toArray).run P w = .ok (.enter f args) w) (hc : Calls P f args w R)
    (h : ∀ e w', R e w' → ∃ v, e = .returned v ∧ Post v w') : does P a.eval ⟨dst, .call { callee := .invoke x name, args := xs.toArray, argTypes := ts }, ty, pos, after, gd⟩ w Post :=
  does_call (run_inv x name xs ts rv vs f args hx hxs hr) hc h
end

theorem Has.pick2 {w0 w : World} {l F G : List Res} {r s : Res} (S : Has w0 w l) (h : Pick l r F) (h2 : Pick F s G) : Has w0 w (r :: s :: G) := S.perm (h.perm.trans (List.Perm.cons _ h2.perm))
/-- A body of a request. -/
inductive Bdy where
  | none
  | pair (p d : UInt8)
  | short (n : UInt32)
  | long (n : UInt32)
def bdyV : Bdy → Value
  | .none => .iface 152 (.agg #[])
  | .pair p d => .iface 148 (.agg #[by8 p, by8 d])
  | .short n => .iface 149 (.int .u32 (n.toNat : Int))
  | .long n => .iface 150 (.int .u32 (n.toNat : Int))
/-- The body of a request; the request with a body. -/
def bdyR (r : Rq) : Bdy := if r.kind = 1 then .pair r.pick r.drop else if r.kind = 2 ∨ r.kind = 3 then .short r.number else if r.kind = 5 ∨ r.kind = 6 then .long r.number else .none
def ofB (k : UInt8) (t : Tok) : Bdy → Rq
  | .none => ⟨k, t, 0, 0, 0⟩
  | .pair p d => ⟨k, t, p, d, 0⟩
  | .short n => ⟨k, t, 0, 0, n⟩
  | .long n => ⟨k, t, 0, 0, n⟩
def bdyOk : Bdy → Bool
  | .short n => decide (n.toNat ≤ 65535)
  | _ => true
def bdyB : Bdy → List UInt8
  | .none => []
  | .pair p d => numB p.toNat 1 ++ numB d.toNat 1
  | .short n => numB n.toNat 2
  | .long n => numB n.toNat 4
/-- How many bytes a body of a kind has; what they are read as. -/
def bdyZ : Bdy → Nat
  | .none => 0
  | .pair _ _ => 2
  | .short _ => 2
  | .long _ => 4
def rdOf (b : List UInt8) (p : Nat) : Bdy → Bdy
  | .none => .none
  | .pair _ _ => .pair (UInt8.ofNat (atB b p 1)) (UInt8.ofNat (atB b (p + 1) 1))
  | .short _ => .short (UInt32.ofNat (atB b p 2))
  | .long _ => .long (UInt32.ofNat (atB b p 4))
theorem kcase (k : UInt8) : k = 1 ∨ k = 2 ∨ k = 3 ∨ k = 4 ∨ k = 5 ∨ k = 6 ∨ (k.toNat ≠ 1 ∧ k.toNat ≠ 2 ∧ k.toNat ≠ 3 ∧ k.toNat ≠ 4 ∧ k.toNat ≠ 5 ∧ k.toNat ≠ 6) := by
  have h : ∀ m : Nat, m < 256 → k.toNat = m → k = UInt8.ofNat m := fun m hm e => UInt8.toNat_inj.1 (by rw [e, UInt8.toNat_ofNat', Nat.mod_eq_of_lt hm])
  by_cases h1 : k.toNat = 1
  · exact .inl (h 1 (by decide) h1)
  by_cases h2 : k.toNat = 2
  · exact .inr (.inl (h 2 (by decide) h2))
  by_cases h3 : k.toNat = 3
  · exact .inr (.inr (.inl (h 3 (by decide) h3)))
  by_cases h4 : k.toNat = 4
  · exact .inr (.inr (.inr (.inl (h 4 (by decide) h4))))
  by_cases h5 : k.toNat = 5
  · exact .inr (.inr (.inr (.inr (.inl (h 5 (by decide) h5)))))
  by_cases h6 : k.toNat = 6
  · exact .inr (.inr (.inr (.inr (.inr (.inl (h 6 (by decide) h6))))))
  exact .inr (.inr (.inr (.inr (.inr (.inr ⟨h1, h2, h3, h4, h5, h6⟩)))))
set_option maxRecDepth 100000 in
set_option maxHeartbeats 4000000 in
theorem requestBody_s (r : Rq) (w0 : World) : Calls Tryd.prog 57 #[.agg (rqL r).toArray] w0 fun e w' => e = .returned (bdyV (bdyR r)) ∧ Has w0 w' [] := by
  have S := Has.start w0
  obtain ⟨k, t, p, d, n⟩ := r
  rcases kcase k with rfl | rfl | rfl | rfl | rfl | rfl | ⟨h1, h2, h3, h4, h5, h6⟩
  case inr.inr.inr.inr.inr.inr =>
    have hB : bdyR ⟨k, t, p, d, n⟩ = .none := by
      unfold bdyR
      dsimp only
      rw [if_neg (by rintro rfl; exact h1 rfl), if_neg (by rintro (rfl | rfl); exact h2 rfl; exact h3 rfl), if_neg (by rintro (rfl | rfl); exact h5 rfl; exact h6 rfl)]
    have i1 : ((k.toNat : Int) == 1) = false := by rw [beq_eq_false_iff_ne]; omega
    have i2 : ((k.toNat : Int) == 2) = false := by rw [beq_eq_false_iff_ne]; omega
    have i3 : ((k.toNat : Int) == 3) = false := by rw [beq_eq_false_iff_ne]; omega
    have i5 : ((k.toNat : Int) == 5) = false := by rw [beq_eq_false_iff_ne]; omega
    have i6 : ((k.toNat : Int) == 6) = false := by rw [beq_eq_false_iff_ne]; omega
    rw [hB]
    clear hB h1 h2 h3 h4 h5 h6
    go_enter Tryd.func57, Tryd.ntmps57
    go_wp2_with (first | ((with_reducible refine iD 1 (.box 69 (.tmp 0)) ?_); refine step_boxA (dst := some 1) S 69 (.tmp 0) _ rfl rfl ?_; clear S; intro g1 w S) | ((with_reducible refine iO _ (.load 5 _) ?_); refine step_load1 5 _ _ _ rfl (cL) _ Tryd.underlying5 rfl rfl ?_) | fail)
    go_ret
    exact ⟨rfl, S.nil⟩
  all_goals
    go_enter Tryd.func57, Tryd.ntmps57
    go_wp2_with (first | ((with_reducible refine iD 1 (.box 69 (.tmp 0)) ?_); refine step_boxA (dst := some 1) S 69 (.tmp 0) _ rfl rfl ?_; clear S; intro g1 w S) | ((with_reducible refine iO _ (.load 5 _) ?_); refine step_load1 5 _ _ _ rfl (cL) _ Tryd.underlying5 rfl rfl ?_) | ((with_reducible refine iO _ (.load 38 _) ?_); refine step_load1 38 _ _ _ rfl (cL) _ Tryd.underlying38 rfl rfl ?_) | fail)
    go_ret
    exact ⟨rfl, S.nil⟩
theorem ruint_i (si : Int) (s : Nat) (hsi : si = (s : Int)) (g : Nat) (bv : Value) (b : List UInt8) (p : Nat) (w0 w1 : World) (F : List Res) (S : Has w0 w1 (rdr g bv p :: F)) (hb : Bs w0 bv b) (h1 : 1 ≤ s) (h8 : s ≤ 8) (hp : p ≤ b.length) (hl : b.length ≤ 140737488355328) :
    Calls Tryd.prog 61 #[.pointer (some ⟨g, 0, none⟩), .int .i64 si] w1 fun e w' =>
      (p + s ≤ b.length ∧ e = .returned (.int .u64 (atB b p s : Int)) ∧ Has w0 w' (rdr g bv (p + s) :: F)) ∨ (b.length < p + s ∧ e = .panicked [erl] ∧ Has w0 w' (rdr g bv p :: F)) := by
  subst hsi
  refine (ruint_s g bv b p s w0 w1 F S hb h1 h8 hp hl).mono fun e w' h => ?_
  rcases h with ⟨h1, h2, h3⟩ | h
  · exact .inl ⟨h1, by rw [atB_fit b p s h1]; exact h2, h3⟩
  · exact .inr h
theorem wuint_i (ni : Int) (n : Nat) (hni : ni = (n : Int)) (si : Int) (s : Nat) (hsi : si = (s : Int)) (g : Nat) (v : Value) (xs : List UInt8) (w0 w1 : World) (F : List Res) (S : Has w0 w1 (wrt g v :: row8 v xs :: F)) (hn : n < 18446744073709551616) (hs : s ≤ 8) (hl : xs.length + s ≤ 140737488355328) :
    Calls Tryd.prog 48 #[.pointer (some ⟨g, 0, none⟩), .int .u64 ni, .int .i64 si] w1 (Wrote w0 g (xs ++ numB n s) F) := by
  subst hni
  subst hsi
  exact wuint_s g v xs n s w0 w1 F S hn hs hl
/-- What reading a body leaves. -/
def ReadY (w0 : World) (g : Nat) (bv : Value) (b : List UInt8) (p : Nat) (B : Bdy) (F : List Res) (e : Ending) (w' : World) : Prop :=
  (p + bdyZ B ≤ b.length ∧ e = .returned (bdyV (rdOf b p B)) ∧ Has w0 w' (rdr g bv (p + bdyZ B) :: F)) ∨ (b.length < p + bdyZ B ∧ e = .panicked [erl] ∧ ∃ q, Has w0 w' (rdr g bv q :: F))
theorem wrap8 (n : Nat) (h : n < 256) : IntKind.u8.wrap (n : Int) = ((UInt8.ofNat n).toNat : Int) := by rw [IntKind.wrap_u8, UInt8.toNat_ofNat']; omega
theorem wrap32 (n : Nat) (h : n < 4294967296) : IntKind.u32.wrap (n : Int) = ((UInt32.ofNat n).toNat : Int) := by rw [IntKind.wrap_u32, UInt32.toNat_ofNat']; omega
set_option maxRecDepth 100000 in
set_option maxHeartbeats 4000000 in
theorem pairRead_s (v : Value) (cs : Array Value) (hv : v = .agg cs) (g : Nat) (bv : Value) (b : List UInt8) (p : Nat) (w0 w1 : World) (F : List Res) (S : Has w0 w1 (rdr g bv p :: F)) (hb : Bs w0 bv b) (hp : p ≤ b.length) (hl : b.length ≤ 140737488355328) :
    Calls Tryd.prog 128 #[v, .pointer (some ⟨g, 0, none⟩)] w1 fun e w' =>
      (p + 2 ≤ b.length ∧ e = .returned (bdyV (.pair (UInt8.ofNat (atB b p 1)) (UInt8.ofNat (atB b (p + 1) 1)))) ∧ Has w0 w' (rdr g bv (p + 2) :: F)) ∨ (b.length < p + 2 ∧ e = .panicked [erl] ∧ ∃ q, Has w0 w' (rdr g bv q :: F)) := by
  subst hv
  have p1 := fun w F S => ruint_i 1 1 rfl g bv b p w0 w F S hb (by decide) (by decide) hp hl
  have p2 := fun w F S h => ruint_i 1 1 rfl g bv b (p + 1) w0 w F S hb (by decide) (by decide) h hl
  have e1 := wrap8 (atB b p 1) (atB_lt b p 1)
  have e2 := wrap8 (atB b (p + 1) 1) (atB_lt b (p + 1) 1)
  have HB := Lib.hid hb; have P1 := Lib.hid p1; have P2 := Lib.hid p2; have E1 := Lib.hid e1; have E2 := Lib.hid e2; clear hb p1 p2 e1 e2
  go_enter Tryd.func128, Tryd.ntmps128
  go_wp2_with (first | (go_at_call 61; (with_reducible refine (P1.out _ _ (S.pick pk)).mono ?_); rintro e w1 (⟨hf, rfl, S1⟩ | ⟨hf, rfl, S1⟩); rotate_left; exact ⟨rfl, .inr ⟨by omega, rfl, _, S1.drop (Pick.tail (Pick.head _ _))⟩⟩; clear S; have S := S1; clear S1; have _t := P1; clear P1) | (go_at_call 61; (with_reducible refine (P2.out _ _ (S.pick pk) hf).mono ?_); rintro e w1 (⟨hf2, rfl, S1⟩ | ⟨hf2, rfl, S1⟩); rotate_left; exact ⟨rfl, .inr ⟨by omega, rfl, _, S1.drop (Pick.tail (Pick.head _ _))⟩⟩; clear S; have S := S1; clear S1) | ((with_reducible refine iD 2 (.box 148 (.tmp 0)) ?_); refine step_boxA (dst := some 2) S 148 (.tmp 0) _ rfl rfl ?_; clear S; intro g2 w S) | fail)
  go_ret
  refine .inl ⟨hf2, ?_, S.drop (Pick.tail (Pick.head _ _))⟩
  show _ = Ending.returned (.iface _ (.agg #[.int .u8 _, .int .u8 _]))
  rw [← E1.out, ← E2.out]
  rfl
set_option maxRecDepth 100000 in
set_option maxHeartbeats 4000000 in
theorem shortRead_s (v : Value) (g : Nat) (bv : Value) (b : List UInt8) (p : Nat) (w0 w1 : World) (F : List Res) (S : Has w0 w1 (rdr g bv p :: F)) (hb : Bs w0 bv b) (hp : p ≤ b.length) (hl : b.length ≤ 140737488355328) :
    Calls Tryd.prog 131 #[v, .pointer (some ⟨g, 0, none⟩)] w1 fun e w' =>
      (p + 2 ≤ b.length ∧ e = .returned (bdyV (.short (UInt32.ofNat (atB b p 2)))) ∧ Has w0 w' (rdr g bv (p + 2) :: F)) ∨ (b.length < p + 2 ∧ e = .panicked [erl] ∧ ∃ q, Has w0 w' (rdr g bv q :: F)) := by
  have p1 := fun w F S => ruint_i 2 2 rfl g bv b p w0 w F S hb (by decide) (by decide) hp hl
  have e1 := wrap32 (atB b p 2) (Nat.lt_of_lt_of_le (atB_lt b p 2) (by decide))
  have HB := Lib.hid hb; have P1 := Lib.hid p1; have E1 := Lib.hid e1; clear hb p1 e1
  go_enter Tryd.func131, Tryd.ntmps131
  go_wp2_with (first | (go_at_call 61; (with_reducible refine (P1.out _ _ (S.pick pk)).mono ?_); rintro e w1 (⟨hf, rfl, S1⟩ | ⟨hf, rfl, S1⟩); rotate_left; exact ⟨rfl, .inr ⟨by omega, rfl, _, S1⟩⟩; clear S; have S := S1; clear S1) | fail)
  go_ret
  refine .inl ⟨hf, ?_, S⟩
  show _ = Ending.returned (.iface _ (.int .u32 _))
  rw [← E1.out]
  rfl
set_option maxRecDepth 100000 in
set_option maxHeartbeats 4000000 in
theorem longRead_s (v : Value) (g : Nat) (bv : Value) (b : List UInt8) (p : Nat) (w0 w1 : World) (F : List Res) (S : Has w0 w1 (rdr g bv p :: F)) (hb : Bs w0 bv b) (hp : p ≤ b.length) (hl : b.length ≤ 140737488355328) :
    Calls Tryd.prog 134 #[v, .pointer (some ⟨g, 0, none⟩)] w1 fun e w' =>
      (p + 4 ≤ b.length ∧ e = .returned (bdyV (.long (UInt32.ofNat (atB b p 4)))) ∧ Has w0 w' (rdr g bv (p + 4) :: F)) ∨ (b.length < p + 4 ∧ e = .panicked [erl] ∧ ∃ q, Has w0 w' (rdr g bv q :: F)) := by
  have p1 := fun w F S => ruint_i 4 4 rfl g bv b p w0 w F S hb (by decide) (by decide) hp hl
  have e1 := wrap32 (atB b p 4) (Nat.lt_of_lt_of_le (atB_lt b p 4) (by decide))
  have HB := Lib.hid hb; have P1 := Lib.hid p1; have E1 := Lib.hid e1; clear hb p1 e1
  go_enter Tryd.func134, Tryd.ntmps134
  go_wp2_with (first | (go_at_call 61; (with_reducible refine (P1.out _ _ (S.pick pk)).mono ?_); rintro e w1 (⟨hf, rfl, S1⟩ | ⟨hf, rfl, S1⟩); rotate_left; exact ⟨rfl, .inr ⟨by omega, rfl, _, S1⟩⟩; clear S; have S := S1; clear S1) | fail)
  go_ret
  refine .inl ⟨hf, ?_, S⟩
  show _ = Ending.returned (.iface _ (.int .u32 _))
  rw [← E1.out]
  rfl
set_option maxRecDepth 100000 in
set_option maxHeartbeats 1000000 in
theorem nothingRead_s (v : Value) (cs : Array Value) (hv : v = .agg cs) (u : Value) (w0 w1 : World) (F : List Res) (S : Has w0 w1 F) :
    Calls Tryd.prog 137 #[v, u] w1 fun e w' => e = .returned (bdyV .none) ∧ Has w0 w' F := by
  subst hv
  have eb : ∀ w, (Instr.build 152 #[]).run Tryd.prog w = .ok (.agg #[]) w := fun w => by kernel_rfl
  go_enter Tryd.func137, Tryd.ntmps137
  go_wp2_with (first | ((with_reducible refine iD 2 (.box 152 (.tmp 0)) ?_); refine step_boxA (dst := some 2) S 152 (.tmp 0) _ rfl rfl ?_; clear S; intro g2 w S) | fail)
  go_ret
  exact ⟨rfl, S.tail⟩
set_option maxRecDepth 100000 in
set_option maxHeartbeats 1000000 in
theorem bdyValid_s (B : Bdy) (w0 : World) : ∃ f v, (callMethod (bdyV B) "dunnage/wire.valid" #[]).run Tryd.prog w0 = .ok (.enter f #[v]) w0 ∧ Calls Tryd.prog f #[v] w0 fun e w' => e = .returned (.bool (bdyOk B)) ∧ Has w0 w' [] := by
  have S := Has.start w0
  cases B with
  | none =>
    refine ⟨138, .agg #[], by kernel_rfl, ?_⟩
    go_enter Tryd.func138, Tryd.ntmps138
    go_wp2_with (first | ((with_reducible refine iD 1 (.box 152 (.tmp 0)) ?_); refine step_boxA (dst := some 1) S 152 (.tmp 0) _ rfl rfl ?_; clear S; intro g1 w S) | fail)
    go_ret
    exact ⟨rfl, S.nil⟩
  | pair p d =>
    refine ⟨129, .agg #[by8 p, by8 d], by kernel_rfl, ?_⟩
    go_enter Tryd.func129, Tryd.ntmps129
    go_wp2_with (first | ((with_reducible refine iD 1 (.box 148 (.tmp 0)) ?_); refine step_boxA (dst := some 1) S 148 (.tmp 0) _ rfl rfl ?_; clear S; intro g1 w S) | fail)
    go_ret
    exact ⟨rfl, S.nil⟩
  | short n =>
    refine ⟨132, .int .u32 (n.toNat : Int), by kernel_rfl, ?_⟩
    go_enter Tryd.func132, Tryd.ntmps132
    go_wp2_with (first | fail)
    go_ret
    refine ⟨?_, S.nil⟩
    show Ending.returned (.bool (decide ((n.toNat : Int) ≤ 65535))) = _
    have : decide ((n.toNat : Int) ≤ 65535) = decide (n.toNat ≤ 65535) := by rw [Bool.eq_iff_iff, decide_eq_true_eq, decide_eq_true_eq]; omega
    rw [this]
    rfl
  | long n =>
    refine ⟨135, .int .u32 (n.toNat : Int), by kernel_rfl, ?_⟩
    go_enter Tryd.func135, Tryd.ntmps135
    go_wp2_with (first | fail)
    go_ret
    exact ⟨rfl, S.nil⟩
end Go.Proofs.YtfhkmmagpnojmaaDoor

/- Bodies of requests: written, read through the interface; a request with a body; whether a request is valid. No condition but the reach. -/
namespace Go.Proofs.YtfhkmmagpnojmaaDoor
open Go.RowKit

set_option maxRecDepth 100000 in
set_option maxHeartbeats 4000000 in
theorem bdyWrite_s (B : Bdy) (g : Nat) (v : Value) (xs : List UInt8) (w0 w1 : World) (F : List Res) (S : Has w0 w1 (wrt g v :: row8 v xs :: F)) (hl : xs.length + 8 ≤ 140737488355328) :
    ∃ f rv, (callMethod (bdyV B) "dunnage/wire.write" #[.pointer (some ⟨g, 0, none⟩)]).run Tryd.prog w1 = .ok (.enter f #[rv, .pointer (some ⟨g, 0, none⟩)]) w1 ∧ Calls Tryd.prog f #[rv, .pointer (some ⟨g, 0, none⟩)] w1 (Wrote w0 g (xs ++ bdyB B) F) := by
  cases B with
  | none =>
    refine ⟨139, .agg #[], by kernel_rfl, ?_⟩
    go_enter Tryd.func139, Tryd.ntmps139
    go_wp2_with (first | ((with_reducible refine iD 2 (.box 152 (.tmp 0)) ?_); refine step_boxA (dst := some 2) S 152 (.tmp 0) _ rfl rfl ?_; clear S; intro g2 w S) | fail)
    go_end0
    exact ⟨rfl, v, by show Has w0 _ (_ :: row8 v (xs ++ []) :: F); rw [List.append_nil]; exact S.tail⟩
  | pair p d =>
    refine ⟨130, .agg #[by8 p, by8 d], by kernel_rfl, ?_⟩
    have hp := p.toNat_lt
    have hd := d.toNat_lt
    have p1 := fun v w F S => wuint_i (p.toNat : Int) p.toNat rfl 1 1 rfl g v xs w0 w F S (by omega) (by decide) (by omega)
    have p2 := fun v w F S => wuint_i (d.toNat : Int) d.toNat rfl 1 1 rfl g v (xs ++ numB p.toNat 1) w0 w F S (by omega) (by decide) (by rw [List.length_append, numB_length]; omega)
    have hB : xs ++ bdyB (.pair p d) = (xs ++ numB p.toNat 1) ++ numB d.toNat 1 := by rw [List.append_assoc]; rfl
    rw [hB]
    have P1 := Lib.hid p1; have P2 := Lib.hid p2; clear p1 p2
    clear hB
    go_enter Tryd.func130, Tryd.ntmps130
    go_wp2_with (first | (go_at_call 48; (with_reducible refine (P1.out v _ _ (S.pick2 (r := wrt g v) (s := row8 v xs) pk pk)).mono ?_); rintro e w1 ⟨rfl, v1, S1⟩; clear S; have S := S1; clear S1; have _t := P1; clear P1) | (go_at_call 48; (with_reducible refine (P2.out v1 _ _ (S.pick2 (r := wrt g v1) (s := row8 v1 _) pk pk)).mono ?_); rintro e w1 ⟨rfl, v2, S1⟩; clear S; have S := S1; clear S1) | ((with_reducible refine iD 2 (.box 148 (.tmp 0)) ?_); refine step_boxA (dst := some 2) S 148 (.tmp 0) _ rfl rfl ?_; clear S; intro g2 w S) | ((with_reducible refine iO _ (.load 5 _) ?_); refine step_load1 5 _ _ _ rfl (cL) _ Tryd.underlying5 rfl rfl ?_) | fail)
    go_end0
    exact ⟨rfl, v2, S.drop (Pick.tail (Pick.tail (Pick.head _ _)))⟩
  | short n =>
    refine ⟨133, .int .u32 (n.toNat : Int), by kernel_rfl, ?_⟩
    have hn := n.toNat_lt
    have p1 := fun v w F S => wuint_i (n.toNat : Int) n.toNat rfl 2 2 rfl g v xs w0 w F S (by omega) (by decide) (by omega)
    have P1 := Lib.hid p1; clear p1
    go_enter Tryd.func133, Tryd.ntmps133
    go_wp2_with (first | (go_at_call 48; (with_reducible refine (P1.out v _ _ S).mono ?_); rintro e w1 ⟨rfl, v1, S1⟩) | fail)
    go_end0
    exact ⟨rfl, v1, S1⟩
  | long n =>
    refine ⟨136, .int .u32 (n.toNat : Int), by kernel_rfl, ?_⟩
    have hn := n.toNat_lt
    have p1 := fun v w F S => wuint_i (n.toNat : Int) n.toNat rfl 4 4 rfl g v xs w0 w F S (by omega) (by decide) (by omega)
    have P1 := Lib.hid p1; clear p1
    go_enter Tryd.func136, Tryd.ntmps136
    go_wp2_with (first | (go_at_call 48; (with_reducible refine (P1.out v _ _ S).mono ?_); rintro e w1 ⟨rfl, v1, S1⟩) | fail)
    go_end0
    exact ⟨rfl, v1, S1⟩
theorem bdyRead_s (B : Bdy) (g : Nat) (bv : Value) (b : List UInt8) (p : Nat) (w0 w1 : World) (F : List Res) (S : Has w0 w1 (rdr g bv p :: F)) (hb : Bs w0 bv b) (hp : p ≤ b.length) (hl : b.length ≤ 140737488355328) :
    ∃ f rv, (callMethod (bdyV B) "dunnage/wire.read" #[.pointer (some ⟨g, 0, none⟩)]).run Tryd.prog w1 = .ok (.enter f #[rv, .pointer (some ⟨g, 0, none⟩)]) w1 ∧ Calls Tryd.prog f #[rv, .pointer (some ⟨g, 0, none⟩)] w1 (ReadY w0 g bv b p B F) := by
  cases B with
  | none => exact ⟨137, .agg #[], by kernel_rfl, (nothingRead_s _ _ rfl _ w0 w1 _ S).mono fun e w' h => .inl ⟨hp, h.1, h.2⟩⟩
  | pair x d => exact ⟨128, .agg #[by8 x, by8 d], by kernel_rfl, pairRead_s _ _ rfl g bv b p w0 w1 F S hb hp hl⟩
  | short n => exact ⟨131, .int .u32 (n.toNat : Int), by kernel_rfl, shortRead_s _ g bv b p w0 w1 F S hb hp hl⟩
  | long n => exact ⟨134, .int .u32 (n.toNat : Int), by kernel_rfl, longRead_s _ g bv b p w0 w1 F S hb hp hl⟩
theorem build_rq2v (k x y z u : Int) (d0 d1 d2 d3 d4 d5 d6 d7 d8 d9 d10 d11 d12 d13 d14 d15 d16 d17 d18 d19 d20 d21 d22 d23 d24 d25 d26 d27 d28 d29 d30 d31 : UInt8) (w : World) : (Instr.build 69 #[(0, Value.int .u8 k), (1, Value.agg ([Value.int .u8 x, .int .u8 y, .int .u64 z, .int .u32 u] ++ [d0, d1, d2, d3, d4, d5, d6, d7, d8, d9, d10, d11, d12, d13, d14, d15, d16, d17, d18, d19, d20, d21, d22, d23, d24, d25, d26, d27, d28, d29, d30, d31].map by8).toArray)]).run Tryd.prog w = .ok (.agg ([Value.int .u8 k] ++ ([Value.int .u8 x, .int .u8 y, .int .u64 z, .int .u32 u] ++ [d0, d1, d2, d3, d4, d5, d6, d7, d8, d9, d10, d11, d12, d13, d14, d15, d16, d17, d18, d19, d20, d21, d22, d23, d24, d25, d26, d27, d28, d29, d30, d31].map by8) ++ [Value.int .u8 0, .int .u8 0, .int .u32 0]).toArray) w := by kernel_rfl
theorem build_rq2 (k x y z u : Int) (D : List UInt8) (hD : D.length = 32) (w : World) : (Instr.build 69 #[(0, Value.int .u8 k), (1, Value.agg ([Value.int .u8 x, .int .u8 y, .int .u64 z, .int .u32 u] ++ D.map by8).toArray)]).run Tryd.prog w = .ok (.agg ([Value.int .u8 k] ++ ([Value.int .u8 x, .int .u8 y, .int .u64 z, .int .u32 u] ++ D.map by8) ++ [Value.int .u8 0, .int .u8 0, .int .u32 0]).toArray) w :=
  match D, hD with
  | [d0, d1, d2, d3, d4, d5, d6, d7, d8, d9, d10, d11, d12, d13, d14, d15, d16, d17, d18, d19, d20, d21, d22, d23, d24, d25, d26, d27, d28, d29, d30, d31], _ => build_rq2v k x y z u d0 d1 d2 d3 d4 d5 d6 d7 d8 d9 d10 d11 d12 d13 d14 d15 d16 d17 d18 d19 d20 d21 d22 d23 d24 d25 d26 d27 d28 d29 d30 d31 w
set_option maxRecDepth 100000 in
/-- A request with a kind and a token. -/
theorem step_buildRq2 {ops : Array Oper} {rest : List Oper} {a : Act} {w : World} {Q : Exit → Act → World → Prop} {dst : Option Tmp} {ty : TypeId} {pos : String} {after : Array Edge} {gd : Option (Nat × Bool)} (x y : Operand) (k : UInt8) (t : Tok)
    (hx : a.eval x = by8 k) (hy : a.eval y = .agg (tokL t).toArray)
    (hw : Region.wanted ⟨dst, .build 69 #[(0, x), (1, y)], ty, pos, after, gd⟩ (yielded ops a.tmps) = true)
    (h : wpList Tryd.prog ops Q rest (a.put dst (.agg (rqL ⟨k, t, 0, 0, 0⟩).toArray)) w) : wpList Tryd.prog ops Q (⟨dst, .build 69 #[(0, x), (1, y)], ty, pos, after, gd⟩ :: rest) a w := by
  refine step_val (v := .agg (rqL ⟨k, t, 0, 0, 0⟩).toArray) hw ?_ h
  have hp : (#[(0, x), (1, y)].map fun (i, x) => (i, a.eval x)) = #[(0, .int .u8 (k.toNat : Int)), (1, Value.agg ([Value.int .u8 (t.tenant.toNat : Int), .int .u8 (t.role.toNat : Int), .int .u64 (t.expiry.toNat : Int), .int .u32 (t.serial.toNat : Int)] ++ t.tag.map by8).toArray)] := by simp [hx, hy, tokL]
  have := build_rq2 k.toNat t.tenant.toNat t.role.toNat t.expiry.toNat t.serial.toNat t.tag t.len w
  simp only [execOp, hp, Sem.run_bind, this, Result.andThen_ok, Sem.run_pure]
  rfl
theorem rqL_set (r : Rq) (i : Nat) (v : Value) (xs : List Value) (h : [Value.int .u8 (r.pick.toNat : Int), .int .u8 (r.drop.toNat : Int), .int .u32 (r.number.toNat : Int)].set i v = xs) : (rqL r).toArray.setIfInBounds (37 + i) v = ([Value.int .u8 (r.kind.toNat : Int)] ++ tokL r.tok ++ xs).toArray := by
  subst h
  unfold rqL
  rw [List.setIfInBounds_toArray, List.set_append_right _ _ (by simp [tokL_length]), show 37 + i - ([Value.int .u8 (r.kind.toNat : Int)] ++ tokL r.tok).length = i by simp [tokL_length]]
theorem rqL_set37 (k : UInt8) (t : Tok) (p d x : UInt8) (n : UInt32) : (rqL ⟨k, t, p, d, n⟩).toArray.setIfInBounds 37 (by8 x) = (rqL ⟨k, t, x, d, n⟩).toArray := rqL_set _ 0 _ _ rfl
theorem rqL_set38 (k : UInt8) (t : Tok) (p d x : UInt8) (n : UInt32) : (rqL ⟨k, t, p, d, n⟩).toArray.setIfInBounds 38 (by8 x) = (rqL ⟨k, t, p, x, n⟩).toArray := rqL_set _ 1 _ _ rfl
theorem rqL_set39 (k : UInt8) (t : Tok) (p d : UInt8) (n m : UInt32) : (rqL ⟨k, t, p, d, n⟩).toArray.setIfInBounds 39 (.int .u32 (m.toNat : Int)) = (rqL ⟨k, t, p, d, m⟩).toArray := rqL_set _ 2 _ _ rfl
theorem rqL_set0 (k : UInt8) (t : Tok) (p d x : UInt8) (n : UInt32) : (rqL ⟨k, t, p, d, n⟩).toArray.setIfInBounds 0 (by8 x) = (rqL ⟨x, t, p, d, n⟩).toArray := rfl
set_option maxRecDepth 100000 in
set_option maxHeartbeats 4000000 in
theorem requestOf_s (k : UInt8) (t : Tok) (B : Bdy) (w0 : World) : Calls Tryd.prog 64 #[by8 k, .agg (tokL t).toArray, bdyV B] w0 fun e w' => e = .returned (.agg (rqL (ofB k t B)).toArray) ∧ Has w0 w' [] := by
  have S := Has.start w0
  cases B with
  | none =>
    have t1 : ∀ w, (Instr.typeAssert (bdyV .none) 117 148 true).run Tryd.prog w = .ok (.tuple #[.agg #[.int .u8 0, .int .u8 0], .bool false]) w := fun w => by kernel_rfl
    have t2 : ∀ w, (Instr.typeAssert (bdyV .none) 117 149 true).run Tryd.prog w = .ok (.tuple #[.int .u32 0, .bool false]) w := fun w => by kernel_rfl
    have t3 : ∀ w, (Instr.typeAssert (bdyV .none) 117 150 true).run Tryd.prog w = .ok (.tuple #[.int .u32 0, .bool false]) w := fun w => by kernel_rfl
    go_enter Tryd.func64, Tryd.ntmps64
    go_wp2_with (first | ((with_reducible refine iD 13 (.build 69 _) ?_); refine step_buildRq2 (.tmp 11) (.tmp 12) k t rfl rfl gw ?_) | ((with_reducible refine iD 4 (.box 67 (.tmp 1)) ?_); refine step_boxA (dst := some 4) S 67 (.tmp 1) _ rfl rfl ?_; clear S; intro g4 w S) | ((with_reducible refine iD 6 (.alloc 69) ?_); refine step_alloc (dst := some 6) S 69 (.agg ((rqL rqZ).toArray)) ((rqL rqZ).toArray) kR rfl rfl ?_; clear S; intro g6 w S) | ((with_reducible refine iO _ (.load 67 _) ?_); first | (refine step_load S 67 _ _ rfl _ _ _ pk _ Tryd.underlying67 rfl 36 kR lN rfl ?_) | (refine step_loadO 67 _ _ rfl _ _ _ (S.old_heap (Hid.out (by assumption))) _ Tryd.underlying67 rfl 36 kR lN rfl ?_) | (refine step_loadR 67 _ _ _ rfl _ (S.old_range hy) _ Tryd.underlying67 rfl 36 kR lN _ rfl rfl ?_)) | ((with_reducible refine iD 7 (.alloc 69) ?_); refine step_alloc (dst := some 7) S 69 (.agg ((rqL rqZ).toArray)) ((rqL rqZ).toArray) kR rfl rfl ?_; clear S; intro g7 w S) | ((with_reducible refine iO none (.store 69 (.tmp 7) (.tmp 13)) ?_); refine step_store S 69 (.tmp 7) (.tmp 13) _ _ rfl rfl _ _ pk 40 kR lN lN on1 rfl ?_; clear S; intro w S) | ((with_reducible refine iO _ (.load 69 _) ?_); first | (refine step_load S 69 _ _ rfl _ _ _ pk _ Tryd.underlying69 rfl 40 kR lN rfl ?_) | (refine step_loadO 69 _ _ rfl _ _ _ (S.old_heap (Hid.out (by assumption))) _ Tryd.underlying69 rfl 40 kR lN rfl ?_) | (refine step_loadR 69 _ _ _ rfl _ (S.old_range hy) _ Tryd.underlying69 rfl 40 kR lN _ rfl rfl ?_)) | ((with_reducible refine iO none (.store 69 (.tmp 6) (.tmp 34)) ?_); refine step_store S 69 (.tmp 6) (.tmp 34) _ _ rfl rfl _ _ pk 40 kR lN lN on1 rfl ?_; clear S; intro w S) | fail)
    refine ret_row rfl g6 69 _ (S.get pk) _ Tryd.underlying69 40 kR lN rfl rfl rfl ?_
    exact ⟨rfl, S.nil⟩
  | pair x d =>
    have t1 : ∀ w, (Instr.typeAssert (bdyV (.pair x d)) 117 148 true).run Tryd.prog w = .ok (.tuple #[.agg #[by8 x, by8 d], .bool true]) w := fun w => by kernel_rfl
    go_enter Tryd.func64, Tryd.ntmps64
    go_wp2_with (first | ((with_reducible refine iD 13 (.build 69 _) ?_); refine step_buildRq2 (.tmp 11) (.tmp 12) k t rfl rfl gw ?_) | ((with_reducible refine iD 4 (.box 67 (.tmp 1)) ?_); refine step_boxA (dst := some 4) S 67 (.tmp 1) _ rfl rfl ?_; clear S; intro g4 w S) | ((with_reducible refine iD 6 (.alloc 69) ?_); refine step_alloc (dst := some 6) S 69 (.agg ((rqL rqZ).toArray)) ((rqL rqZ).toArray) kR rfl rfl ?_; clear S; intro g6 w S) | ((with_reducible refine iO _ (.load 67 _) ?_); first | (refine step_load S 67 _ _ rfl _ _ _ pk _ Tryd.underlying67 rfl 36 kR lN rfl ?_) | (refine step_loadO 67 _ _ rfl _ _ _ (S.old_heap (Hid.out (by assumption))) _ Tryd.underlying67 rfl 36 kR lN rfl ?_) | (refine step_loadR 67 _ _ _ rfl _ (S.old_range hy) _ Tryd.underlying67 rfl 36 kR lN _ rfl rfl ?_)) | ((with_reducible refine iD 7 (.alloc 69) ?_); refine step_alloc (dst := some 7) S 69 (.agg ((rqL rqZ).toArray)) ((rqL rqZ).toArray) kR rfl rfl ?_; clear S; intro g7 w S) | ((with_reducible refine iO none (.store 69 (.tmp 7) (.tmp 13)) ?_); refine step_store S 69 (.tmp 7) (.tmp 13) _ _ rfl rfl _ _ pk 40 kR lN lN on1 rfl ?_; clear S; intro w S) | ((with_reducible refine iD 8 (.alloc 148) ?_); refine step_alloc (dst := some 8) S 148 (.agg (#[.int .u8 0, .int .u8 0])) (#[.int .u8 0, .int .u8 0]) kR rfl rfl ?_; clear S; intro g8 w S) | ((with_reducible refine iO none (.store 148 (.tmp 8) (.tmp 17)) ?_); refine step_store S 148 (.tmp 8) (.tmp 17) _ _ rfl rfl _ _ pk 2 kR lN lN on1 rfl ?_; clear S; intro w S) | fail)
    have S := S.pick (r := blk g7 _) pk
    refine wp_relyW (e1 := noRes) 5 (S.pick (r := blk g7 _) pk) [sv [] (.pointer (some ⟨g8, 0, none⟩)), sv [0] (by8 x), sv [] (.pointer (some ⟨g8, 1, none⟩)), sv [2] (by8 d), sv [0, 1] (.pointer (some ⟨g7, 37, none⟩)), ⟨[0, 1, 4], [], [], fun _ v => True, fun _ v => [blk g7 (.cells (rqL ⟨k, t, x, 0, 0⟩).toArray 69 (0, 0))]⟩, sv [0, 1, 2, 3, 4, 5] (.pointer (some ⟨g7, 38, none⟩)), ⟨[0, 1, 2, 3, 4, 5, 6], [5], [], fun _ v => True, fun _ v => [blk g7 (.cells (rqL ⟨k, t, x, d, 0⟩).toArray 69 (0, 0))]⟩] ?A1 ?hA1 kR kR kR [0, 1, 2, 3, 4, 6, 7] kR (of_decide_eq_true rfl) ?hok1 ?fin1
    case hA1 => intro u; simp only [putAll, List.length_cons, List.length_nil, Nat.zero_add, Nat.reduceAdd, dstAt, List.getElem?_toArray, List.getElem?_cons_zero, List.getElem?_cons_succ, Option.bind_some, Act.put, List.setIfInBounds_toArray, List.set_cons_zero, List.set_cons_succ]; rfl
    case hok1 =>
      intro i hi
      obtain rfl | rfl | rfl | rfl | rfl | rfl | rfl | rfl : i = 0 ∨ i = 1 ∨ i = 2 ∨ i = 3 ∨ i = 4 ∨ i = 5 ∨ i = 6 ∨ i = 7 := by simp only [List.length_cons, List.length_nil, Nat.zero_add, Nat.reduceAdd] at hi; omega
      · rw [if_neg (by decide)]; intro r0; exact oP []
      · clear hi
        rw [if_neg (by decide)]; intro r0
        refine step_of rfl rfl rfl ?_
        intro u G w hf S
        have f0 : u 0 = .pointer (some ⟨g8, 0, none⟩) := hf 0 (by simp)
        simp only [fl, z4, z5, z6, z7, ptrBlk] at S ⊢
        simp only [f0]
        refine does_load1 5 (.tmp 18) _ _ rfl (S.cell (g := g8) pk co) _ Tryd.underlying5 rfl ?_; exact ⟨rfl, S⟩
      · rw [if_neg (by decide)]; intro r0; exact oP []
      · clear hi
        rw [if_neg (by decide)]; intro r0
        refine step_of rfl rfl rfl ?_
        intro u G w hf S
        have f2 : u 2 = .pointer (some ⟨g8, 1, none⟩) := hf 2 (by simp)
        simp only [fl, z4, z5, z6, z7, ptrBlk] at S ⊢
        simp only [f2]
        refine does_load1 5 (.tmp 20) _ _ rfl (S.cell (g := g8) pk co) _ Tryd.underlying5 rfl ?_; exact ⟨rfl, S⟩
      · rw [if_neg (by decide)]; intro r0; exact oP []
      · clear hi
        rw [if_pos rfl]
        refine step_ofW rfl rfl rfl ?_
        intro u G w hf S
        have f1 : u 1 = by8 x := hf 1 (by simp)
        have f4 : u 4 = .pointer (some ⟨g7, 37, none⟩) := hf 4 (by simp)
        simp only [fl, z4, z5, z6, z7, ptrBlk] at S ⊢
        simp only [f1, f4]
        refine does_store1 S 5 (.tmp 22) (.tmp 19) 37 (by8 x) rfl rfl kR rfl rfl (by rw [rqL_size]; decide) ?_; intro w1 S; rw [rqL_set37] at S; exact ⟨trivial, S.taken1⟩
      · rw [if_neg (by decide)]; intro r0; exact oP []
      · clear hi
        rw [if_neg (by decide)]; intro r0
        refine step_of rfl rfl rfl ?_
        intro u G w hf S
        have f3 : u 3 = by8 d := hf 3 (by simp)
        have f6 : u 6 = .pointer (some ⟨g7, 38, none⟩) := hf 6 (by simp)
        simp only [fl, z4, z5, z6, z7, ptrBlk] at S ⊢
        simp only [f3, f6] at S ⊢
        try simp only [ptrBlk] at S
        refine does_store1 S 5 (.tmp 23) (.tmp 21) 38 (by8 d) rfl rfl kR rfl rfl (by rw [rqL_size]; decide) ?_; intro w1 S; rw [rqL_set38] at S; exact ⟨trivial, S⟩
    case fin1 =>
      intro u w hf S
      have hvA := allV hf
      simp only [AllV, RSpec.valAt, sv, Nat.zero_add, Nat.reduceAdd] at hvA
      simp only [fl, z4, z5, z6, z7, ptrBlk] at S
      clear hf
      simp only [List.length_cons, List.length_nil, Nat.zero_add, Nat.reduceAdd, List.drop_succ_cons, List.drop_zero, hvA]
      try simp only [hvA, ptrBlk] at S
      clear hvA
      go_wp2_with (first | ((with_reducible refine iO _ (.load 69 _) ?_); first | (refine step_load S 69 _ _ rfl _ _ _ pk _ Tryd.underlying69 rfl 40 kR lN rfl ?_) | (refine step_loadO 69 _ _ rfl _ _ _ (S.old_heap (Hid.out (by assumption))) _ Tryd.underlying69 rfl 40 kR lN rfl ?_) | (refine step_loadR 69 _ _ _ rfl _ (S.old_range hy) _ Tryd.underlying69 rfl 40 kR lN _ rfl rfl ?_)) | ((with_reducible refine iO none (.store 69 (.tmp 6) (.tmp 34)) ?_); refine step_store S 69 (.tmp 6) (.tmp 34) _ _ rfl rfl _ _ pk 40 kR lN lN on1 rfl ?_; clear S; intro w S) | fail)
      refine ret_row rfl g6 69 _ (S.get pk) _ Tryd.underlying69 40 kR lN rfl rfl rfl ?_
      exact ⟨rfl, S.nil⟩
  | short n =>
    have t1 : ∀ w, (Instr.typeAssert (bdyV (.short n)) 117 148 true).run Tryd.prog w = .ok (.tuple #[.agg #[.int .u8 0, .int .u8 0], .bool false]) w := fun w => by kernel_rfl
    have t2 : ∀ w, (Instr.typeAssert (bdyV (.short n)) 117 149 true).run Tryd.prog w = .ok (.tuple #[.int .u32 (n.toNat : Int), .bool true]) w := fun w => by kernel_rfl
    go_enter Tryd.func64, Tryd.ntmps64
    go_wp2_with (first | ((with_reducible refine iD 13 (.build 69 _) ?_); refine step_buildRq2 (.tmp 11) (.tmp 12) k t rfl rfl gw ?_) | ((with_reducible refine iO none (.store 38 (.tmp 28) (.tmp 27)) ?_); refine step_store1 S 38 (.tmp 28) (.tmp 27) g7 39 (.int .u32 (n.toNat : Int)) rfl rfl _ _ pk kR rfl rfl (by rw [rqL_size]; decide) gw ?_; clear S; intro w S; rw [rqL_set39] at S) | ((with_reducible refine iD 4 (.box 67 (.tmp 1)) ?_); refine step_boxA (dst := some 4) S 67 (.tmp 1) _ rfl rfl ?_; clear S; intro g4 w S) | ((with_reducible refine iD 6 (.alloc 69) ?_); refine step_alloc (dst := some 6) S 69 (.agg ((rqL rqZ).toArray)) ((rqL rqZ).toArray) kR rfl rfl ?_; clear S; intro g6 w S) | ((with_reducible refine iO _ (.load 67 _) ?_); first | (refine step_load S 67 _ _ rfl _ _ _ pk _ Tryd.underlying67 rfl 36 kR lN rfl ?_) | (refine step_loadO 67 _ _ rfl _ _ _ (S.old_heap (Hid.out (by assumption))) _ Tryd.underlying67 rfl 36 kR lN rfl ?_) | (refine step_loadR 67 _ _ _ rfl _ (S.old_range hy) _ Tryd.underlying67 rfl 36 kR lN _ rfl rfl ?_)) | ((with_reducible refine iD 7 (.alloc 69) ?_); refine step_alloc (dst := some 7) S 69 (.agg ((rqL rqZ).toArray)) ((rqL rqZ).toArray) kR rfl rfl ?_; clear S; intro g7 w S) | ((with_reducible refine iO none (.store 69 (.tmp 7) (.tmp 13)) ?_); refine step_store S 69 (.tmp 7) (.tmp 13) _ _ rfl rfl _ _ pk 40 kR lN lN on1 rfl ?_; clear S; intro w S) | ((with_reducible refine iO _ (.load 69 _) ?_); first | (refine step_load S 69 _ _ rfl _ _ _ pk _ Tryd.underlying69 rfl 40 kR lN rfl ?_) | (refine step_loadO 69 _ _ rfl _ _ _ (S.old_heap (Hid.out (by assumption))) _ Tryd.underlying69 rfl 40 kR lN rfl ?_) | (refine step_loadR 69 _ _ _ rfl _ (S.old_range hy) _ Tryd.underlying69 rfl 40 kR lN _ rfl rfl ?_)) | ((with_reducible refine iO none (.store 69 (.tmp 6) (.tmp 34)) ?_); refine step_store S 69 (.tmp 6) (.tmp 34) _ _ rfl rfl _ _ pk 40 kR lN lN on1 rfl ?_; clear S; intro w S) | fail)
    refine ret_row rfl g6 69 _ (S.get pk) _ Tryd.underlying69 40 kR lN rfl rfl rfl ?_
    exact ⟨rfl, S.nil⟩
  | long n =>
    have t1 : ∀ w, (Instr.typeAssert (bdyV (.long n)) 117 148 true).run Tryd.prog w = .ok (.tuple #[.agg #[.int .u8 0, .int .u8 0], .bool false]) w := fun w => by kernel_rfl
    have t2 : ∀ w, (Instr.typeAssert (bdyV (.long n)) 117 149 true).run Tryd.prog w = .ok (.tuple #[.int .u32 0, .bool false]) w := fun w => by kernel_rfl
    have t3 : ∀ w, (Instr.typeAssert (bdyV (.long n)) 117 150 true).run Tryd.prog w = .ok (.tuple #[.int .u32 (n.toNat : Int), .bool true]) w := fun w => by kernel_rfl
    go_enter Tryd.func64, Tryd.ntmps64
    go_wp2_with (first | ((with_reducible refine iD 13 (.build 69 _) ?_); refine step_buildRq2 (.tmp 11) (.tmp 12) k t rfl rfl gw ?_) | ((with_reducible refine iO none (.store 38 (.tmp 33) (.tmp 32)) ?_); refine step_store1 S 38 (.tmp 33) (.tmp 32) g7 39 (.int .u32 (n.toNat : Int)) rfl rfl _ _ pk kR rfl rfl (by rw [rqL_size]; decide) gw ?_; clear S; intro w S; rw [rqL_set39] at S) | ((with_reducible refine iD 4 (.box 67 (.tmp 1)) ?_); refine step_boxA (dst := some 4) S 67 (.tmp 1) _ rfl rfl ?_; clear S; intro g4 w S) | ((with_reducible refine iD 6 (.alloc 69) ?_); refine step_alloc (dst := some 6) S 69 (.agg ((rqL rqZ).toArray)) ((rqL rqZ).toArray) kR rfl rfl ?_; clear S; intro g6 w S) | ((with_reducible refine iO _ (.load 67 _) ?_); first | (refine step_load S 67 _ _ rfl _ _ _ pk _ Tryd.underlying67 rfl 36 kR lN rfl ?_) | (refine step_loadO 67 _ _ rfl _ _ _ (S.old_heap (Hid.out (by assumption))) _ Tryd.underlying67 rfl 36 kR lN rfl ?_) | (refine step_loadR 67 _ _ _ rfl _ (S.old_range hy) _ Tryd.underlying67 rfl 36 kR lN _ rfl rfl ?_)) | ((with_reducible refine iD 7 (.alloc 69) ?_); refine step_alloc (dst := some 7) S 69 (.agg ((rqL rqZ).toArray)) ((rqL rqZ).toArray) kR rfl rfl ?_; clear S; intro g7 w S) | ((with_reducible refine iO none (.store 69 (.tmp 7) (.tmp 13)) ?_); refine step_store S 69 (.tmp 7) (.tmp 13) _ _ rfl rfl _ _ pk 40 kR lN lN on1 rfl ?_; clear S; intro w S) | ((with_reducible refine iO _ (.load 69 _) ?_); first | (refine step_load S 69 _ _ rfl _ _ _ pk _ Tryd.underlying69 rfl 40 kR lN rfl ?_) | (refine step_loadO 69 _ _ rfl _ _ _ (S.old_heap (Hid.out (by assumption))) _ Tryd.underlying69 rfl 40 kR lN rfl ?_) | (refine step_loadR 69 _ _ _ rfl _ (S.old_range hy) _ Tryd.underlying69 rfl 40 kR lN _ rfl rfl ?_)) | ((with_reducible refine iO none (.store 69 (.tmp 6) (.tmp 34)) ?_); refine step_store S 69 (.tmp 6) (.tmp 34) _ _ rfl rfl _ _ pk 40 kR lN lN on1 rfl ?_; clear S; intro w S) | fail)
    refine ret_row rfl g6 69 _ (S.get pk) _ Tryd.underlying69 40 kR lN rfl rfl rfl ?_
    exact ⟨rfl, S.nil⟩
end Go.Proofs.YtfhkmmagpnojmaaDoor
