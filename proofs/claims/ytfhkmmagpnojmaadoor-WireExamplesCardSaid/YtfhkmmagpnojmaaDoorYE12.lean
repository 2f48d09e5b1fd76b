/- Several texts under one header: what the claim needs of RpT, RpK, RpU. No condition but those that each names. -/
import Derived.Test.YtfhkmmagpnojmaaDoorYE11
import Derived.Test.YtfhkmmagpnojmaaDoorYE1
import Derived.Test.YtfhkmmagpnojmaaDoorYE6
import Derived.Test.YtfhkmmagpnojmaaDoorYE4
import Derived.Test.YtfhkmmagpnojmaaDoorYE7
set_option linter.unusedSimpArgs false
set_option linter.unusedVariables false

/- The method 'read' of a body, whichever it is. No condition but the reach. -/
namespace Go.Proofs.YtfhkmmagpnojmaaDoor
open Go.RowKit

/-- How many bytes a body takes; its fields as they are read. -/
def rdZ (q : BK) (b : List UInt8) (p : Nat) : Nat := match q with
  | .n => 0 | .o => 2 | .s => 9 | .w => 2 + 4 * atB b p 1 | .c => 5 + 43 * atB b (p + 4) 1 | .t => 46
def rdX (q : BK) (b : List UInt8) (p : Nat) : Rp := match q with
  | .n => rpZ
  | .o => { rpZ with order := i64N (atB b p 2) }
  | .s => { rpZ with state := UInt8.ofNat (atB b p 1), done := UInt64.ofNat (atB b (p + 1) 8) }
  | .w => { rpZ with robots := sgR b p (atB b p 1), queued := i64N (atB b (p + 1 + 4 * atB b p 1) 1) }
  | .c => { rpZ with count := UInt32.ofNat (atB b p 4), records := rcR b p (atB b (p + 4) 1) }
  | .t => { rpZ with tok := decT ((b.drop p).take 46) }
def ReadQ (w0 : World) (g : Nat) (bv : Value) (b : List UInt8) (p : Nat) (q : BK) (F : List Res) (e : Ending) (w' : World) : Prop :=
  (p + rdZ q b p ≤ b.length ∧ ∃ ar nr cr ac nc cc, e = .returned (bodyK q (rdX q b p) (.slice ar nr cr) (.slice ac nc cc)) ∧ Has w0 w' (rdr g bv (p + rdZ q b p) :: rowSg (.slice ar nr cr) (rdX q b p).robots :: rowRc (.slice ac nc cc) (rdX q b p).records :: F)) ∨
  (b.length < p + rdZ q b p ∧ e = .panicked [erl] ∧ ∃ q', Has w0 w' (rdr g bv q' :: F))
theorem Has.nilSgRc {w0 w : World} {r : Res} {F : List Res} (S : Has w0 w (r :: F)) : Has w0 w (r :: rowSg nilV [] :: rowRc nilV [] :: F) := by
  have h1 := S.nil_row 50 35
  have h2 := h1.nil_row 95 3
  exact h2.perm (List.perm_append_comm (l₁ := [rowSg nilV [], rowRc nilV []]) (l₂ := [r]) |>.append_right F)
theorem Has.nilRc1 {w0 w : World} {r s : Res} {F : List Res} (S : Has w0 w (r :: s :: F)) : Has w0 w (r :: s :: rowRc nilV [] :: F) := by
  have h1 := S.nil_row 50 35
  exact h1.perm (List.perm_append_comm (l₁ := [rowRc nilV []]) (l₂ := [r, s]) |>.append_right F)
theorem Has.nilSg1 {w0 w : World} {r s : Res} {F : List Res} (S : Has w0 w (r :: s :: F)) : Has w0 w (r :: rowSg nilV [] :: s :: F) := by
  have h1 := S.nil_row 95 3
  exact h1.perm (List.perm_append_comm (l₁ := [rowSg nilV []]) (l₂ := [r]) |>.append_right (s :: F))
set_option maxRecDepth 100000 in
/-- The method 'read' of a body, whichever it is. -/
theorem bodyRead_s (q : BK) (r : Rp) (ar ac : Option Addr) (nr cr nc cc : Nat) : ∃ f a, (∀ u w, (callMethod (bodyK q r (.slice ar nr cr) (.slice ac nc cc)) "dunnage/wire.read" #[u]).run Tryd.prog w = .ok (.enter f #[a, u]) w) ∧
    ∀ g bv b p w0 w1 F, Has w0 w1 (rdr g bv p :: F) → Bs w0 bv b → p ≤ b.length → b.length ≤ 140737488355328 → Calls Tryd.prog f #[a, .pointer (some ⟨g, 0, none⟩)] w1 (ReadQ w0 g bv b p q F) := by
  cases q with
  | n => exact ⟨137, .agg #[], fun u w => by kernel_rfl, fun g bv b p w0 w1 F S hb hp hl => (nothingRead_s _ _ rfl _ w0 w1 _ S).mono fun e w' h => .inl ⟨hp, none, 0, 0, none, 0, 0, h.1, h.2.nilSgRc⟩⟩
  | o => exact ⟨140, .int .i64 r.order.v, fun u w => by kernel_rfl, fun g bv b p w0 w1 F S hb hp hl => (orderRead_s _ g bv b p w0 w1 F S hb hp hl).mono fun e w' h => by
      rcases h with ⟨h1, h2, h3⟩ | h
      · refine .inl ⟨h1, none, 0, 0, none, 0, 0, ?_, h3.nilSgRc⟩
        rw [h2, ← i2_at]
        rfl
      · exact .inr h⟩
  | s => exact ⟨143, .agg #[.int .u8 (r.state.toNat : Int), .int .u64 (r.done.toNat : Int)], fun u w => by kernel_rfl, fun g bv b p w0 w1 F S hb hp hl => (stateRead_s _ g bv b p w0 w1 F S hb hp hl).mono fun e w' h => by
      rcases h with ⟨h1, h2, h3⟩ | h
      · refine .inl ⟨h1, none, 0, 0, none, 0, 0, ?_, h3.nilSgRc⟩
        rw [h2]
        show _ = Ending.returned (.iface _ (.agg #[.int .u8 ((UInt8.ofNat (atB b p 1)).toNat : Int), .int .u64 ((UInt64.ofNat (atB b (p + 1) 8)).toNat : Int)]))
        rw [u8_at, u64_at]
      · exact .inr h⟩
  | w => exact ⟨146, .agg #[.slice ar nr cr, .int .i64 r.queued.v], fun u w => by kernel_rfl, fun g bv b p w0 w1 F S hb hp hl => (watchRead_s _ g bv b p w0 w1 F S hb hp hl).mono fun e w' h => by
      rcases h with ⟨h1, a, c, h2, h3⟩ | ⟨h1, h2, h3⟩
      · have e1 : p + rdZ .w b p = p + 2 + 4 * atB b p 1 := by show p + (2 + 4 * atB b p 1) = _; omega
        refine .inl ⟨by rw [e1]; exact h1, a, atB b p 1, c, none, 0, 0, ?_, by rw [e1]; exact h3.nilRc1⟩
        rw [h2, ← i1_at]
        rfl
      · exact .inr ⟨by show b.length < p + (2 + 4 * atB b p 1); omega, h2, h3⟩⟩
  | c => exact ⟨124, .agg #[.int .u32 (r.count.toNat : Int), .slice ac nc cc], fun u w => by kernel_rfl, fun g bv b p w0 w1 F S hb hp hl => (chainRead_s _ g bv b p w0 w1 F S hb hp hl).mono fun e w' h => by
      rcases h with ⟨h1, a, c, h2, h3⟩ | ⟨h1, h2, h3⟩
      · have e1 : p + rdZ .c b p = p + 5 + 43 * atB b (p + 4) 1 := by show p + (5 + 43 * atB b (p + 4) 1) = _; omega
        refine .inl ⟨by rw [e1]; exact h1, none, 0, 0, a, atB b (p + 4) 1, c, ?_, by rw [e1]; exact h3.nilSg1⟩
        rw [h2]
        show _ = Ending.returned (.iface _ (.agg #[.int .u32 ((UInt32.ofNat (atB b p 4)).toNat : Int), _]))
        rw [u32_at]
      · exact .inr ⟨by show b.length < p + (5 + 43 * atB b (p + 4) 1); omega, h2, h3⟩⟩
  | t => exact ⟨126, .agg (tokL r.tok).toArray, fun u w => by kernel_rfl, fun g bv b p w0 w1 F S hb hp hl => (ticketRead_s _ g bv b p w0 w1 F S hb hp hl).mono fun e w' h => by
      rcases h with ⟨h1, h2, h3⟩ | h
      · exact .inl ⟨h1, none, 0, 0, none, 0, 0, h2, h3.nilSgRc⟩
      · exact .inr h⟩
end Go.Proofs.YtfhkmmagpnojmaaDoor

/- replyOf. No condition but the reach. -/
namespace Go.Proofs.YtfhkmmagpnojmaaDoor
open Go.RowKit

theorem build_rp3 (k c t : Int) (w : World) : (Instr.build 79 #[(0, .int .u8 k), (1, .int .i64 c), (2, .int .u64 t)]).run Tryd.prog w = .ok (.agg ([Value.int .u8 k, .int .i64 c, .int .u64 t, .int .i64 0, .int .u8 0, .int .u64 0, .slice none 0 0, .int .i64 0, .int .u32 0, .slice none 0 0] ++ ([Value.int .u8 0, .int .u8 0, .int .u64 0, .int .u32 0] ++ zs32.map by8)).toArray) w := by kernel_rfl
set_option maxRecDepth 100000 in
theorem step_buildRp3 {ops : Array Oper} {rest : List Oper} {a : Act} {w : World} {Q : Exit → Act → World → Prop} {dst : Option Tmp} {ty : TypeId} {pos : String} {after : Array Edge} {gd : Option (Nat × Bool)} (x y z : Operand) (k : UInt8) (c : I64) (t : UInt64)
    (hx : a.eval x = by8 k) (hy : a.eval y = .int .i64 c.v) (hz : a.eval z = .int .u64 (t.toNat : Int))
    (hw : Region.wanted ⟨dst, .build 79 #[(0, x), (1, y), (2, z)], ty, pos, after, gd⟩ (yielded ops a.tmps) = true)
    (h : wpList Tryd.prog ops Q rest (a.put dst (.agg (rpL (rpH k c t) nilV nilV).toArray)) w) : wpList Tryd.prog ops Q (⟨dst, .build 79 #[(0, x), (1, y), (2, z)], ty, pos, after, gd⟩ :: rest) a w := by
  refine step_val (v := .agg (rpL (rpH k c t) nilV nilV).toArray) hw ?_ h
  have hp : (#[(0, x), (1, y), (2, z)].map fun (i, x) => (i, a.eval x)) = #[(0, .int .u8 (k.toNat : Int)), (1, .int .i64 c.v), (2, .int .u64 (t.toNat : Int))] := by simp [hx, hy, hz]
  have := build_rp3 k.toNat c.v t.toNat w
  simp only [execOp, hp, Sem.run_bind, this, Result.andThen_ok, Sem.run_pure]
  rfl
abbrev iw (c : I64) : Int := c.v
/-- A reply's fixed fields and the rest of zeros, then with fields set. -/
theorem rpL_setO (k : UInt8) (c : I64) (t : UInt64) (o : I64) : (rpL (rpH k c t) nilV nilV).toArray.setIfInBounds 3 (.int .i64 o.v) = (rpL { rpH k c t with order := o } nilV nilV).toArray := rfl
theorem rpL_setS (k : UInt8) (c : I64) (t : UInt64) (s : UInt8) : (rpL (rpH k c t) nilV nilV).toArray.setIfInBounds 4 (.int .u8 (s.toNat : Int)) = (rpL { rpH k c t with state := s } nilV nilV).toArray := rfl
theorem rpL_setD (k : UInt8) (c : I64) (t : UInt64) (s : UInt8) (d : UInt64) : (rpL { rpH k c t with state := s } nilV nilV).toArray.setIfInBounds 5 (.int .u64 (d.toNat : Int)) = (rpL { rpH k c t with state := s, done := d } nilV nilV).toArray := rfl
theorem rpL_setR (k : UInt8) (c : I64) (t : UInt64) (v : Value) : (rpL (rpH k c t) nilV nilV).toArray.setIfInBounds 6 v = (rpL (rpH k c t) v nilV).toArray := rfl
theorem rpL_setQ (k : UInt8) (c : I64) (t : UInt64) (v : Value) (l : List Sgt) (q : I64) : (rpL (rpH k c t) v nilV).toArray.setIfInBounds 7 (.int .i64 q.v) = (rpL { rpH k c t with robots := l, queued := q } v nilV).toArray := rfl
theorem rpL_setN (k : UInt8) (c : I64) (t : UInt64) (n : UInt32) : (rpL (rpH k c t) nilV nilV).toArray.setIfInBounds 8 (.int .u32 (n.toNat : Int)) = (rpL { rpH k c t with count := n } nilV nilV).toArray := rfl
theorem rpL_setC (k : UInt8) (c : I64) (t : UInt64) (n : UInt32) (v : Value) (l : List Rcd) : (rpL { rpH k c t with count := n } nilV nilV).toArray.setIfInBounds 9 v = (rpL { rpH k c t with count := n, records := l } nilV v).toArray := rfl
theorem rpL_setTok (k : UInt8) (c : I64) (t : UInt64) (u : Tok) : ((rpL (rpH k c t) nilV nilV).toArray.toList.take 10 ++ (tokL u).toArray.toList ++ (rpL (rpH k c t) nilV nilV).toArray.toList.drop (10 + 36)).toArray = (rpL { rpH k c t with tok := u } nilV nilV).toArray := by
  have e : (rpL (rpH k c t) nilV nilV).toArray.toList.drop (10 + 36) = [] := List.drop_of_length_le (by rw [rpL_length]; exact Nat.le_refl _)
  rw [e, List.append_nil]
  rfl
/-- What the type switch of replyOf sees of a body. -/
structure Sees (B : Value) (o s w c t : Bool) (vo vs vw vc vt : Value) : Prop where
  t1 : ∀ w', (Instr.typeAssert B 117 160 true).run Tryd.prog w' = .ok (.tuple #[vo, .bool o]) w'
  t2 : ∀ w', (Instr.typeAssert B 117 162 true).run Tryd.prog w' = .ok (.tuple #[vs, .bool s]) w'
  t3 : ∀ w', (Instr.typeAssert B 117 164 true).run Tryd.prog w' = .ok (.tuple #[vw, .bool w]) w'
  t4 : ∀ w', (Instr.typeAssert B 117 108 true).run Tryd.prog w' = .ok (.tuple #[vc, .bool c]) w'
  t5 : ∀ w', (Instr.typeAssert B 117 114 true).run Tryd.prog w' = .ok (.tuple #[vt, .bool t]) w'
abbrev z_o : Value := .int .i64 0
abbrev z_s : Value := .agg #[.int .u8 0, .int .u64 0]
abbrev z_w : Value := .agg #[.slice none 0 0, .int .i64 0]
abbrev z_c : Value := .agg #[.int .u32 0, .slice none 0 0]
abbrev z_t : Value := .agg ([Value.int .u8 0, .int .u8 0, .int .u64 0, .int .u32 0] ++ zs32.map by8).toArray
set_option maxRecDepth 100000 in
theorem sees_n : Sees (.iface 152 (.agg #[])) false false false false false z_o z_s z_w z_c z_t := ⟨fun w => by kernel_rfl, fun w => by kernel_rfl, fun w => by kernel_rfl, fun w => by kernel_rfl, fun w => by kernel_rfl⟩
set_option maxRecDepth 100000 in
theorem sees_o (n : Int) : Sees (.iface 160 (.int .i64 n)) true false false false false (.int .i64 n) z_s z_w z_c z_t := ⟨fun w => by kernel_rfl, fun w => by kernel_rfl, fun w => by kernel_rfl, fun w => by kernel_rfl, fun w => by kernel_rfl⟩
set_option maxRecDepth 100000 in
theorem sees_s (x y : Int) : Sees (.iface 162 (.agg #[.int .u8 x, .int .u64 y])) false true false false false z_o (.agg #[.int .u8 x, .int .u64 y]) z_w z_c z_t := ⟨fun w => by kernel_rfl, fun w => by kernel_rfl, fun w => by kernel_rfl, fun w => by kernel_rfl, fun w => by kernel_rfl⟩
set_option maxRecDepth 100000 in
theorem sees_w (a : Option Addr) (n c : Nat) (y : Int) : Sees (.iface 164 (.agg #[.slice a n c, .int .i64 y])) false false true false false z_o z_s (.agg #[.slice a n c, .int .i64 y]) z_c z_t := ⟨fun w => by kernel_rfl, fun w => by kernel_rfl, fun w => by kernel_rfl, fun w => by kernel_rfl, fun w => by kernel_rfl⟩
set_option maxRecDepth 100000 in
theorem sees_c (x : Int) (a : Option Addr) (n c : Nat) : Sees (.iface 108 (.agg #[.int .u32 x, .slice a n c])) false false false true false z_o z_s z_w (.agg #[.int .u32 x, .slice a n c]) z_t := ⟨fun w => by kernel_rfl, fun w => by kernel_rfl, fun w => by kernel_rfl, fun w => by kernel_rfl, fun w => by kernel_rfl⟩
set_option maxRecDepth 100000 in
theorem sees_tv (v : Array Value) : Sees (.iface 114 (.agg v)) false false false false true z_o z_s z_w z_c (.agg v) := ⟨fun w => by kernel_rfl, fun w => by kernel_rfl, fun w => by kernel_rfl, fun w => by kernel_rfl, fun w => by kernel_rfl⟩
set_option maxRecDepth 100000 in
set_option maxHeartbeats 8000000 in
theorem replyOf_s (q : BK) (h x : Rp) (vr vc : Value) (hr1 : vr.oneCell' = true) (hc1 : vc.oneCell' = true) (ar ac : Option Addr) (nr cr nc cc : Nat) (w0 : World) :
    Calls Tryd.prog 70 #[.agg (rpL h vr vc).toArray, bodyK q x (.slice ar nr cr) (.slice ac nc cc)] w0 fun e w' => e = .returned (.agg (rpL (usK q h x) (vrK q (.slice ar nr cr)) (vcK q (.slice ac nc cc))).toArray) ∧ Has w0 w' [] := by
  have S := Has.start w0
  have d0 := rpL_0 h vr vc
  have d1 := rpL_1 h vr vc
  have d2 := rpL_2 h vr vc
  obtain ⟨k, hk⟩ : ∃ k, k = h.kind := ⟨_, rfl⟩
  obtain ⟨c, hc⟩ : ∃ c, c = h.code := ⟨_, rfl⟩
  obtain ⟨t, ht⟩ : ∃ t, t = h.tick := ⟨_, rfl⟩
  have hz : rpH h.kind h.code h.tick = rpH k c t := by rw [hk, hc, ht]
  rw [← hk] at d0
  rw [← hc] at d1
  rw [← ht] at d2
  cases q with
  | n =>
    show Calls Tryd.prog 70 #[.agg (rpL h vr vc).toArray, .iface 152 (.agg #[])] w0 fun e w' => e = .returned (.agg (rpL (rpH h.kind h.code h.tick) nilV nilV).toArray) ∧ Has w0 w' []
    rw [hz]
    obtain ⟨t1, t2, t3, t4, t5⟩ := sees_n
    have D0 := Lib.hid d0; have D1 := Lib.hid d1; have D2 := Lib.hid d2; clear d0 d1 d2
    clear hz hk hc ht
    go_enter Tryd.func70, Tryd.ntmps70
    go_wp2_with (first | ((with_reducible refine iD 17 (.build 79 _) ?_); refine step_buildRp3 (.tmp 12) (.tmp 14) (.tmp 16) k c t rfl rfl rfl gw ?_) | ((with_reducible refine iD 2 (.box 79 (.tmp 0)) ?_); refine step_boxA (dst := some 2) S 79 (.tmp 0) _ rfl rfl ?_; clear S; intro g2 w S) | ((with_reducible refine iD 4 (.alloc 79) ?_); refine step_alloc (dst := some 4) S 79 (.agg ((rpL rpZ (.slice none 0 0) (.slice none 0 0)).toArray)) ((rpL rpZ (.slice none 0 0) (.slice none 0 0)).toArray) kR rfl rfl ?_; clear S; intro g4 w S) | ((with_reducible refine iO _ (.load 5 _) ?_); refine step_load1 5 _ _ _ rfl (cL) _ Tryd.underlying5 rfl rfl ?_) | ((with_reducible refine iO _ (.load 24 _) ?_); refine step_load1 24 _ _ _ rfl (cL) _ Tryd.underlying24 rfl rfl ?_) | ((with_reducible refine iO _ (.load 23 _) ?_); refine step_load1 23 _ _ _ rfl (cL) _ Tryd.underlying23 rfl rfl ?_) | ((with_reducible refine iD 5 (.alloc 79) ?_); refine step_alloc (dst := some 5) S 79 (.agg ((rpL rpZ (.slice none 0 0) (.slice none 0 0)).toArray)) ((rpL rpZ (.slice none 0 0) (.slice none 0 0)).toArray) kR rfl rfl ?_; clear S; intro g5 w S) | ((with_reducible refine iO none (.store 79 (.tmp 5) (.tmp 17)) ?_); refine step_store S 79 (.tmp 5) (.tmp 17) _ _ rfl rfl _ _ pk 46 kR lN lN on1 rfl ?_; clear S; intro w S) | ((with_reducible refine iO _ (.load 79 _) ?_); first | (refine step_load S 79 _ _ rfl _ _ _ pk _ Tryd.underlying79 rfl 46 kR lN rfl ?_) | (refine step_loadO 79 _ _ rfl _ _ _ (S.old_heap (Hid.out (by assumption))) _ Tryd.underlying79 rfl 46 kR lN rfl ?_) | (refine step_loadR 79 _ _ _ rfl _ (S.old_range hy) _ Tryd.underlying79 rfl 46 kR lN _ rfl rfl ?_)) | ((with_reducible refine iO none (.store 79 (.tmp 4) (.tmp 56)) ?_); refine step_store S 79 (.tmp 4) (.tmp 56) _ _ rfl rfl _ _ pk 46 kR lN lN on1 rfl ?_; clear S; intro w S) | fail)
    refine ret_row rfl g4 79 _ (S.get pk) _ Tryd.underlying79 46 kR lN rfl rfl rfl ?_
    exact ⟨rfl, S.nil⟩
  | o =>
    obtain ⟨o, ho⟩ : ∃ o, o = x.order := ⟨_, rfl⟩
    show Calls Tryd.prog 70 #[.agg (rpL h vr vc).toArray, .iface 160 (.int .i64 x.order.v)] w0 fun e w' => e = .returned (.agg (rpL { rpH h.kind h.code h.tick with order := x.order } nilV nilV ).toArray) ∧ Has w0 w' []
    rw [hz]
    rw [← ho]
    clear ho
    obtain ⟨t1, t2, t3, t4, t5⟩ := sees_o o.v
    have D0 := Lib.hid d0; have D1 := Lib.hid d1; have D2 := Lib.hid d2; clear d0 d1 d2
    clear hz hk hc ht
    go_enter Tryd.func70, Tryd.ntmps70
    go_wp2_with (first | ((with_reducible refine iD 17 (.build 79 _) ?_); refine step_buildRp3 (.tmp 12) (.tmp 14) (.tmp 16) k c t rfl rfl rfl gw ?_) | ((with_reducible refine iO none (.store 3 (.tmp 23) (.tmp 22)) ?_); refine step_store1 S 3 (.tmp 23) (.tmp 22) g5 3 (.int .i64 o.v) rfl rfl _ _ pk kR rfl rfl (by rw [rpL_size]; decide) gw ?_; clear S; intro w S; rw [rpL_setO] at S) | ((with_reducible refine iD 2 (.box 79 (.tmp 0)) ?_); refine step_boxA (dst := some 2) S 79 (.tmp 0) _ rfl rfl ?_; clear S; intro g2 w S) | ((with_reducible refine iD 4 (.alloc 79) ?_); refine step_alloc (dst := some 4) S 79 (.agg ((rpL rpZ (.slice none 0 0) (.slice none 0 0)).toArray)) ((rpL rpZ (.slice none 0 0) (.slice none 0 0)).toArray) kR rfl rfl ?_; clear S; intro g4 w S) | ((with_reducible refine iO _ (.load 5 _) ?_); refine step_load1 5 _ _ _ rfl (cL) _ Tryd.underlying5 rfl rfl ?_) | ((with_reducible refine iO _ (.load 24 _) ?_); refine step_load1 24 _ _ _ rfl (cL) _ Tryd.underlying24 rfl rfl ?_) | ((with_reducible refine iO _ (.load 23 _) ?_); refine step_load1 23 _ _ _ rfl (cL) _ Tryd.underlying23 rfl rfl ?_) | ((with_reducible refine iD 5 (.alloc 79) ?_); refine step_alloc (dst := some 5) S 79 (.agg ((rpL rpZ (.slice none 0 0) (.slice none 0 0)).toArray)) ((rpL rpZ (.slice none 0 0) (.slice none 0 0)).toArray) kR rfl rfl ?_; clear S; intro g5 w S) | ((with_reducible refine iO none (.store 79 (.tmp 5) (.tmp 17)) ?_); refine step_store S 79 (.tmp 5) (.tmp 17) _ _ rfl rfl _ _ pk 46 kR lN lN on1 rfl ?_; clear S; intro w S) | ((with_reducible refine iO _ (.load 79 _) ?_); first | (refine step_load S 79 _ _ rfl _ _ _ pk _ Tryd.underlying79 rfl 46 kR lN rfl ?_) | (refine step_loadO 79 _ _ rfl _ _ _ (S.old_heap (Hid.out (by assumption))) _ Tryd.underlying79 rfl 46 kR lN rfl ?_) | (refine step_loadR 79 _ _ _ rfl _ (S.old_range hy) _ Tryd.underlying79 rfl 46 kR lN _ rfl rfl ?_)) | ((with_reducible refine iO none (.store 79 (.tmp 4) (.tmp 56)) ?_); refine step_store S 79 (.tmp 4) (.tmp 56) _ _ rfl rfl _ _ pk 46 kR lN lN on1 rfl ?_; clear S; intro w S) | fail)
    refine ret_row rfl g4 79 _ (S.get pk) _ Tryd.underlying79 46 kR lN rfl rfl rfl ?_
    exact ⟨rfl, S.nil⟩
  | s =>
    obtain ⟨s, hs⟩ : ∃ s, s = x.state := ⟨_, rfl⟩
    obtain ⟨d, hd⟩ : ∃ d, d = x.done := ⟨_, rfl⟩
    show Calls Tryd.prog 70 #[.agg (rpL h vr vc).toArray, .iface 162 (.agg #[.int .u8 (x.state.toNat : Int), .int .u64 (x.done.toNat : Int)])] w0 fun e w' => e = .returned (.agg (rpL { rpH h.kind h.code h.tick with state := x.state, done := x.done } nilV nilV ).toArray) ∧ Has w0 w' []
    rw [hz]
    rw [← hs, ← hd]
    clear hs hd
    obtain ⟨t1, t2, t3, t4, t5⟩ := sees_s s.toNat d.toNat
    have D0 := Lib.hid d0; have D1 := Lib.hid d1; have D2 := Lib.hid d2; clear d0 d1 d2
    clear hz hk hc ht
    go_enter Tryd.func70, Tryd.ntmps70
    go_wp2_with (first | ((with_reducible refine iD 17 (.build 79 _) ?_); refine step_buildRp3 (.tmp 12) (.tmp 14) (.tmp 16) k c t rfl rfl rfl gw ?_) | ((with_reducible refine iD 2 (.box 79 (.tmp 0)) ?_); refine step_boxA (dst := some 2) S 79 (.tmp 0) _ rfl rfl ?_; clear S; intro g2 w S) | ((with_reducible refine iD 4 (.alloc 79) ?_); refine step_alloc (dst := some 4) S 79 (.agg ((rpL rpZ (.slice none 0 0) (.slice none 0 0)).toArray)) ((rpL rpZ (.slice none 0 0) (.slice none 0 0)).toArray) kR rfl rfl ?_; clear S; intro g4 w S) | ((with_reducible refine iO _ (.load 5 _) ?_); refine step_load1 5 _ _ _ rfl (cL) _ Tryd.underlying5 rfl rfl ?_) | ((with_reducible refine iO _ (.load 24 _) ?_); refine step_load1 24 _ _ _ rfl (cL) _ Tryd.underlying24 rfl rfl ?_) | ((with_reducible refine iO _ (.load 23 _) ?_); refine step_load1 23 _ _ _ rfl (cL) _ Tryd.underlying23 rfl rfl ?_) | ((with_reducible refine iD 5 (.alloc 79) ?_); refine step_alloc (dst := some 5) S 79 (.agg ((rpL rpZ (.slice none 0 0) (.slice none 0 0)).toArray)) ((rpL rpZ (.slice none 0 0) (.slice none 0 0)).toArray) kR rfl rfl ?_; clear S; intro g5 w S) | ((with_reducible refine iO none (.store 79 (.tmp 5) (.tmp 17)) ?_); refine step_store S 79 (.tmp 5) (.tmp 17) _ _ rfl rfl _ _ pk 46 kR lN lN on1 rfl ?_; clear S; intro w S) | ((with_reducible refine iD 7 (.alloc 162) ?_); refine step_alloc (dst := some 7) S 162 (.agg (#[.int .u8 0, .int .u64 0])) (#[.int .u8 0, .int .u64 0]) kR rfl rfl ?_; clear S; intro g7 w S) | ((with_reducible refine iO none (.store 162 (.tmp 7) (.tmp 26)) ?_); refine step_store S 162 (.tmp 7) (.tmp 26) _ _ rfl rfl _ _ pk 2 kR lN lN on1 rfl ?_; clear S; intro w S) | fail)
    have S := S.pick (r := blk g5 _) pk
    refine wp_relyW (e1 := noRes) 5 (S.pick (r := blk g5 _) pk) [sv [] (.pointer (some ⟨g7, 0, none⟩)), sv [0] (.int .u8 (s.toNat : Int)), sv [] (.pointer (some ⟨g7, 1, none⟩)), sv [2] (.int .u64 (d.toNat : Int)), sv [0, 1] (.pointer (some ⟨g5, 4, none⟩)), ⟨[0, 1, 4], [], [], fun _ v => True, fun _ v => [blk g5 (.cells (rpL { rpH k c t with state := s } nilV nilV).toArray 79 (0, 0))]⟩, sv [0, 1, 2, 3, 4, 5] (.pointer (some ⟨g5, 5, none⟩)), ⟨[0, 1, 2, 3, 4, 5, 6], [5], [], fun _ v => True, fun _ v => [blk g5 (.cells (rpL { rpH k c t with state := s, done := d } nilV nilV).toArray 79 (0, 0))]⟩] ?A1 ?hA1 kR kR kR [0, 1, 2, 3, 4, 6, 7] kR (of_decide_eq_true rfl) ?hok1 ?fin1
    case hA1 => intro u; simp only [putAll, List.length_cons, List.length_nil, Nat.zero_add, Nat.reduceAdd, dstAt, List.getElem?_toArray, List.getElem?_cons_zero, List.getElem?_cons_succ, Option.bind_some, Act.put, List.setIfInBounds_toArray, List.set_cons_zero, List.set_cons_succ]; rfl
    case hok1 =>
      intro i hi
      obtain rfl | rfl | rfl | rfl | rfl | rfl | rfl | rfl : i = 0 ∨ i = 1 ∨ i = 2 ∨ i = 3 ∨ i = 4 ∨ i = 5 ∨ i = 6 ∨ i = 7 := by simp only [List.length_cons, List.length_nil, Nat.zero_add, Nat.reduceAdd] at hi; omega
      · rw [if_neg (by decide)]; intro r0; exact oP []
      · clear hi
        rw [if_neg (by decide)]; intro r0
        refine step_of rfl rfl rfl ?_
        intro u G w hf S
        have f0 : u 0 = .pointer (some ⟨g7, 0, none⟩) := hf 0 (by simp)
        simp only [fl, z4, z5, z6, z7, ptrBlk] at S ⊢
        simp only [f0]
        refine does_load1 5 (.tmp 27) _ _ rfl (S.cell (g := g7) pk co) _ Tryd.underlying5 rfl ?_; exact ⟨rfl, S⟩
      · rw [if_neg (by decide)]; intro r0; exact oP []
      · clear hi
        rw [if_neg (by decide)]; intro r0
        refine step_of rfl rfl rfl ?_
        intro u G w hf S
        have f2 : u 2 = .pointer (some ⟨g7, 1, none⟩) := hf 2 (by simp)
        simp only [fl, z4, z5, z6, z7, ptrBlk] at S ⊢
        simp only [f2]
        refine does_load1 23 (.tmp 29) _ _ rfl (S.cell (g := g7) pk co) _ Tryd.underlying23 rfl ?_; exact ⟨rfl, S⟩
      · rw [if_neg (by decide)]; intro r0; exact oP []
      · clear hi
        rw [if_pos rfl]
        refine step_ofW rfl rfl rfl ?_
        intro u G w hf S
        have f1 : u 1 = .int .u8 (s.toNat : Int) := hf 1 (by simp)
        have f4 : u 4 = .pointer (some ⟨g5, 4, none⟩) := hf 4 (by simp)
        simp only [fl, z4, z5, z6, z7, ptrBlk] at S ⊢
        simp only [f1, f4]
        refine does_store1 S 5 (.tmp 31) (.tmp 28) 4 (.int .u8 (s.toNat : Int)) rfl rfl kR rfl rfl (by rw [rpL_size]; decide) ?_; intro w1 S; rw [rpL_setS] at S; exact ⟨trivial, S.taken1⟩
      · rw [if_neg (by decide)]; intro r0; exact oP []
      · clear hi
        rw [if_neg (by decide)]; intro r0
        refine step_of rfl rfl rfl ?_
        intro u G w hf S
        have f3 : u 3 = .int .u64 (d.toNat : Int) := hf 3 (by simp)
        have f6 : u 6 = .pointer (some ⟨g5, 5, none⟩) := hf 6 (by simp)
        simp only [fl, z4, z5, z6, z7, ptrBlk] at S ⊢
        simp only [f3, f6] at S ⊢
        try simp only [ptrBlk] at S
        refine does_store1 S 23 (.tmp 32) (.tmp 30) 5 (.int .u64 (d.toNat : Int)) rfl rfl kR rfl rfl (by rw [rpL_size]; decide) ?_; intro w1 S; rw [rpL_setD] at S; exact ⟨trivial, S⟩
    case fin1 =>
      intro u w hf S
      have hvA := allV hf
      simp only [AllV, RSpec.valAt, sv, Nat.zero_add, Nat.reduceAdd] at hvA
      simp only [fl, z4, z5, z6, z7, ptrBlk] at S
      clear hf
      simp only [List.length_cons, List.length_nil, Nat.zero_add, Nat.reduceAdd, List.drop_succ_cons, List.drop_zero, hvA]
      try simp only [hvA, ptrBlk] at S
      clear hvA
      go_wp2_with (first | ((with_reducible refine iO _ (.load 79 _) ?_); first | (refine step_load S 79 _ _ rfl _ _ _ pk _ Tryd.underlying79 rfl 46 kR lN rfl ?_) | (refine step_loadO 79 _ _ rfl _ _ _ (S.old_heap (Hid.out (by assumption))) _ Tryd.underlying79 rfl 46 kR lN rfl ?_) | (refine step_loadR 79 _ _ _ rfl _ (S.old_range hy) _ Tryd.underlying79 rfl 46 kR lN _ rfl rfl ?_)) | ((with_reducible refine iO none (.store 79 (.tmp 4) (.tmp 56)) ?_); refine step_store S 79 (.tmp 4) (.tmp 56) _ _ rfl rfl _ _ pk 46 kR lN lN on1 rfl ?_; clear S; intro w S) | fail)
      refine ret_row rfl g4 79 _ (S.get pk) _ Tryd.underlying79 46 kR lN rfl rfl rfl ?_
      exact ⟨rfl, S.nil⟩
  | w =>
    obtain ⟨l, hl⟩ : ∃ l, l = x.robots := ⟨_, rfl⟩
    obtain ⟨p, hp⟩ : ∃ p, p = x.queued := ⟨_, rfl⟩
    show Calls Tryd.prog 70 #[.agg (rpL h vr vc).toArray, .iface 164 (.agg #[.slice ar nr cr, .int .i64 x.queued.v])] w0 fun e w' => e = .returned (.agg (rpL { rpH h.kind h.code h.tick with robots := x.robots, queued := x.queued } (.slice ar nr cr) nilV ).toArray) ∧ Has w0 w' []
    rw [hz]
    rw [← hl, ← hp]
    clear hl hp
    obtain ⟨t1, t2, t3, t4, t5⟩ := sees_w ar nr cr p.v
    have D0 := Lib.hid d0; have D1 := Lib.hid d1; have D2 := Lib.hid d2; clear d0 d1 d2
    clear hz hk hc ht
    go_enter Tryd.func70, Tryd.ntmps70
    go_wp2_with (first | ((with_reducible refine iD 17 (.build 79 _) ?_); refine step_buildRp3 (.tmp 12) (.tmp 14) (.tmp 16) k c t rfl rfl rfl gw ?_) | ((with_reducible refine iD 2 (.box 79 (.tmp 0)) ?_); refine step_boxA (dst := some 2) S 79 (.tmp 0) _ rfl rfl ?_; clear S; intro g2 w S) | ((with_reducible refine iD 4 (.alloc 79) ?_); refine step_alloc (dst := some 4) S 79 (.agg ((rpL rpZ (.slice none 0 0) (.slice none 0 0)).toArray)) ((rpL rpZ (.slice none 0 0) (.slice none 0 0)).toArray) kR rfl rfl ?_; clear S; intro g4 w S) | ((with_reducible refine iO _ (.load 5 _) ?_); refine step_load1 5 _ _ _ rfl (cL) _ Tryd.underlying5 rfl rfl ?_) | ((with_reducible refine iO _ (.load 24 _) ?_); refine step_load1 24 _ _ _ rfl (cL) _ Tryd.underlying24 rfl rfl ?_) | ((with_reducible refine iO _ (.load 23 _) ?_); refine step_load1 23 _ _ _ rfl (cL) _ Tryd.underlying23 rfl rfl ?_) | ((with_reducible refine iD 5 (.alloc 79) ?_); refine step_alloc (dst := some 5) S 79 (.agg ((rpL rpZ (.slice none 0 0) (.slice none 0 0)).toArray)) ((rpL rpZ (.slice none 0 0) (.slice none 0 0)).toArray) kR rfl rfl ?_; clear S; intro g5 w S) | ((with_reducible refine iO none (.store 79 (.tmp 5) (.tmp 17)) ?_); refine step_store S 79 (.tmp 5) (.tmp 17) _ _ rfl rfl _ _ pk 46 kR lN lN on1 rfl ?_; clear S; intro w S) | ((with_reducible refine iD 8 (.alloc 164) ?_); refine step_alloc (dst := some 8) S 164 (.agg (#[.slice none 0 0, .int .i64 0])) (#[.slice none 0 0, .int .i64 0]) kR rfl rfl ?_; clear S; intro g8 w S) | ((with_reducible refine iO none (.store 164 (.tmp 8) (.tmp 35)) ?_); refine step_store S 164 (.tmp 8) (.tmp 35) _ _ rfl rfl _ _ pk 2 kR lN lN on1 rfl ?_; clear S; intro w S) | fail)
    have S := S.pick (r := blk g5 _) pk
    refine wp_relyW (e1 := noRes) 5 (S.pick (r := blk g5 _) pk) [sv [] (.pointer (some ⟨g8, 0, none⟩)), sv [0] (.slice ar nr cr), sv [] (.pointer (some ⟨g8, 1, none⟩)), sv [2] (.int .i64 (iw p)), sv [0, 1] (.pointer (some ⟨g5, 6, none⟩)), ⟨[0, 1, 4], [], [], fun _ v => True, fun _ v => [blk g5 (.cells (rpL (rpH k c t) (.slice ar nr cr) nilV).toArray 79 (0, 0))]⟩, sv [0, 1, 2, 3, 4, 5] (.pointer (some ⟨g5, 7, none⟩)), ⟨[0, 1, 2, 3, 4, 5, 6], [5], [], fun _ v => True, fun _ v => [blk g5 (.cells (rpL { rpH k c t with robots := l, queued := p } (.slice ar nr cr) nilV).toArray 79 (0, 0))]⟩] ?A2 ?hA2 kR kR kR [0, 1, 2, 3, 4, 6, 7] kR (of_decide_eq_true rfl) ?hok2 ?fin2
    case hA2 => intro u; simp only [putAll, List.length_cons, List.length_nil, Nat.zero_add, Nat.reduceAdd, dstAt, List.getElem?_toArray, List.getElem?_cons_zero, List.getElem?_cons_succ, Option.bind_some, Act.put, List.setIfInBounds_toArray, List.set_cons_zero, List.set_cons_succ]; rfl
    case hok2 =>
      intro i hi
      obtain rfl | rfl | rfl | rfl | rfl | rfl | rfl | rfl : i = 0 ∨ i = 1 ∨ i = 2 ∨ i = 3 ∨ i = 4 ∨ i = 5 ∨ i = 6 ∨ i = 7 := by simp only [List.length_cons, List.length_nil, Nat.zero_add, Nat.reduceAdd] at hi; omega
      · rw [if_neg (by decide)]; intro r0; exact oP []
      · clear hi
        rw [if_neg (by decide)]; intro r0
        refine step_of rfl rfl rfl ?_
        intro u G w hf S
        have f0 : u 0 = .pointer (some ⟨g8, 0, none⟩) := hf 0 (by simp)
        simp only [fl, z4, z5, z6, z7, ptrBlk] at S ⊢
        simp only [f0]
        refine does_load1 77 (.tmp 36) _ _ rfl (S.cell (g := g8) pk co) _ Tryd.underlying77 rfl ?_; exact ⟨rfl, S⟩
      · rw [if_neg (by decide)]; intro r0; exact oP []
      · clear hi
        rw [if_neg (by decide)]; intro r0
        refine step_of rfl rfl rfl ?_
        intro u G w hf S
        have f2 : u 2 = .pointer (some ⟨g8, 1, none⟩) := hf 2 (by simp)
        simp only [fl, z4, z5, z6, z7, ptrBlk] at S ⊢
        simp only [f2]
        refine does_load1 3 (.tmp 38) _ _ rfl (S.cell (g := g8) pk co) _ Tryd.underlying3 rfl ?_; exact ⟨rfl, S⟩
      · rw [if_neg (by decide)]; intro r0; exact oP []
      · clear hi
        rw [if_pos rfl]
        refine step_ofW rfl rfl rfl ?_
        intro u G w hf S
        have f1 : u 1 = .slice ar nr cr := hf 1 (by simp)
        have f4 : u 4 = .pointer (some ⟨g5, 6, none⟩) := hf 4 (by simp)
        simp only [fl, z4, z5, z6, z7, ptrBlk] at S ⊢
        simp only [f1, f4]
        refine does_store1 S 77 (.tmp 40) (.tmp 37) 6 (.slice ar nr cr) rfl rfl kR rfl rfl (by rw [rpL_size]; decide) ?_; intro w1 S; rw [rpL_setR] at S; exact ⟨trivial, S.taken1⟩
      · rw [if_neg (by decide)]; intro r0; exact oP []
      · clear hi
        rw [if_neg (by decide)]; intro r0
        refine step_of rfl rfl rfl ?_
        intro u G w hf S
        have f3 : u 3 = .int .i64 (iw p) := hf 3 (by simp)
        have f6 : u 6 = .pointer (some ⟨g5, 7, none⟩) := hf 6 (by simp)
        simp only [fl, z4, z5, z6, z7, ptrBlk] at S ⊢
        simp only [f3, f6] at S ⊢
        try simp only [ptrBlk] at S
        refine does_store1 S 3 (.tmp 41) (.tmp 39) 7 (.int .i64 (iw p)) rfl rfl kR rfl rfl (by rw [rpL_size]; decide) ?_; intro w1 S; rw [rpL_setQ k c t _ l p] at S; exact ⟨trivial, S⟩
    case fin2 =>
      intro u w hf S
      have hvA := allV hf
      simp only [AllV, RSpec.valAt, sv, Nat.zero_add, Nat.reduceAdd] at hvA
      simp only [fl, z4, z5, z6, z7, ptrBlk] at S
      clear hf
      simp only [List.length_cons, List.length_nil, Nat.zero_add, Nat.reduceAdd, List.drop_succ_cons, List.drop_zero, hvA]
      try simp only [hvA, ptrBlk] at S
      clear hvA
      go_wp2_with (first | ((with_reducible refine iO _ (.load 79 _) ?_); first | (refine step_load S 79 _ _ rfl _ _ _ pk _ Tryd.underlying79 rfl 46 kR lN rfl ?_) | (refine step_loadO 79 _ _ rfl _ _ _ (S.old_heap (Hid.out (by assumption))) _ Tryd.underlying79 rfl 46 kR lN rfl ?_) | (refine step_loadR 79 _ _ _ rfl _ (S.old_range hy) _ Tryd.underlying79 rfl 46 kR lN _ rfl rfl ?_)) | ((with_reducible refine iO none (.store 79 (.tmp 4) (.tmp 56)) ?_); refine step_store S 79 (.tmp 4) (.tmp 56) _ _ rfl rfl _ _ pk 46 kR lN lN on1 rfl ?_; clear S; intro w S) | fail)
      refine ret_row rfl g4 79 _ (S.get pk) _ Tryd.underlying79 46 kR lN rfl rfl rfl ?_
      exact ⟨rfl, S.nil⟩
  | c =>
    obtain ⟨l, hl⟩ : ∃ l, l = x.records := ⟨_, rfl⟩
    obtain ⟨p, hp⟩ : ∃ p, p = x.count := ⟨_, rfl⟩
    show Calls Tryd.prog 70 #[.agg (rpL h vr vc).toArray, .iface 108 (.agg #[.int .u32 (x.count.toNat : Int), .slice ac nc cc])] w0 fun e w' => e = .returned (.agg (rpL { rpH h.kind h.code h.tick with count := x.count, records := x.records } nilV (.slice ac nc cc) ).toArray) ∧ Has w0 w' []
    rw [hz]
    rw [← hl, ← hp]
    clear hl hp
    obtain ⟨t1, t2, t3, t4, t5⟩ := sees_c p.toNat ac nc cc
    have D0 := Lib.hid d0; have D1 := Lib.hid d1; have D2 := Lib.hid d2; clear d0 d1 d2
    clear hz hk hc ht
    go_enter Tryd.func70, Tryd.ntmps70
    go_wp2_with (first | ((with_reducible refine iD 17 (.build 79 _) ?_); refine step_buildRp3 (.tmp 12) (.tmp 14) (.tmp 16) k c t rfl rfl rfl gw ?_) | ((with_reducible refine iD 2 (.box 79 (.tmp 0)) ?_); refine step_boxA (dst := some 2) S 79 (.tmp 0) _ rfl rfl ?_; clear S; intro g2 w S) | ((with_reducible refine iD 4 (.alloc 79) ?_); refine step_alloc (dst := some 4) S 79 (.agg ((rpL rpZ (.slice none 0 0) (.slice none 0 0)).toArray)) ((rpL rpZ (.slice none 0 0) (.slice none 0 0)).toArray) kR rfl rfl ?_; clear S; intro g4 w S) | ((with_reducible refine iO _ (.load 5 _) ?_); refine step_load1 5 _ _ _ rfl (cL) _ Tryd.underlying5 rfl rfl ?_) | ((with_reducible refine iO _ (.load 24 _) ?_); refine step_load1 24 _ _ _ rfl (cL) _ Tryd.underlying24 rfl rfl ?_) | ((with_reducible refine iO _ (.load 23 _) ?_); refine step_load1 23 _ _ _ rfl (cL) _ Tryd.underlying23 rfl rfl ?_) | ((with_reducible refine iD 5 (.alloc 79) ?_); refine step_alloc (dst := some 5) S 79 (.agg ((rpL rpZ (.slice none 0 0) (.slice none 0 0)).toArray)) ((rpL rpZ (.slice none 0 0) (.slice none 0 0)).toArray) kR rfl rfl ?_; clear S; intro g5 w S) | ((with_reducible refine iO none (.store 79 (.tmp 5) (.tmp 17)) ?_); refine step_store S 79 (.tmp 5) (.tmp 17) _ _ rfl rfl _ _ pk 46 kR lN lN on1 rfl ?_; clear S; intro w S) | ((with_reducible refine iD 9 (.alloc 108) ?_); refine step_alloc (dst := some 9) S 108 (.agg (#[.int .u32 0, .slice none 0 0])) (#[.int .u32 0, .slice none 0 0]) kR rfl rfl ?_; clear S; intro g9 w S) | ((with_reducible refine iO none (.store 108 (.tmp 9) (.tmp 44)) ?_); refine step_store S 108 (.tmp 9) (.tmp 44) _ _ rfl rfl _ _ pk 2 kR lN lN on1 rfl ?_; clear S; intro w S) | fail)
    have S := S.pick (r := blk g5 _) pk
    refine wp_relyW (e1 := noRes) 5 (S.pick (r := blk g5 _) pk) [sv [] (.pointer (some ⟨g9, 0, none⟩)), sv [0] (.int .u32 (p.toNat : Int)), sv [] (.pointer (some ⟨g9, 1, none⟩)), sv [2] (.slice ac nc cc), sv [0, 1] (.pointer (some ⟨g5, 8, none⟩)), ⟨[0, 1, 4], [], [], fun _ v => True, fun _ v => [blk g5 (.cells (rpL { rpH k c t with count := p } nilV nilV).toArray 79 (0, 0))]⟩, sv [0, 1, 2, 3, 4, 5] (.pointer (some ⟨g5, 9, none⟩)), ⟨[0, 1, 2, 3, 4, 5, 6], [5], [], fun _ v => True, fun _ v => [blk g5 (.cells (rpL { rpH k c t with count := p, records := l } nilV (.slice ac nc cc)).toArray 79 (0, 0))]⟩] ?A3 ?hA3 kR kR kR [0, 1, 2, 3, 4, 6, 7] kR (of_decide_eq_true rfl) ?hok3 ?fin3
    case hA3 => intro u; simp only [putAll, List.length_cons, List.length_nil, Nat.zero_add, Nat.reduceAdd, dstAt, List.getElem?_toArray, List.getElem?_cons_zero, List.getElem?_cons_succ, Option.bind_some, Act.put, List.setIfInBounds_toArray, List.set_cons_zero, List.set_cons_succ]; rfl
    case hok3 =>
      intro i hi
      obtain rfl | rfl | rfl | rfl | rfl | rfl | rfl | rfl : i = 0 ∨ i = 1 ∨ i = 2 ∨ i = 3 ∨ i = 4 ∨ i = 5 ∨ i = 6 ∨ i = 7 := by simp only [List.length_cons, List.length_nil, Nat.zero_add, Nat.reduceAdd] at hi; omega
      · rw [if_neg (by decide)]; intro r0; exact oP []
      · clear hi
        rw [if_neg (by decide)]; intro r0
        refine step_of rfl rfl rfl ?_
        intro u G w hf S
        have f0 : u 0 = .pointer (some ⟨g9, 0, none⟩) := hf 0 (by simp)
        simp only [fl, z4, z5, z6, z7, ptrBlk] at S ⊢
        simp only [f0]
        refine does_load1 38 (.tmp 45) _ _ rfl (S.cell (g := g9) pk co) _ Tryd.underlying38 rfl ?_; exact ⟨rfl, S⟩
      · rw [if_neg (by decide)]; intro r0; exact oP []
      · clear hi
        rw [if_neg (by decide)]; intro r0
        refine step_of rfl rfl rfl ?_
        intro u G w hf S
        have f2 : u 2 = .pointer (some ⟨g9, 1, none⟩) := hf 2 (by simp)
        simp only [fl, z4, z5, z6, z7, ptrBlk] at S ⊢
        simp only [f2]
        refine does_load1 31 (.tmp 47) _ _ rfl (S.cell (g := g9) pk co) _ Tryd.underlying31 rfl ?_; exact ⟨rfl, S⟩
      · rw [if_neg (by decide)]; intro r0; exact oP []
      · clear hi
        rw [if_pos rfl]
        refine step_ofW rfl rfl rfl ?_
        intro u G w hf S
        have f1 : u 1 = .int .u32 (p.toNat : Int) := hf 1 (by simp)
        have f4 : u 4 = .pointer (some ⟨g5, 8, none⟩) := hf 4 (by simp)
        simp only [fl, z4, z5, z6, z7, ptrBlk] at S ⊢
        simp only [f1, f4]
        refine does_store1 S 38 (.tmp 49) (.tmp 46) 8 (.int .u32 (p.toNat : Int)) rfl rfl kR rfl rfl (by rw [rpL_size]; decide) ?_; intro w1 S; rw [rpL_setN] at S; exact ⟨trivial, S.taken1⟩
      · rw [if_neg (by decide)]; intro r0; exact oP []
      · clear hi
        rw [if_neg (by decide)]; intro r0
        refine step_of rfl rfl rfl ?_
        intro u G w hf S
        have f3 : u 3 = .slice ac nc cc := hf 3 (by simp)
        have f6 : u 6 = .pointer (some ⟨g5, 9, none⟩) := hf 6 (by simp)
        simp only [fl, z4, z5, z6, z7, ptrBlk] at S ⊢
        simp only [f3, f6] at S ⊢
        try simp only [ptrBlk] at S
        refine does_store1 S 31 (.tmp 50) (.tmp 48) 9 (.slice ac nc cc) rfl rfl kR rfl rfl (by rw [rpL_size]; decide) ?_; intro w1 S; rw [rpL_setC k c t p _ l] at S; exact ⟨trivial, S⟩
    case fin3 =>
      intro u w hf S
      have hvA := allV hf
      simp only [AllV, RSpec.valAt, sv, Nat.zero_add, Nat.reduceAdd] at hvA
      simp only [fl, z4, z5, z6, z7, ptrBlk] at S
      clear hf
      simp only [List.length_cons, List.length_nil, Nat.zero_add, Nat.reduceAdd, List.drop_succ_cons, List.drop_zero, hvA]
      try simp only [hvA, ptrBlk] at S
      clear hvA
      go_wp2_with (first | ((with_reducible refine iO _ (.load 79 _) ?_); first | (refine step_load S 79 _ _ rfl _ _ _ pk _ Tryd.underlying79 rfl 46 kR lN rfl ?_) | (refine step_loadO 79 _ _ rfl _ _ _ (S.old_heap (Hid.out (by assumption))) _ Tryd.underlying79 rfl 46 kR lN rfl ?_) | (refine step_loadR 79 _ _ _ rfl _ (S.old_range hy) _ Tryd.underlying79 rfl 46 kR lN _ rfl rfl ?_)) | ((with_reducible refine iO none (.store 79 (.tmp 4) (.tmp 56)) ?_); refine step_store S 79 (.tmp 4) (.tmp 56) _ _ rfl rfl _ _ pk 46 kR lN lN on1 rfl ?_; clear S; intro w S) | fail)
      refine ret_row rfl g4 79 _ (S.get pk) _ Tryd.underlying79 46 kR lN rfl rfl rfl ?_
      exact ⟨rfl, S.nil⟩
  | t =>
    obtain ⟨u, hu⟩ : ∃ u, u = x.tok := ⟨_, rfl⟩
    show Calls Tryd.prog 70 #[.agg (rpL h vr vc).toArray, .iface 114 (.agg (tokL x.tok).toArray)] w0 fun e w' => e = .returned (.agg (rpL { rpH h.kind h.code h.tick with tok := x.tok } nilV nilV ).toArray) ∧ Has w0 w' []
    rw [hz]
    rw [← hu]
    clear hu
    obtain ⟨t1, t2, t3, t4, t5⟩ := sees_tv (tokL u).toArray
    have D0 := Lib.hid d0; have D1 := Lib.hid d1; have D2 := Lib.hid d2; clear d0 d1 d2
    clear hz hk hc ht
    go_enter Tryd.func70, Tryd.ntmps70
    go_wp2_with (first | ((with_reducible refine iD 17 (.build 79 _) ?_); refine step_buildRp3 (.tmp 12) (.tmp 14) (.tmp 16) k c t rfl rfl rfl gw ?_) | ((with_reducible refine iO none (.store 67 (.tmp 55) (.tmp 54)) ?_); refine step_storeP S 67 (.tmp 55) (.tmp 54) g5 10 (tokL u).toArray rfl rfl _ _ pk 36 kR (tokL_size _) (by rw [rpL_size]; decide) (tokL_one _) _ (rpL_setTok ..) gw ?_; clear S; intro w S) | ((with_reducible refine iD 2 (.box 79 (.tmp 0)) ?_); refine step_boxA (dst := some 2) S 79 (.tmp 0) _ rfl rfl ?_; clear S; intro g2 w S) | ((with_reducible refine iD 4 (.alloc 79) ?_); refine step_alloc (dst := some 4) S 79 (.agg ((rpL rpZ (.slice none 0 0) (.slice none 0 0)).toArray)) ((rpL rpZ (.slice none 0 0) (.slice none 0 0)).toArray) kR rfl rfl ?_; clear S; intro g4 w S) | ((with_reducible refine iO _ (.load 5 _) ?_); refine step_load1 5 _ _ _ rfl (cL) _ Tryd.underlying5 rfl rfl ?_) | ((with_reducible refine iO _ (.load 24 _) ?_); refine step_load1 24 _ _ _ rfl (cL) _ Tryd.underlying24 rfl rfl ?_) | ((with_reducible refine iO _ (.load 23 _) ?_); refine step_load1 23 _ _ _ rfl (cL) _ Tryd.underlying23 rfl rfl ?_) | ((with_reducible refine iD 5 (.alloc 79) ?_); refine step_alloc (dst := some 5) S 79 (.agg ((rpL rpZ (.slice none 0 0) (.slice none 0 0)).toArray)) ((rpL rpZ (.slice none 0 0) (.slice none 0 0)).toArray) kR rfl rfl ?_; clear S; intro g5 w S) | ((with_reducible refine iO none (.store 79 (.tmp 5) (.tmp 17)) ?_); refine step_store S 79 (.tmp 5) (.tmp 17) _ _ rfl rfl _ _ pk 46 kR lN lN on1 rfl ?_; clear S; intro w S) | ((with_reducible refine iD 10 (.alloc 114) ?_); refine step_alloc (dst := some 10) S 114 (.agg ((tokL tokZ).toArray)) ((tokL tokZ).toArray) kR rfl rfl ?_; clear S; intro g10 w S) | ((with_reducible refine iO none (.store 114 (.tmp 10) (.tmp 53)) ?_); refine step_store S 114 (.tmp 10) (.tmp 53) _ _ rfl rfl _ _ pk 36 kR lN lN on1 rfl ?_; clear S; intro w S) | ((with_reducible refine iO _ (.load 114 _) ?_); first | (refine step_load S 114 _ _ rfl _ _ _ pk _ Tryd.underlying114 rfl 36 kR lN rfl ?_) | (refine step_loadO 114 _ _ rfl _ _ _ (S.old_heap (Hid.out (by assumption))) _ Tryd.underlying114 rfl 36 kR lN rfl ?_) | (refine step_loadR 114 _ _ _ rfl _ (S.old_range hy) _ Tryd.underlying114 rfl 36 kR lN _ rfl rfl ?_)) | ((with_reducible refine iO _ (.load 79 _) ?_); first | (refine step_load S 79 _ _ rfl _ _ _ pk _ Tryd.underlying79 rfl 46 kR lN rfl ?_) | (refine step_loadO 79 _ _ rfl _ _ _ (S.old_heap (Hid.out (by assumption))) _ Tryd.underlying79 rfl 46 kR lN rfl ?_) | (refine step_loadR 79 _ _ _ rfl _ (S.old_range hy) _ Tryd.underlying79 rfl 46 kR lN _ rfl rfl ?_)) | ((with_reducible refine iO none (.store 79 (.tmp 4) (.tmp 56)) ?_); refine step_store S 79 (.tmp 4) (.tmp 56) _ _ rfl rfl _ _ pk 46 kR lN lN on1 rfl ?_; clear S; intro w S) | fail)
    refine ret_row rfl g4 79 _ (S.get pk) _ Tryd.underlying79 46 kR lN rfl rfl rfl ?_
    exact ⟨rfl, S.nil⟩
end Go.Proofs.YtfhkmmagpnojmaaDoor

/- The reply that is read: plain laws. No program, no condition. -/
namespace Go.Proofs.YtfhkmmagpnojmaaDoor
open Go.RowKit

def hdX (b : List UInt8) : Rp := rpH (b.getD 2 0) (i64N (atB b 3 2)) (UInt64.ofNat (atB b 5 8))
def rpX (b : List UInt8) : Rp := usK (bk (hdX b)) (hdX b) (rdX (bk (hdX b)) b 13)
theorem bk_hd (b : List UInt8) : bk (hdX b) = if atB b 3 2 ≠ 0 then .n else if b.getD 2 0 = 1 ∨ b.getD 2 0 = 16 then .o else if b.getD 2 0 = 3 then .s else if b.getD 2 0 = 4 then .w else if b.getD 2 0 = 5 then .c else if b.getD 2 0 = 18 then .t else .n := by
  unfold bk hdX rpH
  dsimp only
  rw [i2_at]
  by_cases h : atB b 3 2 = 0
  · have e1 : ¬ ((atB b 3 2 : Int) ≠ 0) := by omega
    have e2 : ¬ (atB b 3 2 ≠ 0) := by omega
    rw [if_neg e1, if_neg e2]
  · have e1 : (atB b 3 2 : Int) ≠ 0 := by omega
    have e2 : atB b 3 2 ≠ 0 := by omega
    rw [if_pos e1, if_pos e2]
theorem psz_rd (b : List UInt8) : psz b = 13 + rdZ (bk (hdX b)) b 13 := by
  rw [bk_hd]
  unfold psz
  congr 1
  repeat' split
  all_goals rfl
theorem rpX_rpP (b : List UInt8) (h : psz b = b.length) : rpX b = rpP b := by
  have hp := psz_rd b
  unfold rpX
  rw [bk_hd] at hp ⊢
  unfold rpP
  by_cases h0 : atB b 3 2 ≠ 0
  · simp only [if_pos h0]
    rfl
  · by_cases h1 : b.getD 2 0 = 1 ∨ b.getD 2 0 = 16
    · simp only [if_neg h0, if_pos h1]
      rfl
    · by_cases h3 : b.getD 2 0 = 3
      · simp only [if_neg h0, if_neg h1, if_pos h3]
        rfl
      · by_cases h4 : b.getD 2 0 = 4
        · simp only [if_neg h0, if_neg h1, if_neg h3, if_pos h4]
          rfl
        · by_cases h5 : b.getD 2 0 = 5
          · simp only [if_neg h0, if_neg h1, if_neg h3, if_neg h4, if_pos h5]
            rfl
          · by_cases h18 : b.getD 2 0 = 18
            · simp only [if_neg h0, if_neg h1, if_neg h3, if_neg h4, if_neg h5, if_pos h18] at hp ⊢
              have hl : b.length = 59 := by rw [← h, hp]; rfl
              rw [if_pos hl]
              have : (b.drop 13).take 46 = b.drop 13 := List.take_of_length_le (by rw [List.length_drop]; omega)
              show usK .t (hdX b) { rpZ with tok := decT ((b.drop 13).take 46) } = _
              rw [this]
              rfl
            · simp only [if_neg h0, if_neg h1, if_neg h3, if_neg h4, if_neg h5, if_neg h18]
              rfl
end Go.Proofs.YtfhkmmagpnojmaaDoor
