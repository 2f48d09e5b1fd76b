/- Several texts under one header: what the claim needs of RpY, RpI, Whl, Whl2, RpZ, DcP. No condition but those that each names. -/
import Derived.Test.YtfhkmmagpnojmaaDoorYE1
import Derived.Test.YtfhkmmagpnojmaaDoorYE15
import Derived.Test.YtfhkmmagpnojmaaDoorYE14
import Derived.Test.YtfhkmmagpnojmaaDoorYE12
import Derived.Test.YtfhkmmagpnojmaaDoorYE9
import Derived.Defers
import Derived.Recover
set_option linter.unusedSimpArgs false
set_option linter.unusedVariables false

/- EncodeReply. No condition but the reach. -/
namespace Go.Proofs.YtfhkmmagpnojmaaDoor
open Go.RowKit

def encRp (r : Rp) : List UInt8 := if rpV r = true then encP r else []
set_option maxRecDepth 100000 in
set_option maxHeartbeats 8000000 in
theorem encodeReply_s (r : Rp) (vr vc : Value) (w0 : World) (hvr : Sl w0 3 vr r.robots.length (r.robots.flatMap sgtL)) (hvc : Sl w0 35 vc r.records.length (r.records.flatMap rcdL)) :
    Calls Tryd.prog 38 #[.agg (rpL r vr vc).toArray] w0 (MadeE w0 (encRp r) (rpE r)) := by
  have S := Has.start w0
  have hck := fun w h1 h2 => checkReply_s r vr vc w h1 h2
  obtain ⟨ar, cr, rfl, _, _⟩ := Sl.shape hvr
  obtain ⟨ac, cc, rfl, _, _⟩ := Sl.shape hvc
  cases hv : rpV r with
  | false =>
    have hE : rpE r = 8 := if_neg (by rw [hv]; decide)
    have hX : encRp r = [] := if_neg (by rw [hv]; decide)
    rw [hE] at hck
    rw [hE, hX]
    obtain ⟨vr, hvr'⟩ : ∃ v, v = Value.slice ar r.robots.length cr := ⟨_, rfl⟩
    obtain ⟨vc, hvc'⟩ : ∃ v, v = Value.slice ac r.records.length cc := ⟨_, rfl⟩
    rw [← hvr'] at hck hvr ⊢
    rw [← hvc'] at hck hvc ⊢
    have HCK := Lib.hid hck; have HVR := Lib.hid hvr; have HVC := Lib.hid hvc; clear hck hvr hvc
    clear hE hX hv hvr' hvc'
    go_enter Tryd.func38, Tryd.ntmps38
    go_wp2_with (first | ((with_reducible refine iD 1 (.box 79 (.tmp 0)) ?_); refine step_boxA (dst := some 1) S 79 (.tmp 0) _ rfl gw ?_; clear S; intro g1 w S) | ((with_reducible refine iO _ (.load 79 _) ?_); first | (refine step_load S 79 _ _ rfl _ _ _ pk _ Tryd.underlying79 rfl 46 kR lN rfl ?_) | (refine step_loadO 79 _ _ rfl _ _ _ (S.old_heap (Hid.out (by assumption))) _ Tryd.underlying79 rfl 46 kR lN rfl ?_) | (refine step_loadR 79 _ _ _ rfl _ (S.old_range hy) _ Tryd.underlying79 rfl 46 kR lN _ rfl rfl ?_)) | (go_at_call 41; (with_reducible refine (HCK.out _ (S.old HVR.out) (S.old HVC.out)).mono ?_); rintro e w1 ⟨rfl, T⟩; replace S := S.call T; clear T; (try simp only [z4, z5] at S)) | fail)
    go_ret2
    exact ⟨_, rfl, (S.nil.nil8).sub (by repeat (first | exact Sub.nil _ | refine Sub.cons pk ?_))⟩
  | true =>
    have hE : rpE r = 0 := if_pos hv
    have hX : encRp r = encP r := if_pos hv
    rw [hE] at hck
    rw [hE, hX]
    have heq := rpV_eq r
    rw [hv] at heq
    have hb5 : decide (0 ≤ r.code.v ∧ r.code.v ≤ 65535) = true ∧ decide (r.tick.toNat ≤ 4611686018427387904) = true ∧ bkV (bk r) r = true := by
      have := heq.symm
      simp only [Bool.and_eq_true] at this
      exact ⟨this.1, this.2.2.1, this.2.2.2.1⟩
    obtain ⟨hc0, ht0, hbd⟩ := hb5
    have hc0 := of_decide_eq_true hc0
    have p0 := fun w => replyBody_s r ar ac r.robots.length cr r.records.length cc w
    obtain ⟨fw, aw, mv, p4⟩ := bodyWrite_s (bk r) r hbd ar ac r.robots.length cr r.records.length cc
    have hbl := rpBK_len (bk r) r hbd
    have hin : inP r = numB r.kind.toNat 1 ++ numB r.code.v.toNat 2 ++ numB r.tick.toNat 8 ++ rpBK (bk r) r := by unfold inP; rw [rpB_bk]
    unfold bodyV at p0
    have d0 := rpL_0 r (.slice ar r.robots.length cr) (.slice ac r.records.length cc)
    have d1 := rpL_1 r (.slice ar r.robots.length cr) (.slice ac r.records.length cc)
    have d2 := rpL_2 r (.slice ar r.robots.length cr) (.slice ac r.records.length cc)
    unfold encP
    rw [hin]
    obtain ⟨BB, hBB⟩ : ∃ B, B = rpBK (bk r) r := ⟨_, rfl⟩
    rw [← hBB] at p4 hbl ⊢
    obtain ⟨BV, hBV⟩ : ∃ B, B = bodyK (bk r) r (.slice ar r.robots.length cr) (.slice ac r.records.length cc) := ⟨_, rfl⟩
    rw [← hBV] at p0 mv
    have hkl := r.kind.toNat_lt
    have htl := r.tick.toNat_lt
    have p1 := fun g v w F S => wuint_i (r.kind.toNat : Int) r.kind.toNat rfl 1 1 rfl g v [] w0 w F S (by omega) (by decide) (by decide)
    rw [List.nil_append] at p1
    have l1 : (numB r.kind.toNat 1).length = 1 := numB_length _ _
    obtain ⟨X1, hX1⟩ : ∃ X, X = numB r.kind.toNat 1 := ⟨_, rfl⟩
    rw [← hX1] at p1 l1 ⊢
    have p2 := fun g v w F S => wuint_i r.code.v r.code.v.toNat (by omega) 2 2 rfl g v X1 w0 w F S (by omega) (by decide) (by omega)
    have l2 : (X1 ++ numB r.code.v.toNat 2).length = 3 := by rw [List.length_append, numB_length]; omega
    obtain ⟨X2, hX2⟩ : ∃ X, X = X1 ++ numB r.code.v.toNat 2 := ⟨_, rfl⟩
    rw [← hX2] at p2 l2 ⊢
    have p3 := fun g v w F S => wuint_i (r.tick.toNat : Int) r.tick.toNat rfl 8 8 rfl g v X2 w0 w F S (by omega) (by decide) (by omega)
    have l3 : (X2 ++ numB r.tick.toNat 8).length = 11 := by rw [List.length_append, numB_length]; omega
    obtain ⟨X3, hX3⟩ : ∃ X, X = X2 ++ numB r.tick.toNat 8 := ⟨_, rfl⟩
    rw [← hX3] at p3 l3 ⊢
    have l4 : (X3 ++ BB).length ≤ 1411 := by rw [List.length_append]; omega
    obtain ⟨X4, hX4⟩ : ∃ X, X = X3 ++ BB := ⟨_, rfl⟩
    have p5 := fun g v w h1 h2 => framed_s g v X4 w h1 h2 (by rw [hX4]; omega)
    rw [← hX4]
    have p4' := fun g v w F S h1 h2 => p4 g v X3 w0 w F S h1 h2 (by omega)
    rw [← hX4] at p4'
    have u1 : IntKind.u64.wrap (r.kind.toNat : Int) = (r.kind.toNat : Int) := by rw [IntKind.wrap_u64]; omega
    have u2 : IntKind.u64.wrap r.code.v = r.code.v := by rw [IntKind.wrap_u64]; omega
    obtain ⟨vr, hvr'⟩ : ∃ v, v = Value.slice ar r.robots.length cr := ⟨_, rfl⟩
    obtain ⟨vc, hvc'⟩ : ∃ v, v = Value.slice ac r.records.length cc := ⟨_, rfl⟩
    rw [← hvr'] at hck hvr p0 p4' d0 d1 d2 ⊢
    rw [← hvc'] at hck hvc p0 p4' d0 d1 d2 ⊢
    have D0 := Lib.hid d0; have D1 := Lib.hid d1; have D2 := Lib.hid d2; have HCK := Lib.hid hck; have HVR := Lib.hid hvr; have HVC := Lib.hid hvc; have P0 := Lib.hid p0; have P1 := Lib.hid p1; have P2 := Lib.hid p2; have P3 := Lib.hid p3; have P4' := Lib.hid p4'; have P5 := Lib.hid p5; have MV := Lib.hid mv; clear d0 d1 d2 hck hvr hvc p0 p1 p2 p3 p4' p5 mv
    clear hE hX hv hvr' hvc' heq hc0 ht0 hbd hbl hin hBB hBV hkl htl l1 l2 l3 l4 hX1 hX2 hX3 hX4 p4
    go_enter Tryd.func38, Tryd.ntmps38
    go_wp2_with (first | ((with_reducible refine iD 1 (.box 79 (.tmp 0)) ?_); refine step_boxA (dst := some 1) S 79 (.tmp 0) _ rfl gw ?_; clear S; intro g1 w S) | (go_at_call 48; (with_reducible refine (P1.out g12 (.slice none 0 0) _ _ (S.nil8.pick2 (r := wrt g12 (.slice none 0 0)) (s := row8 (.slice none 0 0) []) pk pk)).mono ?_); rintro e w1 ⟨rfl, v1, S1⟩; clear S; have S := S1; clear S1; have _t := P1; clear P1) | (go_at_call 48; (with_reducible refine (P2.out g12 v1 _ _ S).mono ?_); rintro e w1 ⟨rfl, v2, S1⟩; clear S; have S := S1; clear S1; have _t2 := P2; clear P2) | (go_at_call 48; (with_reducible refine (P3.out g12 v2 _ _ S).mono ?_); rintro e w1 ⟨rfl, v3, S1⟩; clear S; have S := S1; clear S1) | ((with_reducible refine iD 30 (.call _) ?_); refine step_inv (.tmp 28) "dunnage/wire.write" [.tmp 29] _ _ [.pointer (some ⟨g12, 0, none⟩)] fw _ rfl rfl (MV.out _ _) (P4'.out g12 v3 _ _ S HVR.out HVC.out) gw ?_; rintro e w1 ⟨rfl, v4, S1⟩; refine .inl ⟨_, rfl, ?_⟩; clear S; have S := S1; clear S1) | ((with_reducible refine iO _ (.load 79 _) ?_); first | (refine step_load S 79 _ _ rfl _ _ _ pk _ Tryd.underlying79 rfl 46 kR lN rfl ?_) | (refine step_loadO 79 _ _ rfl _ _ _ (S.old_heap (Hid.out (by assumption))) _ Tryd.underlying79 rfl 46 kR lN rfl ?_) | (refine step_loadR 79 _ _ _ rfl _ (S.old_range hy) _ Tryd.underlying79 rfl 46 kR lN _ rfl rfl ?_)) | (go_at_call 41; (with_reducible refine (HCK.out _ (S.old HVR.out) (S.old HVC.out)).mono ?_); rintro e w1 ⟨rfl, T⟩; replace S := S.call T; clear T; (try simp only [z4, z5] at S)) | ((with_reducible refine iD 11 (.build 104 _) ?_); refine step_buildZ 104 (.agg (#[.slice none 0 0])) (fun w => by kernel_rfl) rfl ?_) | ((with_reducible refine iD 12 (.box 104 (.tmp 11)) ?_); refine step_boxA (dst := some 12) S 104 (.tmp 11) _ rfl rfl ?_; clear S; intro g12 w S) | ((with_reducible refine iO _ (.load 5 _) ?_); refine step_load1 5 _ _ _ rfl (cL) _ Tryd.underlying5 rfl rfl ?_) | ((with_reducible refine iO _ (.load 24 _) ?_); refine step_load1 24 _ _ _ rfl (cL) _ Tryd.underlying24 rfl rfl ?_) | ((with_reducible refine iO _ (.load 23 _) ?_); refine step_load1 23 _ _ _ rfl (cL) _ Tryd.underlying23 rfl rfl ?_) | (go_at_call 68; (with_reducible refine (P0.out _).mono ?_); rintro e w1 ⟨rfl, T⟩; replace S := S.call T; clear T; (try simp only [z4, z5] at S)) | (go_at_call 58; (with_reducible refine (P5.out g12 v4 _ (S.cell (g := g12) pk rfl) (S.bs (xs := X4) pk)).mono ?_); rintro e w1 ⟨v5, rfl, T⟩; replace S := S.call T; clear T; (try simp only [z4, z5] at S)) | fail)
    go_ret2
    exact ⟨_, rfl, S.sub (by repeat (first | exact Sub.nil _ | refine Sub.cons pk ?_))⟩
end Go.Proofs.YtfhkmmagpnojmaaDoor

/- What an encoded reply reads as: plain laws. No program, no condition. -/
namespace Go.Proofs.YtfhkmmagpnojmaaDoor
open Go.RowKit

end Go.Proofs.YtfhkmmagpnojmaaDoor

/- whole: what it reads by a function that may panic, and its deferred closure. No condition but the reach. -/
namespace Go.Proofs.YtfhkmmagpnojmaaDoor
open Go.RowKit

abbrev bblk (g : Nat) (x : Bool) : Res := blk g (.cells #[.bool x] 4 (0, 0))
set_option maxRecDepth 100000 in
theorem catch_p (g : Nat) (x : Bool) (w0 w : World) (F : List Res) (S : Has w0 w (bblk g x :: F)) :
    CallsD Tryd.prog 83 #[.pointer (some ⟨g, 0, none⟩)] (.panicking [erl]) w fun e u' w' =>
      e = .returned (.tuple #[]) ∧ u' = .panicking [{ erl with recovered := true }] ∧ Has w0 w' (bblk g false :: F) := by
  have hg : w.heap[g]? = some (.cells #[.bool x] 4 (0, 0)) := S.holds (bblk g x) (by simp)
  have hc : w.cell? ⟨g, 0, none⟩ = some (.bool x) := by rw [cell_of_row w g 0 _ _ _ hg]; rfl
  have S2 := S.setCell (i := 0) (.bool false)
  have hz : w.frozen? ⟨g, 0, none⟩ = false := by
    simp [World.frozen?, hg]
  refine callsD_of_wpS Tryd.func83 rfl fun c₀ cs hu => ?_
  apply wpS_seq
  apply wpS_region
  simp [wpOpsS, go_sem, recoverD, hu, Tryd.ntmps83, Exit.thenS, erl]
  refine wpS_cond (t := true) (by simp [Act.eval, Array.replicate]) ?_
  simp only [if_true]
  apply wpS_region
  simp [wpOpsS, go_sem, hc, hz, bodyPostS, results, Tryd.results83]
  exact S2
set_option maxRecDepth 100000 in
theorem catch_i (g : Nat) (x : Bool) (w0 w : World) (F : List Res) (S : Has w0 w (bblk g x :: F)) :
    CallsD Tryd.prog 83 #[.pointer (some ⟨g, 0, none⟩)] .returning w fun e u' w' =>
      e = .returned (.tuple #[]) ∧ u' = .returning ∧ Has w0 w' (bblk g x :: F) := by
  refine callsD_of_wpS Tryd.func83 rfl fun c₀ cs hu => ?_
  apply wpS_seq
  apply wpS_region
  simp [wpOpsS, go_sem, recoverD, hu, Tryd.ntmps83, Exit.thenS]
  refine wpS_cond (t := false) (by simp [Act.eval, Array.replicate]) ?_
  simp only [Bool.false_eq_true, if_false]
  refine wpS_of_wp (wp_skip ?_)
  cases c₀
  simp_all [bodyPostS, results, Tryd.results83]
section
variable {P : Program} {ops : Array Oper} {rest : List Oper} {a : Act} {w : World} {Q : Exit → Act → World → Prop} {dst : Option Tmp} {ty : TypeId} {pos : String} {after : Array Edge} {gd : Option (Nat × Bool)}

/-- A function value is called, which may panic. -/
theorem step_callVP {R : Ending → World → Prop} (x : Operand) (xs : List Operand) (ts : Array TypeId) (f : FuncId) (fn : Func) (caps vs : List Value) (hx : a.eval x = .func (.func f) #[] caps.toArray) (hxs : xs.map a.eval = vs)
    (hf : P.funcs[f]? = some fn) (hn : (fn.name == "runtime.NumGoroutine") = false) (hb : fn.body.isNone = false) (hc : Calls P f (vs ++ caps).toArray w R)
    (hw : Region.wanted ⟨dst, .call { callee := .value x, args := xs.toArray, argTypes := ts }, ty, pos, after, gd⟩ (yielded ops a.tmps) = true)
    (h : ∀ e w', R e w' → (∃ v, e = .returned v ∧ wpList P ops Q rest (a.put dst v) w') ∨ (∃ c, e = .panicked c ∧ Q (.panic c) a w')) : wpList P ops Q (⟨dst, .call { callee := .value x, args := xs.toArray, argTypes := ts }, ty, pos, after, gd⟩ :: rest) a w := by
  subst hxs
  have hrun : (execOp a.eval ⟨dst, .call { callee := .value x, args := xs.toArray, argTypes := ts }, ty, pos, after, gd⟩).run P w = .ok (.enter f (xs.map a.eval ++ caps).toArray) w := by
    obtain ⟨b, hb'⟩ : ∃ b, fn.body = some b := by
      cases h : fn.body with
      | none => rw [h] at hb; cases hb
      | some b => exact ⟨b, rfl⟩
    have hn' : ¬ fn.name = "runtime.NumGoroutine" := by simpa using hn
    simp [execOp, resolve, hx, Deferred.ofValue, invoke, callFunc, hf, hn', hb', Result.andThen]
  refine wpList_step fun K hK => ?_
  rw [if_pos hw]
  unfold Oper.wp
  rw [hrun, Oper.upon_enter]
  refine hc.mono fun e w' he => ?_
  rcases h e w' he with ⟨v, rfl, hp⟩ | ⟨c, rfl, hp⟩
  · exact hK _ _ hp
  · exact hp
end

/-- What a function that reads leaves. -/
def ReadF (w0 : World) (g : Nat) (bv : Value) (fit : Prop) (N : Nat) (F1 : List Res) (FB : Array Value → List Res) (G : List Res) (e : Ending) (w' : World) : Prop :=
  (fit ∧ e = .returned (.tuple #[]) ∧ Has w0 w' (rdr g bv N :: (F1 ++ G))) ∨ (¬ fit ∧ e = .panicked [erl] ∧ ∃ q cs, Has w0 w' (rdr g bv q :: (FB cs ++ G)))
set_option maxRecDepth 100000 in
set_option maxHeartbeats 8000000 in
theorem whole_s (bv : Value) (b : List UInt8) (f : FuncId) (fn : Func) (caps : List Value) (w0 w1 : World) (r : Res) (G0 : List Res) (S : Has w0 w1 (r :: G0)) (hb : Bs w0 bv b) (h2 : 2 ≤ b.length) (hl : b.length ≤ 140737488355328)
    (hf : Tryd.prog.funcs[f]? = some fn) (hn : (fn.name == "runtime.NumGoroutine") = false) (hbd : fn.body.isNone = false) (fit : Prop) [Decidable fit] (N : Nat) (F1 : List Res) (FB : Array Value → List Res)
    (hr : ∀ g w G, Has w0 w (rdr g bv 2 :: r :: G) → Calls Tryd.prog f ([Value.pointer (some ⟨g, 0, none⟩)] ++ caps).toArray w (ReadF w0 g bv fit N F1 FB G)) :
    Calls Tryd.prog 59 #[bv, .func (.func f) #[] caps.toArray] w1 fun e w' =>
      (fit ∧ e = .returned (.bool (decide (val (b.take 2) = b.length ∧ N = b.length))) ∧ Has w0 w' (F1 ++ G0)) ∨ (¬ fit ∧ e = .returned (.bool false) ∧ ∃ cs, Has w0 w' (FB cs ++ G0)) := by
  obtain ⟨a0, c0, rfl, k1, k2⟩ := Sl.shape hb
  unfold maxLen at k2
  have p1 := fun g w F S => ruint_i 2 2 rfl g (.slice a0 b.length c0) b 0 w0 w F S hb (by decide) (by decide) (by omega) hl
  have e1 : atB b 0 2 = val (b.take 2) := by rw [atB_fit b 0 2 (by omega), List.drop_zero]
  rw [e1] at p1
  have hv := val_lt (b.take 2)
  rw [List.length_take, Nat.min_eq_left h2] at hv
  obtain ⟨n, hn2⟩ : ∃ n, n = val (b.take 2) := ⟨_, rfl⟩
  rw [← hn2] at p1 hv ⊢
  have P1 := Lib.hid p1; have HR := Lib.hid hr; have HF := Lib.hid hf; have HN := Lib.hid hn; have HBD := Lib.hid hbd; have HB := Lib.hid hb; clear p1 hr hf hn hbd hb
  clear e1 hn2
  by_cases hnb : n = b.length
  · have i1 : ((n : Int) == (b.length : Int)) = true := by rw [beq_iff_eq]; omega
    have i2 : ((N : Int) == (b.length : Int)) = decide (n = b.length ∧ N = b.length) := by rw [Bool.eq_iff_iff, beq_iff_eq, decide_eq_true_eq]; omega
    have I2 := Lib.hid i2; clear i2
    clear hnb
    go_enter_defers Tryd.func59, Tryd.ntmps59
    go_wp2_with (first | (go_at_call 61; have S0 : Has w0 _ (rdr g10 (.slice a0 b.length c0) 0 :: bblk g4 false :: r :: G0) := S; (with_reducible refine (P1.out g10 _ _ S0).mono ?_); rintro e w1 (⟨hf1, rfl, S1⟩ | ⟨hf1, rfl, S1⟩); rotate_left; exact (by omega : False).elim; clear S S0; have S : Has w0 w1 (rdr g10 (.slice a0 b.length c0) 2 :: r :: bblk g4 false :: G0) := S1.perm (List.Perm.cons _ (List.Perm.swap _ _ _)); clear S1) | ((with_reducible refine iD 15 (.call _) ?_); refine step_callVP (.tmp 13) [.tmp 14] _ f fn caps [.pointer (some ⟨g10, 0, none⟩)] rfl rfl HF.out HN.out HBD.out (HR.out g10 _ _ S) gw ?_; rintro e w1 (⟨hft, rfl, S1⟩ | ⟨hft, rfl, q, cs, S1⟩); (refine .inl ⟨_, rfl, ?_⟩; clear S; have S : Has w0 w1 (rdr g10 (.slice a0 b.length c0) N :: bblk g4 false :: (F1 ++ G0)) := S1.perm (List.Perm.cons _ List.perm_middle); clear S1); rotate_left; (refine .inr ⟨_, rfl, ?_⟩; clear S; have S : Has w0 w1 (bblk g4 false :: (FB cs ++ G0)) := S1.tail.perm List.perm_middle; clear S1); rotate_left) | ((with_reducible refine iD 4 (.alloc 4) ?_); refine step_alloc (dst := some 4) S 4 (.bool false) (#[.bool false]) kR rfl gw ?_; clear S; intro g4 w S) | ((with_reducible refine iD 7 (.makeFunc _ _ _) ?_); refine step_makeF _ [.tmp 4] [.pointer (some ⟨g4, 0, none⟩)] rfl gw ?_) | ((with_reducible refine iD 10 (.box 154 (.tmp 9)) ?_); refine step_boxA (dst := some 10) S 154 (.tmp 9) _ rfl gw ?_; clear S; intro g10 w S) | ((with_reducible refine iO _ (.load 3 _) ?_); refine step_load1 3 _ _ _ rfl (cL) _ Tryd.underlying3 rfl gw ?_) | ((with_reducible refine iO none (.store 4 (.tmp 4) (.tmp 29)) ?_); refine step_store1 S 4 (.tmp 4) (.tmp 29) _ _ (.bool _) rfl rfl _ _ pk kR kR rfl lN gw ?_; clear S; intro w S; try simp only [List.setIfInBounds_toArray, List.set_cons_zero, List.set_cons_succ] at S) | fail)
    · refine leaves_cons (f := 83) (args := #[.pointer (some ⟨g4, 0, none⟩)]) (by simp) (by simp [go_sem]) ?_
      refine (catch_i g4 _ w0 _ _ (S.pick (r := bblk g4 ((N : Int) == (b.length : Int))) pk)).mono ?_
      rintro e u1 w2 ⟨rfl, rfl, S1⟩
      have hc : w2.cell? ⟨g4, 0, none⟩ = some (.bool ((N : Int) == (b.length : Int))) := S1.cell (g := g4) (Pick.head _ _) rfl
      refine ⟨.bool ((N : Int) == (b.length : Int)), by simp [results, Tryd.results59, go_sem, hc], .inl ⟨hft, ?_, S1.tail.tail⟩⟩
      rw [I2.out]
    · refine leaves_cons (f := 83) (args := #[.pointer (some ⟨g4, 0, none⟩)]) (by simp) (by simp [go_sem]) ?_
      refine (catch_p g4 _ w0 _ _ S).mono ?_
      rintro e u1 w2 ⟨rfl, rfl, S1⟩
      have hc : w2.cell? ⟨g4, 0, none⟩ = some (.bool false) := S1.cell (g := g4) (Pick.head _ _) rfl
      refine ⟨.bool false, by simp [results, Tryd.results59, go_sem, hc], .inr ⟨hft, rfl, cs, S1.tail⟩⟩
  · have i1 : ((n : Int) == (b.length : Int)) = false := by rw [beq_eq_false_iff_ne]; omega
    have i2 : false = decide (n = b.length ∧ N = b.length) := (decide_eq_false (fun h => hnb h.1)).symm
    have I2 := Lib.hid i2; clear i2
    clear hnb
    go_enter_defers Tryd.func59, Tryd.ntmps59
    go_wp2_with (first | (go_at_call 61; have S0 : Has w0 _ (rdr g10 (.slice a0 b.length c0) 0 :: bblk g4 false :: r :: G0) := S; (with_reducible refine (P1.out g10 _ _ S0).mono ?_); rintro e w1 (⟨hf1, rfl, S1⟩ | ⟨hf1, rfl, S1⟩); rotate_left; exact (by omega : False).elim; clear S S0; have S : Has w0 w1 (rdr g10 (.slice a0 b.length c0) 2 :: r :: bblk g4 false :: G0) := S1.perm (List.Perm.cons _ (List.Perm.swap _ _ _)); clear S1) | ((with_reducible refine iD 15 (.call _) ?_); refine step_callVP (.tmp 13) [.tmp 14] _ f fn caps [.pointer (some ⟨g10, 0, none⟩)] rfl rfl HF.out HN.out HBD.out (HR.out g10 _ _ S) gw ?_; rintro e w1 (⟨hft, rfl, S1⟩ | ⟨hft, rfl, q, cs, S1⟩); (refine .inl ⟨_, rfl, ?_⟩; clear S; have S : Has w0 w1 (rdr g10 (.slice a0 b.length c0) N :: bblk g4 false :: (F1 ++ G0)) := S1.perm (List.Perm.cons _ List.perm_middle); clear S1); rotate_left; (refine .inr ⟨_, rfl, ?_⟩; clear S; have S : Has w0 w1 (bblk g4 false :: (FB cs ++ G0)) := S1.tail.perm List.perm_middle; clear S1); rotate_left) | ((with_reducible refine iD 4 (.alloc 4) ?_); refine step_alloc (dst := some 4) S 4 (.bool false) (#[.bool false]) kR rfl gw ?_; clear S; intro g4 w S) | ((with_reducible refine iD 7 (.makeFunc _ _ _) ?_); refine step_makeF _ [.tmp 4] [.pointer (some ⟨g4, 0, none⟩)] rfl gw ?_) | ((with_reducible refine iD 10 (.box 154 (.tmp 9)) ?_); refine step_boxA (dst := some 10) S 154 (.tmp 9) _ rfl gw ?_; clear S; intro g10 w S) | ((with_reducible refine iO none (.store 4 (.tmp 4) (.tmp 29)) ?_); refine step_store1 S 4 (.tmp 4) (.tmp 29) _ _ (.bool _) rfl rfl _ _ pk kR kR rfl lN gw ?_; clear S; intro w S; try simp only [List.setIfInBounds_toArray, List.set_cons_zero, List.set_cons_succ] at S) | fail)
    · refine leaves_cons (f := 83) (args := #[.pointer (some ⟨g4, 0, none⟩)]) (by simp) (by simp [go_sem]) ?_
      refine (catch_i g4 _ w0 _ _ (S.pick (r := bblk g4 false) pk)).mono ?_
      rintro e u1 w2 ⟨rfl, rfl, S1⟩
      have hc : w2.cell? ⟨g4, 0, none⟩ = some (.bool false) := S1.cell (g := g4) (Pick.head _ _) rfl
      refine ⟨.bool false, by simp [results, Tryd.results59, go_sem, hc], .inl ⟨hft, ?_, S1.tail.tail⟩⟩
      rw [I2.out]
    · refine leaves_cons (f := 83) (args := #[.pointer (some ⟨g4, 0, none⟩)]) (by simp) (by simp [go_sem]) ?_
      refine (catch_p g4 _ w0 _ _ S).mono ?_
      rintro e u1 w2 ⟨rfl, rfl, S1⟩
      have hc : w2.cell? ⟨g4, 0, none⟩ = some (.bool false) := S1.cell (g := g4) (Pick.head _ _) rfl
      refine ⟨.bool false, by simp [results, Tryd.results59, go_sem, hc], .inr ⟨hft, rfl, cs, S1.tail⟩⟩
end Go.Proofs.YtfhkmmagpnojmaaDoor

/- whole, with things that are not known beforehand. No condition but the reach. -/
namespace Go.Proofs.YtfhkmmagpnojmaaDoor
open Go.RowKit

/-- What a function that reads leaves. -/
def ReadF2 {α : Type} (w0 : World) (g : Nat) (bv : Value) (fit : Prop) (N : Nat) (F1 : α → List Res) (FB : Array Value → List Res) (G : List Res) (e : Ending) (w' : World) : Prop :=
  (fit ∧ e = .returned (.tuple #[]) ∧ ∃ z, Has w0 w' (rdr g bv N :: (F1 z ++ G))) ∨ (¬ fit ∧ e = .panicked [erl] ∧ ∃ q cs, Has w0 w' (rdr g bv q :: (FB cs ++ G)))
set_option maxRecDepth 100000 in
set_option maxHeartbeats 8000000 in
theorem whole2_s {α : Type} (bv : Value) (b : List UInt8) (f : FuncId) (fn : Func) (caps : List Value) (w0 w1 : World) (r : Res) (G0 : List Res) (S : Has w0 w1 (r :: G0)) (hb : Bs w0 bv b) (h2 : 2 ≤ b.length) (hl : b.length ≤ 140737488355328)
    (hf : Tryd.prog.funcs[f]? = some fn) (hn : (fn.name == "runtime.NumGoroutine") = false) (hbd : fn.body.isNone = false) (fit : Prop) [Decidable fit] (N : Nat) (F1 : α → List Res) (FB : Array Value → List Res)
    (hr : ∀ g w G, Has w0 w (rdr g bv 2 :: r :: G) → Calls Tryd.prog f ([Value.pointer (some ⟨g, 0, none⟩)] ++ caps).toArray w (ReadF2 w0 g bv fit N F1 FB G)) :
    Calls Tryd.prog 59 #[bv, .func (.func f) #[] caps.toArray] w1 fun e w' =>
      (fit ∧ e = .returned (.bool (decide (val (b.take 2) = b.length ∧ N = b.length))) ∧ ∃ z, Has w0 w' (F1 z ++ G0)) ∨ (¬ fit ∧ e = .returned (.bool false) ∧ ∃ cs, Has w0 w' (FB cs ++ G0)) := by
  obtain ⟨a0, c0, rfl, k1, k2⟩ := Sl.shape hb
  unfold maxLen at k2
  have p1 := fun g w F S => ruint_i 2 2 rfl g (.slice a0 b.length c0) b 0 w0 w F S hb (by decide) (by decide) (by omega) hl
  have e1 : atB b 0 2 = val (b.take 2) := by rw [atB_fit b 0 2 (by omega), List.drop_zero]
  rw [e1] at p1
  have hv := val_lt (b.take 2)
  rw [List.length_take, Nat.min_eq_left h2] at hv
  obtain ⟨n, hn2⟩ : ∃ n, n = val (b.take 2) := ⟨_, rfl⟩
  rw [← hn2] at p1 hv ⊢
  have P1 := Lib.hid p1; have HR := Lib.hid hr; have HF := Lib.hid hf; have HN := Lib.hid hn; have HBD := Lib.hid hbd; have HB := Lib.hid hb; clear p1 hr hf hn hbd hb
  clear e1 hn2
  by_cases hnb : n = b.length
  · have i1 : ((n : Int) == (b.length : Int)) = true := by rw [beq_iff_eq]; omega
    have i2 : ((N : Int) == (b.length : Int)) = decide (n = b.length ∧ N = b.length) := by rw [Bool.eq_iff_iff, beq_iff_eq, decide_eq_true_eq]; omega
    have I2 := Lib.hid i2; clear i2
    clear hnb
    go_enter_defers Tryd.func59, Tryd.ntmps59
    go_wp2_with (first | (go_at_call 61; have S0 : Has w0 _ (rdr g10 (.slice a0 b.length c0) 0 :: bblk g4 false :: r :: G0) := S; (with_reducible refine (P1.out g10 _ _ S0).mono ?_); rintro e w1 (⟨hf1, rfl, S1⟩ | ⟨hf1, rfl, S1⟩); rotate_left; exact (by omega : False).elim; clear S S0; have S : Has w0 w1 (rdr g10 (.slice a0 b.length c0) 2 :: r :: bblk g4 false :: G0) := S1.perm (List.Perm.cons _ (List.Perm.swap _ _ _)); clear S1) | ((with_reducible refine iD 15 (.call _) ?_); refine step_callVP (.tmp 13) [.tmp 14] _ f fn caps [.pointer (some ⟨g10, 0, none⟩)] rfl rfl HF.out HN.out HBD.out (HR.out g10 _ _ S) gw ?_; rintro e w1 (⟨hft, rfl, z, S1⟩ | ⟨hft, rfl, q, cs, S1⟩); (refine .inl ⟨_, rfl, ?_⟩; clear S; have S : Has w0 w1 (rdr g10 (.slice a0 b.length c0) N :: bblk g4 false :: (F1 z ++ G0)) := S1.perm (List.Perm.cons _ List.perm_middle); clear S1); rotate_left; (refine .inr ⟨_, rfl, ?_⟩; clear S; have S : Has w0 w1 (bblk g4 false :: (FB cs ++ G0)) := S1.tail.perm List.perm_middle; clear S1); rotate_left) | ((with_reducible refine iD 4 (.alloc 4) ?_); refine step_alloc (dst := some 4) S 4 (.bool false) (#[.bool false]) kR rfl gw ?_; clear S; intro g4 w S) | ((with_reducible refine iD 7 (.makeFunc _ _ _) ?_); refine step_makeF _ [.tmp 4] [.pointer (some ⟨g4, 0, none⟩)] rfl gw ?_) | ((with_reducible refine iD 10 (.box 154 (.tmp 9)) ?_); refine step_boxA (dst := some 10) S 154 (.tmp 9) _ rfl gw ?_; clear S; intro g10 w S) | ((with_reducible refine iO _ (.load 3 _) ?_); refine step_load1 3 _ _ _ rfl (cL) _ Tryd.underlying3 rfl gw ?_) | ((with_reducible refine iO none (.store 4 (.tmp 4) (.tmp 29)) ?_); refine step_store1 S 4 (.tmp 4) (.tmp 29) _ _ (.bool _) rfl rfl _ _ pk kR kR rfl lN gw ?_; clear S; intro w S; try simp only [List.setIfInBounds_toArray, List.set_cons_zero, List.set_cons_succ] at S) | fail)
    · refine leaves_cons (f := 83) (args := #[.pointer (some ⟨g4, 0, none⟩)]) (by simp) (by simp [go_sem]) ?_
      refine (catch_i g4 _ w0 _ _ (S.pick (r := bblk g4 ((N : Int) == (b.length : Int))) pk)).mono ?_
      rintro e u1 w2 ⟨rfl, rfl, S1⟩
      have hc : w2.cell? ⟨g4, 0, none⟩ = some (.bool ((N : Int) == (b.length : Int))) := S1.cell (g := g4) (Pick.head _ _) rfl
      refine ⟨.bool ((N : Int) == (b.length : Int)), by simp [results, Tryd.results59, go_sem, hc], .inl ⟨hft, ?_, z, S1.tail.tail⟩⟩
      rw [I2.out]
    · refine leaves_cons (f := 83) (args := #[.pointer (some ⟨g4, 0, none⟩)]) (by simp) (by simp [go_sem]) ?_
      refine (catch_p g4 _ w0 _ _ S).mono ?_
      rintro e u1 w2 ⟨rfl, rfl, S1⟩
      have hc : w2.cell? ⟨g4, 0, none⟩ = some (.bool false) := S1.cell (g := g4) (Pick.head _ _) rfl
      refine ⟨.bool false, by simp [results, Tryd.results59, go_sem, hc], .inr ⟨hft, rfl, cs, S1.tail⟩⟩
  · have i1 : ((n : Int) == (b.length : Int)) = false := by rw [beq_eq_false_iff_ne]; omega
    have i2 : false = decide (n = b.length ∧ N = b.length) := (decide_eq_false (fun h => hnb h.1)).symm
    have I2 := Lib.hid i2; clear i2
    clear hnb
    go_enter_defers Tryd.func59, Tryd.ntmps59
    go_wp2_with (first | (go_at_call 61; have S0 : Has w0 _ (rdr g10 (.slice a0 b.length c0) 0 :: bblk g4 false :: r :: G0) := S; (with_reducible refine (P1.out g10 _ _ S0).mono ?_); rintro e w1 (⟨hf1, rfl, S1⟩ | ⟨hf1, rfl, S1⟩); rotate_left; exact (by omega : False).elim; clear S S0; have S : Has w0 w1 (rdr g10 (.slice a0 b.length c0) 2 :: r :: bblk g4 false :: G0) := S1.perm (List.Perm.cons _ (List.Perm.swap _ _ _)); clear S1) | ((with_reducible refine iD 15 (.call _) ?_); refine step_callVP (.tmp 13) [.tmp 14] _ f fn caps [.pointer (some ⟨g10, 0, none⟩)] rfl rfl HF.out HN.out HBD.out (HR.out g10 _ _ S) gw ?_; rintro e w1 (⟨hft, rfl, z, S1⟩ | ⟨hft, rfl, q, cs, S1⟩); (refine .inl ⟨_, rfl, ?_⟩; clear S; have S : Has w0 w1 (rdr g10 (.slice a0 b.length c0) N :: bblk g4 false :: (F1 z ++ G0)) := S1.perm (List.Perm.cons _ List.perm_middle); clear S1); rotate_left; (refine .inr ⟨_, rfl, ?_⟩; clear S; have S : Has w0 w1 (bblk g4 false :: (FB cs ++ G0)) := S1.tail.perm List.perm_middle; clear S1); rotate_left) | ((with_reducible refine iD 4 (.alloc 4) ?_); refine step_alloc (dst := some 4) S 4 (.bool false) (#[.bool false]) kR rfl gw ?_; clear S; intro g4 w S) | ((with_reducible refine iD 7 (.makeFunc _ _ _) ?_); refine step_makeF _ [.tmp 4] [.pointer (some ⟨g4, 0, none⟩)] rfl gw ?_) | ((with_reducible refine iD 10 (.box 154 (.tmp 9)) ?_); refine step_boxA (dst := some 10) S 154 (.tmp 9) _ rfl gw ?_; clear S; intro g10 w S) | ((with_reducible refine iO none (.store 4 (.tmp 4) (.tmp 29)) ?_); refine step_store1 S 4 (.tmp 4) (.tmp 29) _ _ (.bool _) rfl rfl _ _ pk kR kR rfl lN gw ?_; clear S; intro w S; try simp only [List.setIfInBounds_toArray, List.set_cons_zero, List.set_cons_succ] at S) | fail)
    · refine leaves_cons (f := 83) (args := #[.pointer (some ⟨g4, 0, none⟩)]) (by simp) (by simp [go_sem]) ?_
      refine (catch_i g4 _ w0 _ _ (S.pick (r := bblk g4 false) pk)).mono ?_
      rintro e u1 w2 ⟨rfl, rfl, S1⟩
      have hc : w2.cell? ⟨g4, 0, none⟩ = some (.bool false) := S1.cell (g := g4) (Pick.head _ _) rfl
      refine ⟨.bool false, by simp [results, Tryd.results59, go_sem, hc], .inl ⟨hft, ?_, z, S1.tail.tail⟩⟩
      rw [I2.out]
    · refine leaves_cons (f := 83) (args := #[.pointer (some ⟨g4, 0, none⟩)]) (by simp) (by simp [go_sem]) ?_
      refine (catch_p g4 _ w0 _ _ S).mono ?_
      rintro e u1 w2 ⟨rfl, rfl, S1⟩
      have hc : w2.cell? ⟨g4, 0, none⟩ = some (.bool false) := S1.cell (g := g4) (Pick.head _ _) rfl
      refine ⟨.bool false, by simp [results, Tryd.results59, go_sem, hc], .inr ⟨hft, rfl, cs, S1.tail⟩⟩
end Go.Proofs.YtfhkmmagpnojmaaDoor

/- The closure of DecodeReply. No condition but the reach. -/
namespace Go.Proofs.YtfhkmmagpnojmaaDoor
open Go.RowKit

theorem rpL_setK0 (k : UInt8) : (rpL rpZ nilV nilV).toArray.setIfInBounds 0 (.int .u8 (k.toNat : Int)) = (rpL (rpH k i64Z 0) nilV nilV).toArray := rfl
theorem rpL_setC1 (k : UInt8) (c : I64) : (rpL (rpH k i64Z 0) nilV nilV).toArray.setIfInBounds 1 (.int .i64 c.v) = (rpL (rpH k c 0) nilV nilV).toArray := rfl
theorem rpL_setT2 (k : UInt8) (c : I64) (t : UInt64) : (rpL (rpH k c 0) nilV nilV).toArray.setIfInBounds 2 (.int .u64 (t.toNat : Int)) = (rpL (rpH k c t) nilV nilV).toArray := rfl
/-- The slices in a body. -/
def bdR (q : BK) (v : Value) : Value := match q, v with | .w, .iface _ (.agg cs) => cs.getD 0 undef | _, _ => nilV
def bdC (q : BK) (v : Value) : Value := match q, v with | .c, .iface _ (.agg cs) => cs.getD 1 undef | _, _ => nilV
theorem bdR_eq (q : BK) (r : Rp) (u v : Value) : bdR q (bodyK q r u v) = vrK q u := by cases q <;> rfl
theorem bdC_eq (q : BK) (r : Rp) (u v : Value) : bdC q (bodyK q r u v) = vcK q v := by cases q <;> rfl
theorem Has.taken3 {w0 w : World} {r s t : Res} {l : List Res} (S : Has w0 w (r :: s :: t :: l)) : Has w0 w (r :: s :: t :: noRes :: l) :=
  S.unit.perm (List.perm_append_comm (l₁ := [noRes]) (l₂ := [r, s, t]) |>.append_right l)
/-- What is known of the body that was read. -/
def RdV (q : BK) (Y : Rp) (n N : Nat) (v : Value) : Prop := n ≤ N ∧ ∃ ar nr cr ac nc cc, v = bodyK q Y (.slice ar nr cr) (.slice ac nc cc)
theorem RdV.one {q : BK} {Y : Rp} {n N : Nat} {v : Value} (h : RdV q Y n N v) : (bdR q v).oneCell' = true ∧ (bdC q v).oneCell' = true := by
  obtain ⟨_, ar, nr, cr, ac, nc, cc, rfl⟩ := h
  cases q <;> exact ⟨rfl, rfl⟩
theorem ReadQ.rows {w0 : World} {g : Nat} {bv : Value} {b : List UInt8} {p : Nat} {q : BK} {F : List Res} {e : Ending} {w' : World} (h : ReadQ w0 g bv b p q F e w') :
    (p + rdZ q b p ≤ b.length ∧ ∃ ar nr cr ac nc cc, e = .returned (bodyK q (rdX q b p) (.slice ar nr cr) (.slice ac nc cc)) ∧ Has w0 w' (rdr g bv (p + rdZ q b p) :: rowSg (vrK q (.slice ar nr cr)) (rdX q b p).robots :: rowRc (vcK q (.slice ac nc cc)) (rdX q b p).records :: F)) ∨
    (b.length < p + rdZ q b p ∧ e = .panicked [erl] ∧ ∃ q', Has w0 w' (rdr g bv q' :: F)) := by
  rcases h with ⟨h1, ar, nr, cr, ac, nc, cc, h2, h3⟩ | h
  · refine .inl ⟨h1, ar, nr, cr, ac, nc, cc, h2, ?_⟩
    cases q with
    | w => exact (h3.drop (Pick.tail (Pick.tail (Pick.head _ _)))).nilRc1
    | c => exact (h3.drop (Pick.tail (Pick.head _ _))).nilSg1
    | n => exact ((h3.drop (Pick.tail (Pick.head _ _))).drop (Pick.tail (Pick.head _ _))).nilSgRc
    | o => exact ((h3.drop (Pick.tail (Pick.head _ _))).drop (Pick.tail (Pick.head _ _))).nilSgRc
    | s => exact ((h3.drop (Pick.tail (Pick.head _ _))).drop (Pick.tail (Pick.head _ _))).nilSgRc
    | t => exact ((h3.drop (Pick.tail (Pick.head _ _))).drop (Pick.tail (Pick.head _ _))).nilSgRc
  · exact .inr h
set_option maxRecDepth 100000 in
set_option maxHeartbeats 8000000 in
theorem decClosP_s (g go : Nat) (bv : Value) (b : List UInt8) (w0 w1 : World) (F : List Res) (S : Has w0 w1 (rdr g bv 2 :: blk go (.cells (rpL rpZ nilV nilV).toArray 79 (0, 0)) :: F)) (hb : Bs w0 bv b) (h13 : 13 ≤ b.length) (hl : b.length ≤ 140737488355328) :
    Calls Tryd.prog 69 #[.pointer (some ⟨g, 0, none⟩), .pointer (some ⟨go, 0, none⟩)] w1 fun e w' =>
      (psz b ≤ b.length ∧ e = .returned (.tuple #[]) ∧ ∃ z : Value × Value, Has w0 w' (rdr g bv (psz b) :: blk go (.cells (rpL (rpX b) z.1 z.2).toArray 79 (0, 0)) :: rowSg z.1 (rpX b).robots :: rowRc z.2 (rpX b).records :: F)) ∨
      (b.length < psz b ∧ e = .panicked [erl] ∧ ∃ q cs, Has w0 w' (rdr g bv q :: blk go (.cells cs 79 (0, 0)) :: F)) := by
  have p1 := fun w F S => ruint_i 1 1 rfl g bv b 2 w0 w F S hb (by decide) (by decide) (by omega) hl
  have p2 := fun w F S => ruint_i 2 2 rfl g bv b 3 w0 w F S hb (by decide) (by decide) (by omega) hl
  have p3 := fun w F S => ruint_i 8 8 rfl g bv b 5 w0 w F S hb (by decide) (by decide) (by omega) hl
  have e1 : (atB b 2 1 : Int) % 256 = ((b.getD 2 0).toNat : Int) := by rw [← IntKind.wrap_u8, wrap8 _ (atB_lt b 2 1), getD_at]
  have hc2 := atB_lt b 3 2
  have e2 : wrap64 (atB b 3 2 : Int) = (i64N (atB b 3 2)).v := by rw [i2_at, ← IntWalk.i64_left, IntKind.wrap_i64]; omega
  have e3 : (atB b 5 8 : Int) = ((UInt64.ofNat (atB b 5 8)).toNat : Int) := by rw [u64_at]
  have hz := psz_rd b
  have hX : rpX b = usK (bk (hdX b)) (hdX b) (rdX (bk (hdX b)) b 13) := rfl
  have hH : hdX b = rpH (b.getD 2 0) (i64N (atB b 3 2)) (UInt64.ofNat (atB b 5 8)) := rfl
  have p4 := fun w => replyBody_s (hdX b) none none 0 0 0 0 w
  unfold bodyV at p4
  obtain ⟨q, hq⟩ : ∃ q, q = bk (hdX b) := ⟨_, rfl⟩
  rw [← hq] at hz hX p4
  obtain ⟨fr, av, mv, p5'⟩ := bodyRead_s q (hdX b) none none 0 0 0 0
  have p5 := fun w F S => (p5' g bv b 13 w0 w F S hb h13 hl).mono fun e w' h => h.rows
  have p6 := fun a1 n1 c1 a2 n2 c2 w => replyOf_s q (hdX b) (rdX q b 13) nilV nilV rfl rfl a1 a2 n1 c1 n2 c2 w
  rw [← hX] at p6
  obtain ⟨BV, hBV⟩ : ∃ B, B = bodyK q (hdX b) nilV nilV := ⟨_, rfl⟩
  rw [← hBV] at p4 mv
  have hXr : (rdX q b 13).robots = (rpX b).robots := by rw [hX]; cases q <;> rfl
  have hXc : (rdX q b 13).records = (rpX b).records := by rw [hX]; cases q <;> rfl
  have hbr := fun u v => bdR_eq q (rdX q b 13) u v
  have hbc := fun u v => bdC_eq q (rdX q b 13) u v
  rw [hXr, hXc] at p5
  obtain ⟨X, hXe⟩ : ∃ X, X = rpX b := ⟨_, rfl⟩
  rw [← hXe] at p5 p6 ⊢
  obtain ⟨Y, hY⟩ : ∃ Y, Y = rdX q b 13 := ⟨_, rfl⟩
  rw [← hY] at p5 p6 hbr hbc
  obtain ⟨k, hk⟩ : ∃ k, k = b.getD 2 0 := ⟨_, rfl⟩
  obtain ⟨c, hc⟩ : ∃ c, c = i64N (atB b 3 2) := ⟨_, rfl⟩
  obtain ⟨t, ht⟩ : ∃ t, t = UInt64.ofNat (atB b 5 8) := ⟨_, rfl⟩
  rw [← hk] at e1 hH
  rw [← hc] at e2 hH
  rw [← ht] at e3 hH
  rw [hH] at p4 p6
  obtain ⟨RZ, hRZ⟩ : ∃ R, R = rpZ := ⟨_, rfl⟩
  have c0 := rpL_setK0 k
  have c1 := rpL_setC1 k c
  have c2 := rpL_setT2 k c t
  rw [← hRZ] at c0 S
  obtain ⟨R1, hR1⟩ : ∃ R, R = rpH k i64Z 0 := ⟨_, rfl⟩
  obtain ⟨R2, hR2⟩ : ∃ R, R = rpH k c 0 := ⟨_, rfl⟩
  obtain ⟨R3, hR3⟩ : ∃ R, R = rpH k c t := ⟨_, rfl⟩
  rw [← hR1] at c0 c1
  rw [← hR2] at c1 c2
  rw [← hR3] at c2 p4 p6
  rw [hz]
  obtain ⟨Z, hZ⟩ : ∃ Z, Z = rdZ q b 13 := ⟨_, rfl⟩
  rw [← hZ] at p5 ⊢
  have P1 := Lib.hid p1; have P2 := Lib.hid p2; have P3 := Lib.hid p3; have P4 := Lib.hid p4; have P5 := Lib.hid p5; have P6 := Lib.hid p6; have E1 := Lib.hid e1; have E2 := Lib.hid e2; have E3 := Lib.hid e3; have MV := Lib.hid mv; have C0 := Lib.hid c0; have C1 := Lib.hid c1; have C2 := Lib.hid c2; have HBR := Lib.hid hbr; have HBC := Lib.hid hbc; clear p1 p2 p3 p4 p5 p6 e1 e2 e3 mv c0 c1 c2 hbr hbc
  clear p5' hz hX hH hq hBV hXr hXc hXe hY hk hc ht hRZ hR1 hR2 hR3 hZ hb hc2
  go_enter Tryd.func69, Tryd.ntmps69
  go_upto_region 1 with (first | (go_at_call 61; (with_reducible refine (P1.out _ _ S).mono ?_); rintro e w1 (⟨hf, rfl, S1⟩ | ⟨hf, rfl, S1⟩); rotate_left; exact (by omega : False).elim; clear S; have S := S1; clear S1; have _t := P1; clear P1) | (go_at_call 61; (with_reducible refine (P2.out _ _ S).mono ?_); rintro e w1 (⟨hf2, rfl, S1⟩ | ⟨hf2, rfl, S1⟩); rotate_left; exact (by omega : False).elim; clear S; have S := S1; clear S1; have _t2 := P2; clear P2) | (go_at_call 61; (with_reducible refine (P3.out _ _ S).mono ?_); rintro e w1 (⟨hf3, rfl, S1⟩ | ⟨hf3, rfl, S1⟩); rotate_left; exact (by omega : False).elim; clear S; have S := S1; clear S1) | ((with_reducible refine iO none (.store 5 (.tmp 11) (.tmp 5)) ?_); refine step_store1 S 5 (.tmp 11) (.tmp 5) go 0 (.int .u8 (k.toNat : Int)) rfl (show Value.int .u8 _ = Value.int .u8 _ by rw [E1.out]) _ _ pk kR rfl rfl (by rw [rpL_size]; decide) gw ?_; clear S; intro w S; rw [C0.out] at S) | ((with_reducible refine iO none (.store 24 (.tmp 12) (.tmp 8)) ?_); refine step_store1 S 24 (.tmp 12) (.tmp 8) go 1 (.int .i64 c.v) rfl (show Value.int .i64 _ = Value.int .i64 _ by rw [E2.out]) _ _ pk kR rfl rfl (by rw [rpL_size]; decide) gw ?_; clear S; intro w S; rw [C1.out] at S) | ((with_reducible refine iO none (.store 23 (.tmp 13) (.tmp 10)) ?_); refine step_store1 S 23 (.tmp 13) (.tmp 10) go 2 (.int .u64 (t.toNat : Int)) rfl (show Value.int .u64 _ = Value.int .u64 _ by rw [← E3.out]) _ _ pk kR rfl rfl (by rw [rpL_size]; decide) gw ?_; clear S; intro w S; rw [C2.out] at S) | fail)
  replace S : Has w0 w (blk go (.cells (rpL R3 nilV nilV).toArray 79 (0, 0)) :: rdr g bv 13 :: F) := S
  refine wp_relyBW (Bad := fun c w' => b.length < 13 + Z ∧ c = [erl] ∧ ∃ q cs, Has w0 w' (rdr g bv q :: blk go (.cells cs 79 (0, 0)) :: F)) (e1 := noRes) 4 ?hbad1 (S.pick (r := rdr g bv 13) pk) [sv [] (.agg (rpL R3 nilV nilV).toArray), sv [] (.agg (rpL R3 nilV nilV).toArray), sv [1] BV, sv [] (.pointer (some ⟨g, 0, none⟩)), ⟨[1, 2, 3], [], [], fun _ v => RdV q Y (13 + Z) b.length (v) ∧ v = v, fun _ v => [rdr g bv (13 + Z), rowSg (bdR q v) X.robots, rowRc (bdC q v) X.records]⟩, ⟨[0, 1, 2, 3, 4], [], [], fun d v => v = .agg (rpL X (bdR q (d 4)) (bdC q (d 4))).toArray, fun _ v => []⟩] ?A1 ?hA1 kR kR kR [0, 1, 2, 3, 4, 5] kR (of_decide_eq_true rfl) ?hok1 ?fin1
  case hA1 => intro u; simp only [putAll, List.length_cons, List.length_nil, Nat.zero_add, Nat.reduceAdd, dstAt, List.getElem?_toArray, List.getElem?_cons_zero, List.getElem?_cons_succ, Option.bind_some, Act.put, List.setIfInBounds_toArray, List.set_cons_zero, List.set_cons_succ]; rfl
  case hbad1 => intro c a2 w2 hd hb; obtain ⟨hlt, rfl, q, cs, hS⟩ := hb; exact ⟨hd, .inr ⟨hlt, rfl, q, cs, hS⟩⟩
  case hok1 =>
    intro i hi
    obtain rfl | rfl | rfl | rfl | rfl | rfl : i = 0 ∨ i = 1 ∨ i = 2 ∨ i = 3 ∨ i = 4 ∨ i = 5 := by simp only [List.length_cons, List.length_nil, Nat.zero_add, Nat.reduceAdd] at hi; omega
    · clear hi
      rw [if_neg (by decide)]; intro r0
      refine step_ofB rfl rfl rfl ?_
      intro u G w hf S
      simp only [fl, z4, z5, z6, z7, ptrBlk] at S ⊢
      refine does.bad ?_
      refine does_load 79 (.tmp 1) go rfl _ _ _ (S.get (r := blk go _) pk) _ Tryd.underlying79 rfl 46 kR lN ?_; exact ⟨rfl, S⟩
    · clear hi
      rw [if_neg (by decide)]; intro r0
      refine step_ofB rfl rfl rfl ?_
      intro u G w hf S
      simp only [fl, z4, z5, z6, z7, ptrBlk] at S ⊢
      refine does.bad ?_
      refine does_load 79 (.tmp 1) go rfl _ _ _ (S.get (r := blk go _) pk) _ Tryd.underlying79 rfl 46 kR lN ?_; exact ⟨rfl, S⟩
    · clear hi
      rw [if_neg (by decide)]; intro r0
      refine step_ofB rfl rfl rfl ?_
      intro u G w hf S
      have f1 : u 1 = .agg (rpL R3 nilV nilV).toArray := hf 1 (by simp)
      simp only [fl, z4, z5, z6, z7, ptrBlk] at S ⊢
      simp only [f1]
      refine does.bad ?_
      refine does_fn (args := [(.agg (rpL R3 nilV nilV).toArray)]) Tryd.func68 kR kR (P4.out w) rfl ?_
      rintro e w1 ⟨rfl, T⟩
      exact ⟨_, rfl, rfl, S.call T⟩
    · rw [if_neg (by decide)]; intro r0; exact oP []
    · clear hi
      rw [if_pos rfl]
      refine step_ofB rfl rfl rfl ?_
      intro u G w hf S
      have f2 : u 2 = BV := hf 2 (by simp)
      have f3 : u 3 = .pointer (some ⟨g, 0, none⟩) := hf 3 (by simp)
      simp only [fl, z4, z5, z6, z7, ptrBlk] at S ⊢
      simp only [f2, f3]
      refine doesB_inv (.tmp 16) "dunnage/wire.read" [.tmp 17] _ _ [.pointer (some ⟨g, 0, none⟩)] fr _ rfl rfl (MV.out _ w) (P5.out w _ S) ?_; rintro e w1 (⟨h1, ar, nr, cr, ac, nc, cc, rfl, S1⟩ | ⟨h1, rfl, q', S1⟩)
      · exact .inl ⟨_, rfl, ⟨⟨h1, ar, nr, cr, ac, nc, cc, rfl⟩, trivial⟩, by rw [HBR.out, HBC.out]; exact S1.taken3⟩
      · exact .inr ⟨_, rfl, h1, rfl, q', _, (Has.front (l := rdr g bv q' :: blk go _ :: F) (G := G) S1)⟩
    · clear hi
      rw [if_neg (by decide)]; intro r0
      refine step_ofB rfl rfl rfl ?_
      intro u G w hf S
      have f0 : u 0 = .agg (rpL R3 nilV nilV).toArray := hf 0 (by simp)
      have f4 : RdV q Y (13 + Z) b.length (u 4) ∧ u 4 = u 4 := hf 4 (by simp)
      obtain ⟨q4, f4⟩ := f4
      have m4 : mask [0, 1, 2, 3, 4] u 4 = u 4 := rfl
      simp only [fl, z4, z5, z6, z7, m4, ptrBlk] at S ⊢
      simp only [m4, f0, f4]
      refine does.bad ?_
      obtain ⟨_, ar, nr, cr, ac, nc, cc, e4⟩ := q4
      rw [e4, HBR.out, HBC.out]
      refine does_fn (args := [.agg (rpL R3 nilV nilV).toArray, bodyK q Y (.slice ar nr cr) (.slice ac nc cc)]) Tryd.func70 kR kR (P6.out ar nr cr ac nc cc w) rfl ?_
      rintro e w1 ⟨rfl, T⟩
      exact ⟨_, rfl, rfl, S.call T⟩
  case fin1 =>
    intro u w hf S
    have f4 : RdV q Y (13 + Z) b.length (u 4) ∧ u 4 = u 4 := hf 4 (by simp)
    obtain ⟨q4, f4⟩ := f4
    have m5_4 : mask [0, 1, 2, 3, 4] u 4 = u 4 := rfl
    have hvA := allV hf
    simp only [AllV, RSpec.valAt, sv, Nat.zero_add, Nat.reduceAdd, m5_4] at hvA
    simp only [fl, z4, z5, z6, z7, m5_4, ptrBlk] at S
    clear hf
    simp only [List.length_cons, List.length_nil, Nat.zero_add, Nat.reduceAdd, List.drop_succ_cons, List.drop_zero, f4, hvA]
    try simp only [f4, hvA, ptrBlk] at S
    clear f4 hvA m5_4
    have hone := rpL_one X _ _ q4.one.1 q4.one.2
    go_wp2_with (first | ((with_reducible refine iO none (.store 79 (.tmp 1) (.tmp 19)) ?_); refine step_store S 79 (.tmp 1) (.tmp 19) _ _ rfl rfl _ _ pk 46 kR lN lN hone rfl ?_; clear S; intro w S) | fail)
    go_end0
    have S := S.drop (r := noRes) pk
    exact .inl ⟨q4.1, rfl, (bdR q (u 4), bdC q (u 4)), S.perm (List.Perm.swap _ _ _)⟩
end Go.Proofs.YtfhkmmagpnojmaaDoor

/- The reply of some bytes: what the program's DecodeReply returns. No condition but the reach. -/
namespace Go.Proofs.YtfhkmmagpnojmaaDoor
open Go.RowKit

/-- whole, for a reply. -/
theorem wholeP_s (bv : Value) (b : List UInt8) (go : Nat) (w0 w1 : World) (G0 : List Res) (S : Has w0 w1 (blk go (.cells (rpL rpZ nilV nilV).toArray 79 (0, 0)) :: G0)) (hb : Bs w0 bv b) (h13 : 13 ≤ b.length) (hl : b.length ≤ 140737488355328) :
    Calls Tryd.prog 59 #[bv, .func (.func 69) #[] #[.pointer (some ⟨go, 0, none⟩)]] w1 fun e w' =>
      (psz b = b.length ∧ val (b.take 2) = b.length ∧ e = .returned (.bool true) ∧ ∃ vr vc, Has w0 w' (blk go (.cells (rpL (rpP b) vr vc).toArray 79 (0, 0)) :: rowSg vr (rpP b).robots :: rowRc vc (rpP b).records :: G0)) ∨
      (¬ (psz b = b.length ∧ val (b.take 2) = b.length) ∧ e = .returned (.bool false) ∧ ∃ cs, Has w0 w' (blk go (.cells cs 79 (0, 0)) :: G0)) := by
  refine (whole2_s (α := Value × Value) bv b 69 Tryd.f69 [.pointer (some ⟨go, 0, none⟩)] w0 w1 _ G0 S hb (by omega) hl Tryd.func69 kR kR (psz b ≤ b.length) (psz b)
    (fun z => [blk go (.cells (rpL (rpX b) z.1 z.2).toArray 79 (0, 0)), rowSg z.1 (rpX b).robots, rowRc z.2 (rpX b).records]) (fun cs => [blk go (.cells cs 79 (0, 0))]) (fun g w G S => ?_)).mono fun e w' h => ?_
  · refine (decClosP_s g go bv b w0 w G S hb h13 hl).mono fun e w' h => ?_
    rcases h with ⟨h1, h2, z, h3⟩ | ⟨h1, h2, q, cs, h3⟩
    · exact .inl ⟨h1, h2, z, h3⟩
    · exact .inr ⟨by omega, h2, q, cs, h3⟩
  · rcases h with ⟨h1, rfl, z, h3⟩ | ⟨h1, rfl, cs, h3⟩
    · by_cases hx : psz b = b.length ∧ val (b.take 2) = b.length
      · rw [rpX_rpP b hx.1] at h3
        exact .inl ⟨hx.1, hx.2, by rw [decide_eq_true ⟨hx.2, hx.1⟩], z.1, z.2, h3⟩
      · refine .inr ⟨hx, by rw [decide_eq_false (fun h => hx ⟨h.2, h.1⟩)], _, (h3.drop (Pick.tail (Pick.head _ _))).drop (Pick.tail (Pick.head _ _))⟩
    · exact .inr ⟨by omega, rfl, cs, h3⟩
theorem Has.two {w0 w : World} {r s : Res} {G : List Res} (S : Has w0 w (r :: s :: G)) : Has w0 w [r, s] := Has.front (l := [r, s]) (G := G) S
/-- What DecodeReply makes. -/
def MadeRp (w : World) (r : Rp) (E : Int) (e : Ending) (w' : World) : Prop :=
  ∃ vr vc, e = .returned (.tuple #[.agg (rpL r vr vc).toArray, .int .i64 E]) ∧ Has w w' [rowSg vr r.robots, rowRc vc r.records]
theorem Has.zRp {w0 w : World} (S : Has w0 w []) : Has w0 w [rowSg nilV rpZ.robots, rowRc nilV rpZ.records] := (S.nil_row 50 35).nil_row 95 3
set_option maxRecDepth 100000 in
set_option maxHeartbeats 8000000 in
theorem decodeReply_s (bv : Value) (b : List UInt8) (w0 : World) (hb : Bs w0 bv b) (hl : b.length ≤ 140737488355328) :
    Calls Tryd.prog 39 #[bv] w0 (MadeRp w0 (dpR b) (dpE b)) := by
  have S := Has.start w0
  obtain ⟨a0, c0, rfl, k1, k2⟩ := Sl.shape hb
  unfold maxLen at k2
  by_cases h3 : b.length < 13
  · have hE : dpE b = 10 := if_pos h3
    have hR : dpR b = rpZ := if_neg (by rw [hE]; decide)
    rw [hE, hR]
    have i1 : (b.length : Int) < 13 := by omega
    have HB := Lib.hid hb; clear hb
    clear hE hR
    go_enter Tryd.func39, Tryd.ntmps39
    go_wp2_with (first | ((with_reducible refine iD 2 (.alloc 79) ?_); refine step_alloc (dst := some 2) S 79 (.agg ((rpL rpZ (.slice none 0 0) (.slice none 0 0)).toArray)) ((rpL rpZ (.slice none 0 0) (.slice none 0 0)).toArray) kR rfl gw ?_; clear S; intro g2 w S) | ((with_reducible refine iD 9 (.build 79 _) ?_); refine step_buildZ 79 (.agg ((rpL rpZ (.slice none 0 0) (.slice none 0 0)).toArray)) (fun w => by kernel_rfl) gw ?_) | ((with_reducible refine iO none (.store 79 (.tmp 2) (.tmp 9)) ?_); refine step_store S 79 (.tmp 2) (.tmp 9) _ _ rfl rfl _ _ pk 46 kR lN lN on1 gw ?_; clear S; intro w S) | fail)
    refine ret_row_tmp rfl g2 79 _ (S.get pk) _ Tryd.underlying79 46 kR lN rfl rfl rfl ?_
    exact ⟨nilV, nilV, rfl, S.nil.zRp⟩
  have i1 : ¬ (b.length : Int) < 13 := by omega
  have hE0 : dpE b = if dpOk b then 0 else 11 := if_neg h3
  have p1 := fun go w G0 S => wholeP_s (.slice a0 b.length c0) b go w0 w G0 S hb (by omega) hl
  by_cases hx : psz b = b.length ∧ val (b.take 2) = b.length
  · have hd : dpOk b = rpV (rpP b) := by unfold dpOk; rw [decide_eq_true hx, Bool.true_and]
    have p2 := fun vr vc w h1 h2 => checkReply_s (rpP b) vr vc w h1 h2
    unfold rpE at p2
    rw [hd] at hE0
    have p3 : ∀ go w G0, Has w0 w (blk go (.cells (rpL rpZ nilV nilV).toArray 79 (0, 0)) :: G0) → Calls Tryd.prog 59 #[.slice a0 b.length c0, .func (.func 69) #[] #[.pointer (some ⟨go, 0, none⟩)]] w fun e w' => e = .returned (.bool true) ∧ ∃ vr vc, Has w0 w' (blk go (.cells (rpL (rpP b) vr vc).toArray 79 (0, 0)) :: rowSg vr (rpP b).robots :: rowRc vc (rpP b).records :: G0) := fun go w G0 S => (p1 go w G0 S).mono fun e w' h => by
      rcases h with ⟨_, _, h1, vr, vc, h2⟩ | ⟨h1, _⟩
      · exact ⟨h1, vr, vc, h2⟩
      · exact absurd hx h1
    unfold dpR
    rw [hE0]
    obtain ⟨X, hX⟩ : ∃ X, X = rpP b := ⟨_, rfl⟩
    rw [← hX] at p2 p3 ⊢
    cases hv : rpV X
    · rw [hv] at p2
      simp only [Bool.false_eq_true, if_false] at p2 ⊢
      have HB := Lib.hid hb; have P2 := Lib.hid p2; have P3 := Lib.hid p3; clear hb p2 p3
      clear p1 hx hd hE0 hX hv h3
      go_enter Tryd.func39, Tryd.ntmps39
      go_wp2_with (first | (go_at_call 59; (with_reducible refine (P3.out g4 _ _ S).mono ?_); rintro e w1 ⟨rfl, vr, vc, S1⟩; clear S; have S := S1; clear S1) | ((with_reducible refine iD 2 (.alloc 79) ?_); refine step_alloc (dst := some 2) S 79 (.agg ((rpL rpZ (.slice none 0 0) (.slice none 0 0)).toArray)) ((rpL rpZ (.slice none 0 0) (.slice none 0 0)).toArray) kR rfl gw ?_; clear S; intro g2 w S) | ((with_reducible refine iD 4 (.alloc 79) ?_); refine step_alloc (dst := some 4) S 79 (.agg ((rpL rpZ (.slice none 0 0) (.slice none 0 0)).toArray)) ((rpL rpZ (.slice none 0 0) (.slice none 0 0)).toArray) kR rfl gw ?_; clear S; intro g4 w S) | ((with_reducible refine iD 11 (.makeFunc _ _ _) ?_); refine step_makeF _ [.tmp 4] [.pointer (some ⟨g4, 0, none⟩)] rfl gw ?_) | ((with_reducible refine iO _ (.load 79 _) ?_); first | (refine step_load S 79 _ _ rfl _ _ _ pk _ Tryd.underlying79 rfl 46 kR lN gw ?_) | (refine step_loadO 79 _ _ rfl _ _ _ (S.old_heap (Hid.out (by assumption))) _ Tryd.underlying79 rfl 46 kR lN gw ?_) | (refine step_loadR 79 _ _ _ rfl _ (S.old_range hy) _ Tryd.underlying79 rfl 46 kR lN _ rfl gw ?_)) | (go_at_call 41; (with_reducible refine (P2.out vr vc _ (S.sl (v := vr) pk) (S.sl (v := vc) pk)).mono ?_); rintro e w1 ⟨rfl, T⟩; replace S := S.call T; clear T; (try simp only [z4, z5] at S)) | ((with_reducible refine iD 20 (.build 79 _) ?_); refine step_buildZ 79 (.agg ((rpL rpZ (.slice none 0 0) (.slice none 0 0)).toArray)) (fun w => by kernel_rfl) gw ?_) | ((with_reducible refine iO none (.store 79 (.tmp 2) (.tmp 20)) ?_); refine step_store S 79 (.tmp 2) (.tmp 20) _ _ rfl rfl _ _ pk 46 kR lN lN on1 gw ?_; clear S; intro w S) | fail)
      refine ret_row_tmp rfl g2 79 _ (S.get pk) _ Tryd.underlying79 46 kR lN rfl rfl rfl ?_
      exact ⟨nilV, nilV, rfl, S.nil.zRp⟩
    · rw [hv] at p2
      simp only [if_true] at p2 ⊢
      have HB := Lib.hid hb; have P2 := Lib.hid p2; have P3 := Lib.hid p3; clear hb p2 p3
      clear p1 hx hd hE0 hX hv h3
      go_enter Tryd.func39, Tryd.ntmps39
      go_wp2_with (first | (go_at_call 59; (with_reducible refine (P3.out g4 _ _ S).mono ?_); rintro e w1 ⟨rfl, vr, vc, S1⟩; have h1 := (one_sl (S1.sl (v := vr) pk)).1; have h2 := (one_sl (S1.sl (v := vc) pk)).1; have hone := rpL_one X vr vc h1 h2; clear S; have S := S1; clear S1) | ((with_reducible refine iO none (.store 79 (.tmp 2) (.tmp 21)) ?_); refine step_store S 79 (.tmp 2) (.tmp 21) _ _ rfl rfl _ _ pk 46 kR lN lN hone rfl ?_; clear S; intro w S) | ((with_reducible refine iD 2 (.alloc 79) ?_); refine step_alloc (dst := some 2) S 79 (.agg ((rpL rpZ (.slice none 0 0) (.slice none 0 0)).toArray)) ((rpL rpZ (.slice none 0 0) (.slice none 0 0)).toArray) kR rfl gw ?_; clear S; intro g2 w S) | ((with_reducible refine iD 4 (.alloc 79) ?_); refine step_alloc (dst := some 4) S 79 (.agg ((rpL rpZ (.slice none 0 0) (.slice none 0 0)).toArray)) ((rpL rpZ (.slice none 0 0) (.slice none 0 0)).toArray) kR rfl gw ?_; clear S; intro g4 w S) | ((with_reducible refine iD 11 (.makeFunc _ _ _) ?_); refine step_makeF _ [.tmp 4] [.pointer (some ⟨g4, 0, none⟩)] rfl gw ?_) | ((with_reducible refine iO _ (.load 79 _) ?_); first | (refine step_load S 79 _ _ rfl _ _ _ pk _ Tryd.underlying79 rfl 46 kR lN gw ?_) | (refine step_loadO 79 _ _ rfl _ _ _ (S.old_heap (Hid.out (by assumption))) _ Tryd.underlying79 rfl 46 kR lN gw ?_) | (refine step_loadR 79 _ _ _ rfl _ (S.old_range hy) _ Tryd.underlying79 rfl 46 kR lN _ rfl gw ?_)) | (go_at_call 41; (with_reducible refine (P2.out vr vc _ (S.sl (v := vr) pk) (S.sl (v := vc) pk)).mono ?_); rintro e w1 ⟨rfl, T⟩; replace S := S.call T; clear T; (try simp only [z4, z5] at S)) | fail)
      refine ret_row_tmp rfl g2 79 _ (S.get pk) _ Tryd.underlying79 46 kR lN rfl rfl rfl ?_
      exact ⟨vr, vc, rfl, (S.pick2 (r := rowSg vr X.robots) (s := rowRc vc X.records) pk pk).two⟩
  · have hd : dpOk b = false := by unfold dpOk; rw [decide_eq_false hx, Bool.false_and]
    have hE : dpE b = 11 := by rw [hE0, hd]; rfl
    have hR : dpR b = rpZ := if_neg (by rw [hE]; decide)
    rw [hE, hR]
    have p3 : ∀ go w G0, Has w0 w (blk go (.cells (rpL rpZ nilV nilV).toArray 79 (0, 0)) :: G0) → Calls Tryd.prog 59 #[.slice a0 b.length c0, .func (.func 69) #[] #[.pointer (some ⟨go, 0, none⟩)]] w fun e w' => e = .returned (.bool false) ∧ ∃ cs, Has w0 w' (blk go (.cells cs 79 (0, 0)) :: G0) := fun go w G0 S => (p1 go w G0 S).mono fun e w' h => by
      rcases h with ⟨h1, h2, _⟩ | ⟨_, h1, cs, h2⟩
      · exact absurd ⟨h1, h2⟩ hx
      · exact ⟨h1, cs, h2⟩
    have HB := Lib.hid hb; have P3 := Lib.hid p3; clear hb p3
    clear p1 hx hd hE0 hE hR h3
    go_enter Tryd.func39, Tryd.ntmps39
    go_wp2_with (first | (go_at_call 59; (with_reducible refine (P3.out g4 _ _ S).mono ?_); rintro e w1 ⟨rfl, cs, S1⟩; clear S; have S := S1; clear S1) | ((with_reducible refine iD 2 (.alloc 79) ?_); refine step_alloc (dst := some 2) S 79 (.agg ((rpL rpZ (.slice none 0 0) (.slice none 0 0)).toArray)) ((rpL rpZ (.slice none 0 0) (.slice none 0 0)).toArray) kR rfl gw ?_; clear S; intro g2 w S) | ((with_reducible refine iD 4 (.alloc 79) ?_); refine step_alloc (dst := some 4) S 79 (.agg ((rpL rpZ (.slice none 0 0) (.slice none 0 0)).toArray)) ((rpL rpZ (.slice none 0 0) (.slice none 0 0)).toArray) kR rfl gw ?_; clear S; intro g4 w S) | ((with_reducible refine iD 11 (.makeFunc _ _ _) ?_); refine step_makeF _ [.tmp 4] [.pointer (some ⟨g4, 0, none⟩)] rfl gw ?_) | ((with_reducible refine iD 20 (.build 79 _) ?_); refine step_buildZ 79 (.agg ((rpL rpZ (.slice none 0 0) (.slice none 0 0)).toArray)) (fun w => by kernel_rfl) gw ?_) | ((with_reducible refine iO none (.store 79 (.tmp 2) (.tmp 20)) ?_); refine step_store S 79 (.tmp 2) (.tmp 20) _ _ rfl rfl _ _ pk 46 kR lN lN on1 gw ?_; clear S; intro w S) | fail)
    refine ret_row_tmp rfl g2 79 _ (S.get pk) _ Tryd.underlying79 46 kR lN rfl rfl rfl ?_
    exact ⟨nilV, nilV, rfl, S.nil.zRp⟩
end Go.Proofs.YtfhkmmagpnojmaaDoor
