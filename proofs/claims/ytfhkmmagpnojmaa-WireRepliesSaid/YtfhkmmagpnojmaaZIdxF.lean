/- slices.IndexFunc and ContainsFunc over slices that came in. Conditions: those that are named. -/
import Derived.Test.YtfhkmmagpnojmaaZBd
import Derived.Test.YtfhkmmagpnojmaaZBg
set_option linter.unusedSimpArgs false
set_option linter.unusedVariables false
namespace Go.Proofs.Ytfhkmmagpnojmaa
open Go.RowKit

/-- A function value is called. -/
theorem step_callV1 {P : Program} {ops : Array Oper} {rest : List Oper} {a : Act} {w : World} {Q : Exit → Act → World → Prop} {dst : Option Tmp} {ty : TypeId} {pos : String} {after : Array Edge} {gd : Option (Nat × Bool)} {R : Ending → World → Prop} (x : Operand) (xs : List Operand) (ts : Array TypeId) (f : FuncId) (fn : Func) (caps vs : List Value) (hx : a.eval x = .func (.func f) #[] caps.toArray) (hxs : xs.map a.eval = vs)
    (hf : P.funcs[f]? = some fn) (hn : (fn.name == "runtime.NumGoroutine") = false) (hb : fn.body.isNone = false) (hc : Calls P f (vs ++ caps).toArray w R)
    (hw : Region.wanted ⟨dst, .call { callee := .value x, args := xs.toArray, argTypes := ts }, ty, pos, after, gd⟩ (yielded ops a.tmps) = true)
    (h : ∀ e w', R e w' → ∃ v, e = .returned v ∧ wpList P ops Q rest (a.put dst v) w') : wpList P ops Q (⟨dst, .call { callee := .value x, args := xs.toArray, argTypes := ts }, ty, pos, after, gd⟩ :: rest) a w := by
  subst hxs
  have hrun : (execOp a.eval ⟨dst, .call { callee := .value x, args := xs.toArray, argTypes := ts }, ty, pos, after, gd⟩).run P w = .ok (.enter f (xs.map a.eval ++ caps).toArray) w := by
    obtain ⟨b, hb'⟩ : ∃ b, fn.body = some b := by
      cases h : fn.body with
      | none => rw [h] at hb; cases hb
      | some b => exact ⟨b, rfl⟩
    have hn' : ¬ fn.name = "runtime.NumGoroutine" := by simpa using hn
    simp [execOp, resolve, hx, Deferred.ofValue, invoke, callFunc, hf, hn', hb', Result.andThen]
  refine wpList_step fun K hK => ?_
  rw [if_pos hw]
  unfold Oper.wp
  rw [hrun, Oper.upon_enter]
  refine hc.mono fun e w' he => ?_
  obtain ⟨v, rfl, hp⟩ := h e w' he
  exact hK _ _ hp
set_option maxRecDepth 100000 in
set_option maxHeartbeats 4000000 in
theorem indexR_s (v : Value) (l : List Rcd) (f : FuncId) (fn : Func) (p : Rcd → Bool) (w0 : World) (h : Sl w0 35 v l.length (l.flatMap rcdL)) (hf : Try.prog.funcs[f]? = some fn) (hn : (fn.name == "runtime.NumGoroutine") = false) (hb : fn.body.isNone = false)
    (hc : ∀ x w, Calls Try.prog f #[.agg (rcdL x).toArray] w fun e w' => e = .returned (.bool (p x)) ∧ Has w w' []) :
    Calls Try.prog 116 #[v, .func (.func f) #[] #[]] w0 fun e w' => ∃ n : Int, e = .returned (.int .i64 n) ∧ decide (0 ≤ n) = l.any p ∧ Has w0 w' [] := by
  have S := Has.start w0
  obtain ⟨a0, c0, rfl, k1, k2⟩ := Sl.shape h
  unfold maxLen at k2
  have H := Lib.hid h; have HF := Lib.hid hf; have HN := Lib.hid hn; have HB := Lib.hid hb; have HC := Lib.hid hc; clear h hf hn hb hc
  go_enter Try.func116, Try.ntmps116
  go_wp2
  go_loopw [8] (fun t wr => ∃ (k : Nat), k ≤ l.length ∧ t = .int .i64 (k : Int) ∧ (l.take k).any p = false ∧ Has w0 wr []) (fun t _ => l.length - (intOf t).toNat)
  case atStart => exact ⟨0, Nat.zero_le _, rfl, rfl, S⟩
  case round =>
    clear S
    obtain ⟨k, hk, rfl, hno, S⟩ := hrel
    by_cases hlt : k < l.length
    · have hx : l[k]? = some l[k] := List.getElem?_eq_getElem hlt
      obtain ⟨b, off, rfl, hcell⟩ := H.out.atA (by omega)
      have hrg := H.out.elem rcdL_length (by decide) k _ hx
      have hsucc : (l.take (k + 1)).any p = ((l.take k).any p || p l[k]) := by rw [List.take_succ_eq_append_getElem hlt, List.any_append]; simp
      have hany : p l[k] = true → l.any p = true := fun h => List.any_eq_true.2 ⟨l[k], List.getElem_mem hlt, h⟩
      have hmem : l[k] ∈ l := List.getElem_mem hlt
      obtain ⟨x, hxe⟩ : ∃ x, x = l[k] := ⟨_, rfl⟩
      rw [← hxe] at hrg hsucc hany hmem
      rw [hno, Bool.false_or] at hsucc
      obtain ⟨q, hq⟩ : ∃ q, q = p x := ⟨_, rfl⟩
      rw [← hq] at hsucc hany
      have hcx : ∀ w, Calls Try.prog f #[.agg (rcdL x).toArray] w fun e w' => e = .returned (.bool q) ∧ Has w w' [] := fun w => by rw [hq]; exact HC.out x w
      clear hq
      have hki : (k : Int) < (l.length : Int) := by omega
      have hki2 : (k : Int) < 9223372036854775807 := by omega
      have HRG := Lib.hid hrg; have HSUCC := Lib.hid hsucc; have HANY := Lib.hid hany; have HMEM := Lib.hid hmem; have HNO := Lib.hid hno; have HCX := Lib.hid hcx; clear hrg hsucc hany hmem hno hcx
      clear hx hxe hcell
      cases q
      · go_wp2_with (first | ((with_reducible refine iD 16 (.call _) ?_); refine step_callV1 (.tmp 11) [.tmp 15] _ f fn [] [.agg (rcdL x).toArray] rfl rfl HF.out HN.out HB.out (HCX.out _) gw ?_; rintro e w1 ⟨rfl, T⟩; refine ⟨_, rfl, ?_⟩; replace S := S.call T; clear T; simp only [List.nil_append] at S; simp only [Act.put, List.setIfInBounds_toArray, List.set_cons_succ, List.set_cons_zero]) | ((with_reducible refine iO _ (.load 106 _) ?_); first | (refine step_loadR 106 _ _ _ rfl _ (S.old_range hy) _ Try.underlying106 rfl 35 kR lN _ rfl rfl ?_) | (refine step_loadP S 106 _ _ _ rfl _ _ _ pk 35 _ pT lN _ Try.underlying106 rfl kR rfl ?_)) | fail)
        go_roundw
        case rel => exact ⟨k + 1, by omega, by go_num, HSUCC.out, S⟩
        case measure => simp [intOf]; omega
      · go_wp2_with (first | ((with_reducible refine iD 16 (.call _) ?_); refine step_callV1 (.tmp 11) [.tmp 15] _ f fn [] [.agg (rcdL x).toArray] rfl rfl HF.out HN.out HB.out (HCX.out _) gw ?_; rintro e w1 ⟨rfl, T⟩; refine ⟨_, rfl, ?_⟩; replace S := S.call T; clear T; simp only [List.nil_append] at S; simp only [Act.put, List.setIfInBounds_toArray, List.set_cons_succ, List.set_cons_zero]) | ((with_reducible refine iO _ (.load 106 _) ?_); first | (refine step_loadR 106 _ _ _ rfl _ (S.old_range hy) _ Try.underlying106 rfl 35 kR lN _ rfl rfl ?_) | (refine step_loadP S 106 _ _ _ rfl _ _ _ pk 35 _ pT lN _ Try.underlying106 rfl kR rfl ?_)) | fail)
        go_ret
        exact ⟨_, rfl, by rw [HANY.out (by simp)]; exact decide_eq_true (by omega), S⟩
    · obtain rfl : k = l.length := by omega
      rw [List.take_length] at hno
      have hki : ¬ (l.length : Int) < (l.length : Int) := by omega
      have HNO := Lib.hid hno; clear hno
      go_wp2_with (first | ((with_reducible refine iO _ (.load 106 _) ?_); first | (refine step_loadR 106 _ _ _ rfl _ (S.old_range hy) _ Try.underlying106 rfl 35 kR lN _ rfl rfl ?_) | (refine step_loadP S 106 _ _ _ rfl _ _ _ pk 35 _ pT lN _ Try.underlying106 rfl kR rfl ?_)) | fail)
      go_ret
      exact ⟨_, rfl, by rw [HNO.out]; rfl, S⟩
set_option maxRecDepth 100000 in
set_option maxHeartbeats 1000000 in
theorem containsR_s (v : Value) (l : List Rcd) (f : FuncId) (fn : Func) (p : Rcd → Bool) (w0 : World) (h : Sl w0 35 v l.length (l.flatMap rcdL)) (hf : Try.prog.funcs[f]? = some fn) (hn : (fn.name == "runtime.NumGoroutine") = false) (hb : fn.body.isNone = false)
    (hc : ∀ x w, Calls Try.prog f #[.agg (rcdL x).toArray] w fun e w' => e = .returned (.bool (p x)) ∧ Has w w' []) :
    Calls Try.prog 113 #[v, .func (.func f) #[] #[]] w0 fun e w' => e = .returned (.bool (l.any p)) ∧ Has w0 w' [] := by
  have S := Has.start w0
  have p1 := fun w h => indexR_s v l f fn p w h hf hn hb hc
  have H := Lib.hid h; have P1 := Lib.hid p1; clear h p1
  clear hf hn hb hc
  go_enter Try.func113, Try.ntmps113
  go_wp2_with (first | (go_at_call 116; (with_reducible refine (P1.out _ (S.old H.out)).mono ?_); rintro e w1 ⟨n, rfl, hn, T⟩; replace S := S.call T; clear T; (try simp only [z4, z5] at S); have HN := Lib.hid hn; clear hn) | fail)
  go_ret
  exact ⟨by rw [← HN.out]; rfl, S⟩
set_option maxRecDepth 100000 in
set_option maxHeartbeats 4000000 in
theorem indexS_s (v : Value) (l : List Sgt) (f : FuncId) (fn : Func) (p : Sgt → Bool) (w0 : World) (h : Sl w0 3 v l.length (l.flatMap sgtL)) (hf : Try.prog.funcs[f]? = some fn) (hn : (fn.name == "runtime.NumGoroutine") = false) (hb : fn.body.isNone = false)
    (hc : ∀ x w, Calls Try.prog f #[.agg (sgtL x).toArray] w fun e w' => e = .returned (.bool (p x)) ∧ Has w w' []) :
    Calls Try.prog 109 #[v, .func (.func f) #[] #[]] w0 fun e w' => ∃ n : Int, e = .returned (.int .i64 n) ∧ decide (0 ≤ n) = l.any p ∧ Has w0 w' [] := by
  have S := Has.start w0
  obtain ⟨a0, c0, rfl, k1, k2⟩ := Sl.shape h
  unfold maxLen at k2
  have H := Lib.hid h; have HF := Lib.hid hf; have HN := Lib.hid hn; have HB := Lib.hid hb; have HC := Lib.hid hc; clear h hf hn hb hc
  go_enter Try.func109, Try.ntmps109
  go_wp2
  go_loopw [8] (fun t wr => ∃ (k : Nat), k ≤ l.length ∧ t = .int .i64 (k : Int) ∧ (l.take k).any p = false ∧ Has w0 wr []) (fun t _ => l.length - (intOf t).toNat)
  case atStart => exact ⟨0, Nat.zero_le _, rfl, rfl, S⟩
  case round =>
    clear S
    obtain ⟨k, hk, rfl, hno, S⟩ := hrel
    by_cases hlt : k < l.length
    · have hx : l[k]? = some l[k] := List.getElem?_eq_getElem hlt
      obtain ⟨b, off, rfl, hcell⟩ := H.out.atA (by omega)
      have hrg := H.out.elem sgtL_length (by decide) k _ hx
      have hsucc : (l.take (k + 1)).any p = ((l.take k).any p || p l[k]) := by rw [List.take_succ_eq_append_getElem hlt, List.any_append]; simp
      have hany : p l[k] = true → l.any p = true := fun h => List.any_eq_true.2 ⟨l[k], List.getElem_mem hlt, h⟩
      have hmem : l[k] ∈ l := List.getElem_mem hlt
      obtain ⟨x, hxe⟩ : ∃ x, x = l[k] := ⟨_, rfl⟩
      rw [← hxe] at hrg hsucc hany hmem
      rw [hno, Bool.false_or] at hsucc
      obtain ⟨q, hq⟩ : ∃ q, q = p x := ⟨_, rfl⟩
      rw [← hq] at hsucc hany
      have hcx : ∀ w, Calls Try.prog f #[.agg (sgtL x).toArray] w fun e w' => e = .returned (.bool q) ∧ Has w w' [] := fun w => by rw [hq]; exact HC.out x w
      clear hq
      have hki : (k : Int) < (l.length : Int) := by omega
      have hki2 : (k : Int) < 9223372036854775807 := by omega
      have HRG := Lib.hid hrg; have HSUCC := Lib.hid hsucc; have HANY := Lib.hid hany; have HMEM := Lib.hid hmem; have HNO := Lib.hid hno; have HCX := Lib.hid hcx; clear hrg hsucc hany hmem hno hcx
      clear hx hxe hcell
      cases q
      · go_wp2_with (first | ((with_reducible refine iD 16 (.call _) ?_); refine step_callV1 (.tmp 11) [.tmp 15] _ f fn [] [.agg (sgtL x).toArray] rfl rfl HF.out HN.out HB.out (HCX.out _) gw ?_; rintro e w1 ⟨rfl, T⟩; refine ⟨_, rfl, ?_⟩; replace S := S.call T; clear T; simp only [List.nil_append] at S; simp only [Act.put, List.setIfInBounds_toArray, List.set_cons_succ, List.set_cons_zero]) | ((with_reducible refine iO _ (.load 101 _) ?_); first | (refine step_loadR 101 _ _ _ rfl _ (S.old_range hy) _ Try.underlying101 rfl 3 kR lN _ rfl rfl ?_) | (refine step_loadP S 101 _ _ _ rfl _ _ _ pk 3 _ pT lN _ Try.underlying101 rfl kR rfl ?_)) | fail)
        go_roundw
        case rel => exact ⟨k + 1, by omega, by go_num, HSUCC.out, S⟩
        case measure => simp [intOf]; omega
      · go_wp2_with (first | ((with_reducible refine iD 16 (.call _) ?_); refine step_callV1 (.tmp 11) [.tmp 15] _ f fn [] [.agg (sgtL x).toArray] rfl rfl HF.out HN.out HB.out (HCX.out _) gw ?_; rintro e w1 ⟨rfl, T⟩; refine ⟨_, rfl, ?_⟩; replace S := S.call T; clear T; simp only [List.nil_append] at S; simp only [Act.put, List.setIfInBounds_toArray, List.set_cons_succ, List.set_cons_zero]) | ((with_reducible refine iO _ (.load 101 _) ?_); first | (refine step_loadR 101 _ _ _ rfl _ (S.old_range hy) _ Try.underlying101 rfl 3 kR lN _ rfl rfl ?_) | (refine step_loadP S 101 _ _ _ rfl _ _ _ pk 3 _ pT lN _ Try.underlying101 rfl kR rfl ?_)) | fail)
        go_ret
        exact ⟨_, rfl, by rw [HANY.out (by simp)]; exact decide_eq_true (by omega), S⟩
    · obtain rfl : k = l.length := by omega
      rw [List.take_length] at hno
      have hki : ¬ (l.length : Int) < (l.length : Int) := by omega
      have HNO := Lib.hid hno; clear hno
      go_wp2_with (first | ((with_reducible refine iO _ (.load 101 _) ?_); first | (refine step_loadR 101 _ _ _ rfl _ (S.old_range hy) _ Try.underlying101 rfl 3 kR lN _ rfl rfl ?_) | (refine step_loadP S 101 _ _ _ rfl _ _ _ pk 3 _ pT lN _ Try.underlying101 rfl kR rfl ?_)) | fail)
      go_ret
      exact ⟨_, rfl, by rw [HNO.out]; rfl, S⟩
set_option maxRecDepth 100000 in
set_option maxHeartbeats 1000000 in
theorem containsS_s (v : Value) (l : List Sgt) (f : FuncId) (fn : Func) (p : Sgt → Bool) (w0 : World) (h : Sl w0 3 v l.length (l.flatMap sgtL)) (hf : Try.prog.funcs[f]? = some fn) (hn : (fn.name == "runtime.NumGoroutine") = false) (hb : fn.body.isNone = false)
    (hc : ∀ x w, Calls Try.prog f #[.agg (sgtL x).toArray] w fun e w' => e = .returned (.bool (p x)) ∧ Has w w' []) :
    Calls Try.prog 108 #[v, .func (.func f) #[] #[]] w0 fun e w' => e = .returned (.bool (l.any p)) ∧ Has w0 w' [] := by
  have S := Has.start w0
  have p1 := fun w h => indexS_s v l f fn p w h hf hn hb hc
  have H := Lib.hid h; have P1 := Lib.hid p1; clear h p1
  clear hf hn hb hc
  go_enter Try.func108, Try.ntmps108
  go_wp2_with (first | (go_at_call 109; (with_reducible refine (P1.out _ (S.old H.out)).mono ?_); rintro e w1 ⟨n, rfl, hn, T⟩; replace S := S.call T; clear T; (try simp only [z4, z5] at S); have HN := Lib.hid hn; clear hn) | fail)
  go_ret
  exact ⟨by rw [← HN.out]; rfl, S⟩
end Go.Proofs.Ytfhkmmagpnojmaa
