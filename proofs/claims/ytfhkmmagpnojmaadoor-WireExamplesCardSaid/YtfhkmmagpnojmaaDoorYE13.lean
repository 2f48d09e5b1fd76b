/- Several texts under one header: what the claim needs of IdxF, RcV, ChV, RpV, RpW. No condition but those that each names. -/
import Derived.Test.YtfhkmmagpnojmaaDoorYE1
import Derived.Test.YtfhkmmagpnojmaaDoorYE5
import Derived.Test.YtfhkmmagpnojmaaDoorYE7
import Derived.Test.YtfhkmmagpnojmaaDoorYE6
import Derived.Test.YtfhkmmagpnojmaaDoorYE9
import Derived.Deep.Cut
import Derived.Test.YtfhkmmagpnojmaaDoorYE10
set_option linter.unusedSimpArgs false
set_option linter.unusedVariables false

/- slices.IndexFunc and ContainsFunc over slices that came in. Conditions: those that are named. -/
namespace Go.Proofs.YtfhkmmagpnojmaaDoor
open Go.RowKit

/-- A function value is called. -/
theorem step_callV1 {P : Program} {ops : Array Oper} {rest : List Oper} {a : Act} {w : World} {Q : Exit → Act → World → Prop} {dst : Option Tmp} {ty : TypeId} {pos : String} {after : Array Edge} {gd : Option (Nat × Bool)} {R : Ending → World → Prop} (x : Operand) (xs : List Operand) (ts : Array TypeId) (f : FuncId) (fn : Func) (caps vs : List Value) (hx : a.eval x = .func (.func f) #[] caps.toArray) (hxs : xs.map a.eval = vs)
    (hf : P.funcs[f]? = some fn) (hn : (fn.name == "runtime.NumGoroutine") = false) (hb : fn.body.isNone = false) (hc : Calls P f (vs ++ caps).toArray w R)
    (hw : Region.wanted ⟨dst, .call { callee := .value x, args := xs.toArray, argTypes := ts }, ty, pos, after, gd⟩ (yielded ops a.tmps) = true)
    (h : ∀ e w', R e w' → ∃ v, e = .returned v ∧ wpList P ops Q rest (a.put dst v) w') : wpList P ops Q (⟨dst, .call { callee := .value x, args := xs.toArray, argTypes := ts }, ty, pos, after, gd⟩ :: rest) a w := by
  subst hxs
  have hrun : (execOp a.eval ⟨dst, .call { callee := .value x, args := xs.toArray, argTypes := ts }, ty, pos, after, gd⟩).run P w = .ok (.enter f (xs.map a.eval ++ caps).toArray) w := by
    obtain ⟨b, hb'⟩ : ∃ b, fn.body = some b := by
      cases h : fn.body with
      | none => rw [h] at hb; cases hb
      | some b => exact ⟨b, rfl⟩
    have hn' : ¬ fn.name = "runtime.NumGoroutine" := by simpa using hn
    simp [execOp, resolve, hx, Deferred.ofValue, invoke, callFunc, hf, hn', hb', Result.andThen]
  refine wpList_step fun K hK => ?_
  rw [if_pos hw]
  unfold Oper.wp
  rw [hrun, Oper.upon_enter]
  refine hc.mono fun e w' he => ?_
  obtain ⟨v, rfl, hp⟩ := h e w' he
  exact hK _ _ hp
set_option maxRecDepth 100000 in
set_option maxHeartbeats 4000000 in
theorem indexR_s (v : Value) (l : List Rcd) (f : FuncId) (fn : Func) (p : Rcd → Bool) (w0 : World) (h : Sl w0 35 v l.length (l.flatMap rcdL)) (hf : Tryd.prog.funcs[f]? = some fn) (hn : (fn.name == "runtime.NumGoroutine") = false) (hb : fn.body.isNone = false)
    (hc : ∀ x w, Calls Tryd.prog f #[.agg (rcdL x).toArray] w fun e w' => e = .returned (.bool (p x)) ∧ Has w w' []) :
    Calls Tryd.prog 93 #[v, .func (.func f) #[] #[]] w0 fun e w' => ∃ n : Int, e = .returned (.int .i64 n) ∧ decide (0 ≤ n) = l.any p ∧ Has w0 w' [] := by
  have S := Has.start w0
  obtain ⟨a0, c0, rfl, k1, k2⟩ := Sl.shape h
  unfold maxLen at k2
  have H := Lib.hid h; have HF := Lib.hid hf; have HN := Lib.hid hn; have HB := Lib.hid hb; have HC := Lib.hid hc; clear h hf hn hb hc
  go_enter Tryd.func93, Tryd.ntmps93
  go_wp2
  go_loopw [8] (fun t wr => ∃ (k : Nat), k ≤ l.length ∧ t = .int .i64 (k : Int) ∧ (l.take k).any p = false ∧ Has w0 wr []) (fun t _ => l.length - (intOf t).toNat)
  case atStart => exact ⟨0, Nat.zero_le _, rfl, rfl, S⟩
  case round =>
    clear S
    obtain ⟨k, hk, rfl, hno, S⟩ := hrel
    by_cases hlt : k < l.length
    · have hx : l[k]? = some l[k] := List.getElem?_eq_getElem hlt
      obtain ⟨b, off, rfl, hcell⟩ := H.out.atA (by omega)
      have hrg := H.out.elem rcdL_length (by decide) k _ hx
      have hsucc : (l.take (k + 1)).any p = ((l.take k).any p || p l[k]) := by rw [List.take_succ_eq_append_getElem hlt, List.any_append]; simp
      have hany : p l[k] = true → l.any p = true := fun h => List.any_eq_true.2 ⟨l[k], List.getElem_mem hlt, h⟩
      have hmem : l[k] ∈ l := List.getElem_mem hlt
      obtain ⟨x, hxe⟩ : ∃ x, x = l[k] := ⟨_, rfl⟩
      rw [← hxe] at hrg hsucc hany hmem
      rw [hno, Bool.false_or] at hsucc
      obtain ⟨q, hq⟩ : ∃ q, q = p x := ⟨_, rfl⟩
      rw [← hq] at hsucc hany
      have hcx : ∀ w, Calls Tryd.prog f #[.agg (rcdL x).toArray] w fun e w' => e = .returned (.bool q) ∧ Has w w' [] := fun w => by rw [hq]; exact HC.out x w
      clear hq
      have hki : (k : Int) < (l.length : Int) := by omega
      have hki2 : (k : Int) < 9223372036854775807 := by omega
      have HRG := Lib.hid hrg; have HSUCC := Lib.hid hsucc; have HANY := Lib.hid hany; have HMEM := Lib.hid hmem; have HNO := Lib.hid hno; have HCX := Lib.hid hcx; clear hrg hsucc hany hmem hno hcx
      clear hx hxe hcell
      cases q
      · go_wp2_with (first | ((with_reducible refine iD 16 (.call _) ?_); refine step_callV1 (.tmp 11) [.tmp 15] _ f fn [] [.agg (rcdL x).toArray] rfl rfl HF.out HN.out HB.out (HCX.out _) gw ?_; rintro e w1 ⟨rfl, T⟩; refine ⟨_, rfl, ?_⟩; replace S := S.call T; clear T; simp only [List.nil_append] at S; simp only [Act.put, List.setIfInBounds_toArray, List.set_cons_succ, List.set_cons_zero]) | ((with_reducible refine iO _ (.load 50 _) ?_); first | (refine step_loadR 50 _ _ _ rfl _ (S.old_range hy) _ Tryd.underlying50 rfl 35 kR lN _ rfl rfl ?_) | (refine step_loadP S 50 _ _ _ rfl _ _ _ pk 35 _ pT lN _ Tryd.underlying50 rfl kR rfl ?_)) | fail)
        go_roundw
        case rel => exact ⟨k + 1, by omega, by go_num, HSUCC.out, S⟩
        case measure => simp [intOf]; omega
      · go_wp2_with (first | ((with_reducible refine iD 16 (.call _) ?_); refine step_callV1 (.tmp 11) [.tmp 15] _ f fn [] [.agg (rcdL x).toArray] rfl rfl HF.out HN.out HB.out (HCX.out _) gw ?_; rintro e w1 ⟨rfl, T⟩; refine ⟨_, rfl, ?_⟩; replace S := S.call T; clear T; simp only [List.nil_append] at S; simp only [Act.put, List.setIfInBounds_toArray, List.set_cons_succ, List.set_cons_zero]) | ((with_reducible refine iO _ (.load 50 _) ?_); first | (refine step_loadR 50 _ _ _ rfl _ (S.old_range hy) _ Tryd.underlying50 rfl 35 kR lN _ rfl rfl ?_) | (refine step_loadP S 50 _ _ _ rfl _ _ _ pk 35 _ pT lN _ Tryd.underlying50 rfl kR rfl ?_)) | fail)
        go_ret
        exact ⟨_, rfl, by rw [HANY.out (by simp)]; exact decide_eq_true (by omega), S⟩
    · obtain rfl : k = l.length := by omega
      rw [List.take_length] at hno
      have hki : ¬ (l.length : Int) < (l.length : Int) := by omega
      have HNO := Lib.hid hno; clear hno
      go_wp2_with (first | fail)
      go_ret
      exact ⟨_, rfl, by rw [HNO.out]; rfl, S⟩
set_option maxRecDepth 100000 in
set_option maxHeartbeats 1000000 in
theorem containsR_s (v : Value) (l : List Rcd) (f : FuncId) (fn : Func) (p : Rcd → Bool) (w0 : World) (h : Sl w0 35 v l.length (l.flatMap rcdL)) (hf : Tryd.prog.funcs[f]? = some fn) (hn : (fn.name == "runtime.NumGoroutine") = false) (hb : fn.body.isNone = false)
    (hc : ∀ x w, Calls Tryd.prog f #[.agg (rcdL x).toArray] w fun e w' => e = .returned (.bool (p x)) ∧ Has w w' []) :
    Calls Tryd.prog 80 #[v, .func (.func f) #[] #[]] w0 fun e w' => e = .returned (.bool (l.any p)) ∧ Has w0 w' [] := by
  have S := Has.start w0
  have p1 := fun w h => indexR_s v l f fn p w h hf hn hb hc
  have H := Lib.hid h; have P1 := Lib.hid p1; clear h p1
  clear hf hn hb hc
  go_enter Tryd.func80, Tryd.ntmps80
  go_wp2_with (first | (go_at_call 93; (with_reducible refine (P1.out _ (S.old H.out)).mono ?_); rintro e w1 ⟨n, rfl, hn, T⟩; replace S := S.call T; clear T; (try simp only [z4, z5] at S); have HN := Lib.hid hn; clear hn) | fail)
  go_ret
  exact ⟨by rw [← HN.out]; rfl, S⟩
set_option maxRecDepth 100000 in
set_option maxHeartbeats 4000000 in
theorem indexS_s (v : Value) (l : List Sgt) (f : FuncId) (fn : Func) (p : Sgt → Bool) (w0 : World) (h : Sl w0 3 v l.length (l.flatMap sgtL)) (hf : Tryd.prog.funcs[f]? = some fn) (hn : (fn.name == "runtime.NumGoroutine") = false) (hb : fn.body.isNone = false)
    (hc : ∀ x w, Calls Tryd.prog f #[.agg (sgtL x).toArray] w fun e w' => e = .returned (.bool (p x)) ∧ Has w w' []) :
    Calls Tryd.prog 151 #[v, .func (.func f) #[] #[]] w0 fun e w' => ∃ n : Int, e = .returned (.int .i64 n) ∧ decide (0 ≤ n) = l.any p ∧ Has w0 w' [] := by
  have S := Has.start w0
  obtain ⟨a0, c0, rfl, k1, k2⟩ := Sl.shape h
  unfold maxLen at k2
  have H := Lib.hid h; have HF := Lib.hid hf; have HN := Lib.hid hn; have HB := Lib.hid hb; have HC := Lib.hid hc; clear h hf hn hb hc
  go_enter Tryd.func151, Tryd.ntmps151
  go_wp2
  go_loopw [8] (fun t wr => ∃ (k : Nat), k ≤ l.length ∧ t = .int .i64 (k : Int) ∧ (l.take k).any p = false ∧ Has w0 wr []) (fun t _ => l.length - (intOf t).toNat)
  case atStart => exact ⟨0, Nat.zero_le _, rfl, rfl, S⟩
  case round =>
    clear S
    obtain ⟨k, hk, rfl, hno, S⟩ := hrel
    by_cases hlt : k < l.length
    · have hx : l[k]? = some l[k] := List.getElem?_eq_getElem hlt
      obtain ⟨b, off, rfl, hcell⟩ := H.out.atA (by omega)
      have hrg := H.out.elem sgtL_length (by decide) k _ hx
      have hsucc : (l.take (k + 1)).any p = ((l.take k).any p || p l[k]) := by rw [List.take_succ_eq_append_getElem hlt, List.any_append]; simp
      have hany : p l[k] = true → l.any p = true := fun h => List.any_eq_true.2 ⟨l[k], List.getElem_mem hlt, h⟩
      have hmem : l[k] ∈ l := List.getElem_mem hlt
      obtain ⟨x, hxe⟩ : ∃ x, x = l[k] := ⟨_, rfl⟩
      rw [← hxe] at hrg hsucc hany hmem
      rw [hno, Bool.false_or] at hsucc
      obtain ⟨q, hq⟩ : ∃ q, q = p x := ⟨_, rfl⟩
      rw [← hq] at hsucc hany
      have hcx : ∀ w, Calls Tryd.prog f #[.agg (sgtL x).toArray] w fun e w' => e = .returned (.bool q) ∧ Has w w' [] := fun w => by rw [hq]; exact HC.out x w
      clear hq
      have hki : (k : Int) < (l.length : Int) := by omega
      have hki2 : (k : Int) < 9223372036854775807 := by omega
      have HRG := Lib.hid hrg; have HSUCC := Lib.hid hsucc; have HANY := Lib.hid hany; have HMEM := Lib.hid hmem; have HNO := Lib.hid hno; have HCX := Lib.hid hcx; clear hrg hsucc hany hmem hno hcx
      clear hx hxe hcell
      cases q
      · go_wp2_with (first | ((with_reducible refine iD 16 (.call _) ?_); refine step_callV1 (.tmp 11) [.tmp 15] _ f fn [] [.agg (sgtL x).toArray] rfl rfl HF.out HN.out HB.out (HCX.out _) gw ?_; rintro e w1 ⟨rfl, T⟩; refine ⟨_, rfl, ?_⟩; replace S := S.call T; clear T; simp only [List.nil_append] at S; simp only [Act.put, List.setIfInBounds_toArray, List.set_cons_succ, List.set_cons_zero]) | ((with_reducible refine iO _ (.load 95 _) ?_); first | (refine step_loadR 95 _ _ _ rfl _ (S.old_range hy) _ Tryd.underlying95 rfl 3 kR lN _ rfl rfl ?_) | (refine step_loadP S 95 _ _ _ rfl _ _ _ pk 3 _ pT lN _ Tryd.underlying95 rfl kR rfl ?_)) | fail)
        go_roundw
        case rel => exact ⟨k + 1, by omega, by go_num, HSUCC.out, S⟩
        case measure => simp [intOf]; omega
      · go_wp2_with (first | ((with_reducible refine iD 16 (.call _) ?_); refine step_callV1 (.tmp 11) [.tmp 15] _ f fn [] [.agg (sgtL x).toArray] rfl rfl HF.out HN.out HB.out (HCX.out _) gw ?_; rintro e w1 ⟨rfl, T⟩; refine ⟨_, rfl, ?_⟩; replace S := S.call T; clear T; simp only [List.nil_append] at S; simp only [Act.put, List.setIfInBounds_toArray, List.set_cons_succ, List.set_cons_zero]) | ((with_reducible refine iO _ (.load 95 _) ?_); first | (refine step_loadR 95 _ _ _ rfl _ (S.old_range hy) _ Tryd.underlying95 rfl 3 kR lN _ rfl rfl ?_) | (refine step_loadP S 95 _ _ _ rfl _ _ _ pk 3 _ pT lN _ Tryd.underlying95 rfl kR rfl ?_)) | fail)
        go_ret
        exact ⟨_, rfl, by rw [HANY.out (by simp)]; exact decide_eq_true (by omega), S⟩
    · obtain rfl : k = l.length := by omega
      rw [List.take_length] at hno
      have hki : ¬ (l.length : Int) < (l.length : Int) := by omega
      have HNO := Lib.hid hno; clear hno
      go_wp2_with (first | fail)
      go_ret
      exact ⟨_, rfl, by rw [HNO.out]; rfl, S⟩
set_option maxRecDepth 100000 in
set_option maxHeartbeats 1000000 in
theorem containsS_s (v : Value) (l : List Sgt) (f : FuncId) (fn : Func) (p : Sgt → Bool) (w0 : World) (h : Sl w0 3 v l.length (l.flatMap sgtL)) (hf : Tryd.prog.funcs[f]? = some fn) (hn : (fn.name == "runtime.NumGoroutine") = false) (hb : fn.body.isNone = false)
    (hc : ∀ x w, Calls Tryd.prog f #[.agg (sgtL x).toArray] w fun e w' => e = .returned (.bool (p x)) ∧ Has w w' []) :
    Calls Tryd.prog 150 #[v, .func (.func f) #[] #[]] w0 fun e w' => e = .returned (.bool (l.any p)) ∧ Has w0 w' [] := by
  have S := Has.start w0
  have p1 := fun w h => indexS_s v l f fn p w h hf hn hb hc
  have H := Lib.hid h; have P1 := Lib.hid p1; clear h p1
  clear hf hn hb hc
  go_enter Tryd.func150, Tryd.ntmps150
  go_wp2_with (first | (go_at_call 151; (with_reducible refine (P1.out _ (S.old H.out)).mono ?_); rintro e w1 ⟨n, rfl, hn, T⟩; replace S := S.call T; clear T; (try simp only [z4, z5] at S); have HN := Lib.hid hn; clear hn) | fail)
  go_ret
  exact ⟨by rw [← HN.out]; rfl, S⟩
set_option maxRecDepth 100000 in
set_option maxHeartbeats 4000000 in
theorem indexF_s (v : Value) (l : List (Value × List UInt8)) (f : FuncId) (fn : Func) (p : (Value × List UInt8) → Bool) (w0 : World) (h : Fr w0 v l) (hf : Tryd.prog.funcs[f]? = some fn) (hn : (fn.name == "runtime.NumGoroutine") = false) (hb : fn.body.isNone = false)
    (hc : ∀ x ∈ l, ∀ w, Bs w x.1 x.2 → Calls Tryd.prog f #[x.1] w fun e w' => e = .returned (.bool (p x)) ∧ Has w w' []) :
    Calls Tryd.prog 82 #[v, .func (.func f) #[] #[]] w0 fun e w' => ∃ n : Int, e = .returned (.int .i64 n) ∧ decide (0 ≤ n) = l.any p ∧ Has w0 w' [] := by
  have S := Has.start w0
  obtain ⟨a0, c0, rfl, k1, k2⟩ := Sl.shape h.1
  unfold maxLen at k2
  have H := Lib.hid h; have HF := Lib.hid hf; have HN := Lib.hid hn; have HB := Lib.hid hb; have HC := Lib.hid hc; clear h hf hn hb hc
  go_enter Tryd.func82, Tryd.ntmps82
  go_wp2
  go_loopw [8] (fun t wr => ∃ (k : Nat), k ≤ l.length ∧ t = .int .i64 (k : Int) ∧ (l.take k).any p = false ∧ Has w0 wr []) (fun t _ => l.length - (intOf t).toNat)
  case atStart => exact ⟨0, Nat.zero_le _, rfl, rfl, S⟩
  case round =>
    clear S
    obtain ⟨k, hk, rfl, hno, S⟩ := hrel
    by_cases hlt : k < l.length
    · have hx : l[k]? = some l[k] := List.getElem?_eq_getElem hlt
      obtain ⟨b, off, rfl, hcell⟩ := H.out.1.atA (by omega)
      have hrg := hcell k l[k].1 (by simp [hlt])
      have hsucc : (l.take (k + 1)).any p = ((l.take k).any p || p l[k]) := by rw [List.take_succ_eq_append_getElem hlt, List.any_append]; simp
      have hany : p l[k] = true → l.any p = true := fun h => List.any_eq_true.2 ⟨l[k], List.getElem_mem hlt, h⟩
      have hmem : l[k] ∈ l := List.getElem_mem hlt
      obtain ⟨x, hxe⟩ : ∃ x, x = l[k] := ⟨_, rfl⟩
      rw [← hxe] at hrg hsucc hany hmem
      rw [hno, Bool.false_or] at hsucc
      obtain ⟨q, hq⟩ : ∃ q, q = p x := ⟨_, rfl⟩
      rw [← hq] at hsucc hany
      have hcx : ∀ w, Bs w x.1 x.2 → Calls Tryd.prog f #[x.1] w fun e w' => e = .returned (.bool q) ∧ Has w w' [] := fun w h => by rw [hq]; exact HC.out x hmem w h
      clear hq
      have hki : (k : Int) < (l.length : Int) := by omega
      have hki2 : (k : Int) < 9223372036854775807 := by omega
      have HRG := Lib.hid hrg; have HSUCC := Lib.hid hsucc; have HANY := Lib.hid hany; have HMEM := Lib.hid hmem; have HNO := Lib.hid hno; have HCX := Lib.hid hcx; clear hrg hsucc hany hmem hno hcx
      clear hx hxe hcell
      cases q
      · go_wp2_with (first | ((with_reducible refine iD 16 (.call _) ?_); refine step_callV1 (.tmp 11) [.tmp 15] _ f fn [] [x.1] rfl rfl HF.out HN.out HB.out (HCX.out _ (S.oldB (H.out.2 x HMEM.out))) gw ?_; rintro e w1 ⟨rfl, T⟩; refine ⟨_, rfl, ?_⟩; replace S := S.call T; clear T; simp only [List.nil_append] at S; simp only [Act.put, List.setIfInBounds_toArray, List.set_cons_succ, List.set_cons_zero]) | ((with_reducible refine iO _ (.load 25 _) ?_); refine step_load1 25 _ _ _ rfl (cL) _ Tryd.underlying25 rfl rfl ?_) | fail)
        go_roundw
        case rel => exact ⟨k + 1, by omega, by go_num, HSUCC.out, S⟩
        case measure => simp [intOf]; omega
      · go_wp2_with (first | ((with_reducible refine iD 16 (.call _) ?_); refine step_callV1 (.tmp 11) [.tmp 15] _ f fn [] [x.1] rfl rfl HF.out HN.out HB.out (HCX.out _ (S.oldB (H.out.2 x HMEM.out))) gw ?_; rintro e w1 ⟨rfl, T⟩; refine ⟨_, rfl, ?_⟩; replace S := S.call T; clear T; simp only [List.nil_append] at S; simp only [Act.put, List.setIfInBounds_toArray, List.set_cons_succ, List.set_cons_zero]) | ((with_reducible refine iO _ (.load 25 _) ?_); refine step_load1 25 _ _ _ rfl (cL) _ Tryd.underlying25 rfl rfl ?_) | fail)
        go_ret
        exact ⟨_, rfl, by rw [HANY.out (by simp)]; exact decide_eq_true (by omega), S⟩
    · obtain rfl : k = l.length := by omega
      rw [List.take_length] at hno
      have hki : ¬ (l.length : Int) < (l.length : Int) := by omega
      have HNO := Lib.hid hno; clear hno
      go_wp2_with (first | fail)
      go_ret
      exact ⟨_, rfl, by rw [HNO.out]; rfl, S⟩
set_option maxRecDepth 100000 in
set_option maxHeartbeats 1000000 in
theorem containsF_s (v : Value) (l : List (Value × List UInt8)) (f : FuncId) (fn : Func) (p : (Value × List UInt8) → Bool) (w0 : World) (h : Fr w0 v l) (hf : Tryd.prog.funcs[f]? = some fn) (hn : (fn.name == "runtime.NumGoroutine") = false) (hb : fn.body.isNone = false)
    (hc : ∀ x ∈ l, ∀ w, Bs w x.1 x.2 → Calls Tryd.prog f #[x.1] w fun e w' => e = .returned (.bool (p x)) ∧ Has w w' []) :
    Calls Tryd.prog 51 #[v, .func (.func f) #[] #[]] w0 fun e w' => e = .returned (.bool (l.any p)) ∧ Has w0 w' [] := by
  have S := Has.start w0
  have p1 := fun w h => indexF_s v l f fn p w h hf hn hb hc
  have H := Lib.hid h; have P1 := Lib.hid p1; clear h p1
  clear hf hn hb hc
  go_enter Tryd.func51, Tryd.ntmps51
  go_wp2_with (first | (go_at_call 82; (with_reducible refine (P1.out _ (S.oldF H.out)).mono ?_); rintro e w1 ⟨n, rfl, hn, T⟩; replace S := S.call T; clear T; (try simp only [z4, z5] at S); have HN := Lib.hid hn; clear hn) | fail)
  go_ret
  exact ⟨by rw [← HN.out]; rfl, S⟩
end Go.Proofs.YtfhkmmagpnojmaaDoor

/- Records: which are valid, in the program and in the specification. No condition but the reach. -/
namespace Go.Proofs.YtfhkmmagpnojmaaDoor
open Go.RowKit

theorem leI (n m : Nat) : decide ((n : Int) ≤ (m : Int)) = decide (n ≤ m) := by rw [Bool.eq_iff_iff, decide_eq_true_eq, decide_eq_true_eq]; omega
set_option maxRecDepth 100000 in
set_option maxHeartbeats 1000000 in
theorem in_s (n m : Int) (w0 : World) : Calls Tryd.prog 71 #[.int .i64 n, .int .i64 m] w0 fun e w' => e = .returned (.bool (decide (0 ≤ n ∧ n ≤ m))) ∧ Has w0 w' [] := by
  have S := Has.start w0
  by_cases h0 : 0 ≤ n
  · have e : decide (0 ≤ n ∧ n ≤ m) = decide (n ≤ m) := by simp [h0]
    rw [e]
    clear e
    go_enter Tryd.func71, Tryd.ntmps71
    go_wp2
    go_ret
    exact ⟨rfl, S⟩
  · have e : decide (0 ≤ n ∧ n ≤ m) = false := by simp [h0]
    rw [e]
    clear e
    go_enter Tryd.func71, Tryd.ntmps71
    go_wp2
    go_ret
    exact ⟨rfl, S⟩
theorem rcdV_parts (x : Rcd) : rcdV x = (decide (x.tick.toNat ≤ 4611686018427387904) && (decide (x.kind.toNat ≤ 6) && decide (0 ≤ x.code.v ∧ x.code.v ≤ 65535))) := by
  unfold rcdV
  rw [Bool.eq_iff_iff]
  simp only [decide_eq_true_eq, Bool.and_eq_true]
set_option maxRecDepth 100000 in
set_option maxHeartbeats 2000000 in
theorem validRecord_s (x : Rcd) (w0 : World) : Calls Tryd.prog 46 #[.agg (rcdL x).toArray] w0 fun e w' => e = .returned (.bool (rcdV x)) ∧ Has w0 w' [] := by
  have S := Has.start w0
  have pc := fun w => in_s x.code.v 65535 w
  rw [rcdV_parts]
  have h1 := leI x.tick.toNat 4611686018427387904
  have h2 := leI x.kind.toNat 6
  generalize decide (0 ≤ x.code.v ∧ x.code.v ≤ 65535) = cb at *
  by_cases k1 : x.tick.toNat ≤ 4611686018427387904
  · have i1 : (x.tick.toNat : Int) ≤ 4611686018427387904 := by omega
    rw [decide_eq_true k1, Bool.true_and]
    by_cases k2 : x.kind.toNat ≤ 6
    · have i2 : (x.kind.toNat : Int) ≤ 6 := by omega
      rw [decide_eq_true k2, Bool.true_and]
      have PC := Lib.hid pc; clear pc
      clear h1 h2 k1 k2
      go_enter Tryd.func46, Tryd.ntmps46
      go_wp2_with (first | ((with_reducible refine iD 1 (.box 50 (.tmp 0)) ?_); refine step_boxA (dst := some 1) S 50 (.tmp 0) _ rfl gw ?_; clear S; intro g1 w S) | ((with_reducible refine iO _ (.load 23 _) ?_); refine step_load1 23 _ _ _ rfl (cL) _ Tryd.underlying23 rfl gw ?_) | ((with_reducible refine iO _ (.load 5 _) ?_); refine step_load1 5 _ _ _ rfl (cL) _ Tryd.underlying5 rfl gw ?_) | ((with_reducible refine iO _ (.load 24 _) ?_); refine step_load1 24 _ _ _ rfl (cL) _ Tryd.underlying24 rfl gw ?_) | (go_at_call 71; (with_reducible refine (PC.out _).mono ?_); rintro e w1 ⟨rfl, T⟩; replace S := S.call T; clear T; (try simp only [z4, z5] at S)) | fail)
      go_ret
      exact ⟨rfl, S.nil⟩
    · have i2 : ¬ (x.kind.toNat : Int) ≤ 6 := by omega
      rw [decide_eq_false k2, Bool.false_and]
      clear h1 h2 k1 k2 pc
      go_enter Tryd.func46, Tryd.ntmps46
      go_wp2_with (first | ((with_reducible refine iD 1 (.box 50 (.tmp 0)) ?_); refine step_boxA (dst := some 1) S 50 (.tmp 0) _ rfl gw ?_; clear S; intro g1 w S) | ((with_reducible refine iO _ (.load 23 _) ?_); refine step_load1 23 _ _ _ rfl (cL) _ Tryd.underlying23 rfl gw ?_) | ((with_reducible refine iO _ (.load 5 _) ?_); refine step_load1 5 _ _ _ rfl (cL) _ Tryd.underlying5 rfl gw ?_) | fail)
      go_ret
      exact ⟨rfl, S.nil⟩
  · have i1 : ¬ (x.tick.toNat : Int) ≤ 4611686018427387904 := by omega
    rw [decide_eq_false k1, Bool.false_and]
    clear h1 h2 k1 pc
    go_enter Tryd.func46, Tryd.ntmps46
    go_wp2_with (first | ((with_reducible refine iD 1 (.box 50 (.tmp 0)) ?_); refine step_boxA (dst := some 1) S 50 (.tmp 0) _ rfl gw ?_; clear S; intro g1 w S) | ((with_reducible refine iO _ (.load 23 _) ?_); refine step_load1 23 _ _ _ rfl (cL) _ Tryd.underlying23 rfl gw ?_) | fail)
    go_ret
    exact ⟨rfl, S.nil⟩
theorem build_rc3 (x y z : Int) (w : World) : (Instr.build 50 #[(0, .int .u64 x), (1, .int .u8 y), (2, .int .i64 z)]).run Tryd.prog w = .ok (.agg ([Value.int .u64 x, .int .u8 y, .int .i64 z] ++ zs32.map by8).toArray) w := by kernel_rfl
set_option maxRecDepth 100000 in
/-- A record without a link. -/
theorem step_buildRc3 {ops : Array Oper} {rest : List Oper} {a : Act} {w : World} {Q : Exit → Act → World → Prop} {dst : Option Tmp} {ty : TypeId} {pos : String} {after : Array Edge} {gd : Option (Nat × Bool)} (x y z : Operand) (t : UInt64) (k : UInt8) (c : I64)
    (hx : a.eval x = .int .u64 (t.toNat : Int)) (hy : a.eval y = by8 k) (hz : a.eval z = .int .i64 c.v)
    (hw : Region.wanted ⟨dst, .build 50 #[(0, x), (1, y), (2, z)], ty, pos, after, gd⟩ (yielded ops a.tmps) = true)
    (h : wpList Tryd.prog ops Q rest (a.put dst (.agg (rcdL ⟨t, k, c, zs32, rfl⟩).toArray)) w) : wpList Tryd.prog ops Q (⟨dst, .build 50 #[(0, x), (1, y), (2, z)], ty, pos, after, gd⟩ :: rest) a w := by
  refine step_val (v := .agg (rcdL ⟨t, k, c, zs32, rfl⟩).toArray) hw ?_ h
  have hp : (#[(0, x), (1, y), (2, z)].map fun (i, x) => (i, a.eval x)) = #[(0, .int .u64 (t.toNat : Int)), (1, .int .u8 (k.toNat : Int)), (2, .int .i64 c.v)] := by simp [hx, hy, hz]
  have := build_rc3 t.toNat k.toNat c.v w
  simp only [execOp, hp, Sem.run_bind, this, Result.andThen_ok, Sem.run_pure]
  rfl
end Go.Proofs.YtfhkmmagpnojmaaDoor

/- The records of a chain are valid. No condition but the reach. -/
namespace Go.Proofs.YtfhkmmagpnojmaaDoor
open Go.RowKit

set_option maxRecDepth 100000 in
set_option maxHeartbeats 1000000 in
theorem chain1_s (x : Rcd) (w0 : World) : Calls Tryd.prog 81 #[.agg (rcdL x).toArray] w0 fun e w' => e = .returned (.bool (!rcdV x)) ∧ Has w0 w' [] := by
  have S := Has.start w0
  have pv := fun w => validRecord_s x w
  have PV := Lib.hid pv; clear pv
  go_enter Tryd.func81, Tryd.ntmps81
  go_wp2_with (first | ((with_reducible refine iD 1 (.box 50 (.tmp 0)) ?_); refine step_boxA (dst := some 1) S 50 (.tmp 0) _ rfl rfl ?_; clear S; intro g1 w S) | ((with_reducible refine iO _ (.load 50 _) ?_); first | (refine step_load S 50 _ _ rfl _ _ _ pk _ Tryd.underlying50 rfl 35 kR lN rfl ?_) | (refine step_loadO 50 _ _ rfl _ _ _ (S.old_heap (Hid.out (by assumption))) _ Tryd.underlying50 rfl 35 kR lN rfl ?_) | (refine step_loadR 50 _ _ _ rfl _ (S.old_range hy) _ Tryd.underlying50 rfl 35 kR lN _ rfl rfl ?_)) | (go_at_call 46; (with_reducible refine (PV.out _).mono ?_); rintro e w1 ⟨rfl, T⟩; replace S := S.call T; clear T; (try simp only [z4, z5] at S)) | fail)
  go_ret
  exact ⟨rfl, S.nil⟩
def chV (l : List Rcd) : Bool := decide (l.length ≤ 32) && !(l.any fun x => !rcdV x)
theorem chV_iff (l : List Rcd) : chV l = true ↔ l.length ≤ 32 ∧ ∀ x ∈ l, rcdV x = true := by simp [chV]
set_option maxRecDepth 100000 in
set_option maxHeartbeats 1000000 in
theorem chainV_s (n : Int) (v : Value) (l : List Rcd) (w0 : World) (h : Sl w0 35 v l.length (l.flatMap rcdL)) :
    Calls Tryd.prog 50 #[.agg #[.int .u32 n, v]] w0 fun e w' => e = .returned (.bool (chV l)) ∧ Has w0 w' [] := by
  have S := Has.start w0
  have pc := fun v w h => containsR_s v l 81 Tryd.f81 (fun x => !rcdV x) w h Tryd.func81 kR kR chain1_s
  obtain ⟨a0, c0, rfl, k1, k2⟩ := Sl.shape h
  unfold chV
  obtain ⟨P, hP⟩ : ∃ P, P = l.any fun x => !rcdV x := ⟨_, rfl⟩
  rw [← hP] at pc ⊢
  clear hP
  by_cases hl : l.length ≤ 32
  · rw [decide_eq_true hl, Bool.true_and]
    have i1 : (l.length : Int) ≤ 32 := by omega
    have H := Lib.hid h; have PC := Lib.hid pc; clear h pc
    go_enter Tryd.func50, Tryd.ntmps50
    go_wp2_with (first | ((with_reducible refine iD 1 (.box 108 (.tmp 0)) ?_); refine step_boxA (dst := some 1) S 108 (.tmp 0) _ rfl gw ?_; clear S; intro g1 w S) | ((with_reducible refine iO _ (.load 31 _) ?_); refine step_load1 31 _ _ _ rfl (cL) _ Tryd.underlying31 rfl gw ?_) | (go_at_call 80; (with_reducible refine (PC.out _ _ (S.old H.out)).mono ?_); rintro e w1 ⟨rfl, T⟩; replace S := S.call T; clear T; (try simp only [z4, z5] at S)) | fail)
    go_ret
    exact ⟨rfl, S.nil⟩
  · rw [decide_eq_false hl, Bool.false_and]
    have i1 : ¬ (l.length : Int) ≤ 32 := by omega
    have H := Lib.hid h; have PC := Lib.hid pc; clear h pc
    go_enter Tryd.func50, Tryd.ntmps50
    go_wp2_with (first | ((with_reducible refine iD 1 (.box 108 (.tmp 0)) ?_); refine step_boxA (dst := some 1) S 108 (.tmp 0) _ rfl gw ?_; clear S; intro g1 w S) | ((with_reducible refine iO _ (.load 31 _) ?_); refine step_load1 31 _ _ _ rfl (cL) _ Tryd.underlying31 rfl gw ?_) | fail)
    go_ret
    exact ⟨rfl, S.nil⟩
theorem build_ch (a : Option Addr) (n c : Nat) (w : World) : (Instr.build 108 #[(1, .slice a n c)]).run Tryd.prog w = .ok (.agg #[.int .u32 0, .slice a n c]) w := by kernel_rfl
end Go.Proofs.YtfhkmmagpnojmaaDoor

/- Whether the body of a reply is valid. No condition but the reach. -/
namespace Go.Proofs.YtfhkmmagpnojmaaDoor
open Go.RowKit

/-- Whether the fields of a body are those of a valid one. -/
def bkV (q : BK) (r : Rp) : Bool := match q with
  | .n => true
  | .o => decide (0 ≤ r.order.v ∧ r.order.v ≤ 65535)
  | .s => decide (1 ≤ r.state.toNat ∧ r.state.toNat ≤ 5 ∧ r.done.toNat ≤ 4611686018427387904)
  | .w => decide (r.robots.length ≤ 3) && (!(r.robots.any fun x => !sgtV x) && decide (0 ≤ r.queued.v ∧ r.queued.v ≤ 8))
  | .c => chV r.records
  | .t => true
set_option maxRecDepth 100000 in
set_option maxHeartbeats 1000000 in
theorem orderValid_g (n : Int) (w0 : World) : Calls Tryd.prog 141 #[.int .i64 n] w0 fun e w' => e = .returned (.bool (decide (0 ≤ n ∧ n ≤ 65535))) ∧ Has w0 w' [] := by
  have S := Has.start w0
  have p := fun w => in_s n 65535 w
  obtain ⟨D, hD⟩ : ∃ D, D = decide (0 ≤ n ∧ n ≤ 65535) := ⟨_, rfl⟩
  rw [← hD] at p ⊢
  clear hD
  have P := Lib.hid p; clear p
  go_enter Tryd.func141, Tryd.ntmps141
  go_wp2_with (first | (go_at_call 71; (with_reducible refine (P.out _).mono ?_); rintro e w1 ⟨rfl, T⟩; replace S := S.call T; clear T; (try simp only [z4, z5] at S)) | fail)
  go_ret
  exact ⟨rfl, S.nil⟩
set_option maxRecDepth 100000 in
set_option maxHeartbeats 1000000 in
theorem stateValid_s (x : UInt8) (d : UInt64) (w0 : World) : Calls Tryd.prog 144 #[.agg #[.int .u8 (x.toNat : Int), .int .u64 (d.toNat : Int)]] w0 fun e w' => e = .returned (.bool (decide (1 ≤ x.toNat ∧ x.toNat ≤ 5 ∧ d.toNat ≤ 4611686018427387904))) ∧ Has w0 w' [] := by
  have S := Has.start w0
  obtain ⟨D, hD⟩ : ∃ D, D = decide (1 ≤ x.toNat ∧ x.toNat ≤ 5 ∧ d.toNat ≤ 4611686018427387904) := ⟨_, rfl⟩
  rw [← hD]
  have key : ((x.toNat : Int) < 1 ∧ D = false) ∨ (1 ≤ (x.toNat : Int) ∧ 5 < (x.toNat : Int) ∧ D = false) ∨ (1 ≤ (x.toNat : Int) ∧ (x.toNat : Int) ≤ 5 ∧ 4611686018427387904 < (d.toNat : Int) ∧ D = false) ∨ (1 ≤ (x.toNat : Int) ∧ (x.toNat : Int) ≤ 5 ∧ (d.toNat : Int) ≤ 4611686018427387904 ∧ D = true) := by
    rw [hD]
    simp only [decide_eq_true_eq, decide_eq_false_iff_not]
    omega
  clear hD
  rcases key with ⟨j1, rfl⟩ | ⟨j1, j2, rfl⟩ | ⟨j1, j2, j3, rfl⟩ | ⟨j1, j2, j3, rfl⟩
  all_goals
    go_enter Tryd.func144, Tryd.ntmps144
    go_wp2_with (first | ((with_reducible refine iD 1 (.box 162 (.tmp 0)) ?_); refine step_boxA (dst := some 1) S 162 (.tmp 0) _ rfl gw ?_; clear S; intro g1 w S) | ((with_reducible refine iO _ (.load 5 _) ?_); refine step_load1 5 _ _ _ rfl (cL) _ Tryd.underlying5 rfl gw ?_) | ((with_reducible refine iO _ (.load 23 _) ?_); refine step_load1 23 _ _ _ rfl (cL) _ Tryd.underlying23 rfl gw ?_) | fail)
    go_ret
    exact ⟨by first | rfl | (simp; omega), S.nil⟩
set_option maxRecDepth 100000 in
set_option maxHeartbeats 2000000 in
theorem odd_s (x : Sgt) (w0 : World) : Calls Tryd.prog 149 #[.agg (sgtL x).toArray] w0 fun e w' => e = .returned (.bool (!sgtV x)) ∧ Has w0 w' [] := by
  have S := Has.start w0
  have p1 := fun w => in_s x.place.v 63 w
  have p2 := fun w => in_s x.order.v 64 w
  have q0 : (sgtL x).toArray[0]? = some (.int .i64 x.place.v) := rfl
  have q1 : (sgtL x).toArray[1]? = some (.int .u8 (x.state.toNat : Int)) := rfl
  have q2 : (sgtL x).toArray[2]? = some (.int .i64 x.order.v) := rfl
  have hv : sgtV x = (decide (0 ≤ x.place.v ∧ x.place.v ≤ 63) && (decide (x.state.toNat ≤ 8) && decide (0 ≤ x.order.v ∧ x.order.v ≤ 64))) := by
    unfold sgtV
    rw [Bool.eq_iff_iff]
    simp only [Bool.and_eq_true, decide_eq_true_eq]
    omega
  rw [hv]
  obtain ⟨b1, hb1⟩ : ∃ b, b = decide (0 ≤ x.place.v ∧ x.place.v ≤ 63) := ⟨_, rfl⟩
  obtain ⟨b2, hb2⟩ : ∃ b, b = decide (0 ≤ x.order.v ∧ x.order.v ≤ 64) := ⟨_, rfl⟩
  rw [← hb1] at p1 ⊢
  rw [← hb2] at p2 ⊢
  clear hb1 hb2 hv
  by_cases h8 : x.state.toNat ≤ 8
  · have i1 : ¬ 8 < (x.state.toNat : Int) := by omega
    rw [decide_eq_true h8]
    clear h8
    cases b1 <;> cases b2
    all_goals
      have P1 := Lib.hid p1; have P2 := Lib.hid p2; have Q0 := Lib.hid q0; have Q1 := Lib.hid q1; have Q2 := Lib.hid q2; clear p1 p2 q0 q1 q2
      go_enter Tryd.func149, Tryd.ntmps149
      go_wp2_with (first | ((with_reducible refine iD 1 (.box 95 (.tmp 0)) ?_); refine step_boxA (dst := some 1) S 95 (.tmp 0) _ rfl gw ?_; clear S; intro g1 w S) | ((with_reducible refine iO _ (.load 3 _) ?_); refine step_load1 3 _ _ _ rfl (cL) _ Tryd.underlying3 rfl gw ?_) | (go_at_call 71; (with_reducible refine (P1.out _).mono ?_); rintro e w1 ⟨rfl, T⟩; replace S := S.call T; clear T; (try simp only [z4, z5] at S)) | (go_at_call 71; (with_reducible refine (P2.out _).mono ?_); rintro e w1 ⟨rfl, T⟩; replace S := S.call T; clear T; (try simp only [z4, z5] at S)) | ((with_reducible refine iO _ (.load 5 _) ?_); refine step_load1 5 _ _ _ rfl (cL) _ Tryd.underlying5 rfl gw ?_) | fail)
      go_ret
      exact ⟨by first | rfl | (simp; omega), S.nil⟩
  · have i1 : 8 < (x.state.toNat : Int) := by omega
    rw [decide_eq_false h8]
    clear h8
    cases b1
    all_goals
      have P1 := Lib.hid p1; have P2 := Lib.hid p2; have Q0 := Lib.hid q0; have Q1 := Lib.hid q1; have Q2 := Lib.hid q2; clear p1 p2 q0 q1 q2
      go_enter Tryd.func149, Tryd.ntmps149
      go_wp2_with (first | ((with_reducible refine iD 1 (.box 95 (.tmp 0)) ?_); refine step_boxA (dst := some 1) S 95 (.tmp 0) _ rfl gw ?_; clear S; intro g1 w S) | ((with_reducible refine iO _ (.load 3 _) ?_); refine step_load1 3 _ _ _ rfl (cL) _ Tryd.underlying3 rfl gw ?_) | (go_at_call 71; (with_reducible refine (P1.out _).mono ?_); rintro e w1 ⟨rfl, T⟩; replace S := S.call T; clear T; (try simp only [z4, z5] at S)) | ((with_reducible refine iO _ (.load 5 _) ?_); refine step_load1 5 _ _ _ rfl (cL) _ Tryd.underlying5 rfl gw ?_) | fail)
      go_ret
      exact ⟨by first | rfl | (simp; omega), S.nil⟩
set_option maxRecDepth 100000 in
set_option maxHeartbeats 2000000 in
theorem watchValid_s (v : Value) (l : List Sgt) (n : Int) (w0 : World) (h : Sl w0 3 v l.length (l.flatMap sgtL)) :
    Calls Tryd.prog 147 #[.agg #[v, .int .i64 n]] w0 fun e w' => e = .returned (.bool (decide (l.length ≤ 3) && (!(l.any fun x => !sgtV x) && decide (0 ≤ n ∧ n ≤ 8)))) ∧ Has w0 w' [] := by
  have S := Has.start w0
  have pc := fun v w h => containsS_s v l 149 Tryd.f149 (fun x => !sgtV x) w h Tryd.func149 kR kR odd_s
  have pi := fun w => in_s n 8 w
  obtain ⟨a0, c0, rfl, k1, k2⟩ := Sl.shape h
  obtain ⟨P, hP⟩ : ∃ P, P = l.any fun x => !sgtV x := ⟨_, rfl⟩
  rw [← hP] at pc ⊢
  obtain ⟨I, hI⟩ : ∃ I, I = decide (0 ≤ n ∧ n ≤ 8) := ⟨_, rfl⟩
  rw [← hI] at pi ⊢
  clear hP hI
  by_cases hl : l.length ≤ 3
  · rw [decide_eq_true hl, Bool.true_and]
    have i1 : (l.length : Int) ≤ 3 := by omega
    clear hl
    cases P
    all_goals
      have H := Lib.hid h; have PC := Lib.hid pc; have PI := Lib.hid pi; clear h pc pi
      go_enter Tryd.func147, Tryd.ntmps147
      go_wp2_with (first | ((with_reducible refine iD 1 (.box 164 (.tmp 0)) ?_); refine step_boxA (dst := some 1) S 164 (.tmp 0) _ rfl gw ?_; clear S; intro g1 w S) | ((with_reducible refine iO _ (.load 77 _) ?_); refine step_load1 77 _ _ _ rfl (cL) _ Tryd.underlying77 rfl gw ?_) | (go_at_call 150; (with_reducible refine (PC.out _ _ (S.old H.out)).mono ?_); rintro e w1 ⟨rfl, T⟩; replace S := S.call T; clear T; (try simp only [z4, z5] at S)) | ((with_reducible refine iO _ (.load 3 _) ?_); refine step_load1 3 _ _ _ rfl (cL) _ Tryd.underlying3 rfl gw ?_) | (go_at_call 71; (with_reducible refine (PI.out _).mono ?_); rintro e w1 ⟨rfl, T⟩; replace S := S.call T; clear T; (try simp only [z4, z5] at S)) | fail)
      go_ret
      exact ⟨by first | rfl | (simp; omega), S.nil⟩
  · rw [decide_eq_false hl, Bool.false_and]
    have i1 : ¬ (l.length : Int) ≤ 3 := by omega
    clear hl
    have H := Lib.hid h; have PC := Lib.hid pc; have PI := Lib.hid pi; clear h pc pi
    go_enter Tryd.func147, Tryd.ntmps147
    go_wp2_with (first | ((with_reducible refine iD 1 (.box 164 (.tmp 0)) ?_); refine step_boxA (dst := some 1) S 164 (.tmp 0) _ rfl gw ?_; clear S; intro g1 w S) | ((with_reducible refine iO _ (.load 77 _) ?_); refine step_load1 77 _ _ _ rfl (cL) _ Tryd.underlying77 rfl gw ?_) | fail)
    go_ret
    exact ⟨by first | rfl | (simp; omega), S.nil⟩
set_option maxRecDepth 100000 in
set_option maxHeartbeats 1000000 in
theorem nothingValid_s (w0 : World) : Calls Tryd.prog 138 #[.agg #[]] w0 fun e w' => e = .returned (.bool true) ∧ Has w0 w' [] := by
  have S := Has.start w0
  go_enter Tryd.func138, Tryd.ntmps138
  go_wp2_with (first | ((with_reducible refine iD 1 (.box 152 (.tmp 0)) ?_); refine step_boxA (dst := some 1) S 152 (.tmp 0) _ rfl rfl ?_; clear S; intro g1 w S) | fail)
  go_ret
  exact ⟨rfl, S.nil⟩
set_option maxRecDepth 100000 in
set_option maxHeartbeats 1000000 in
theorem ticketValid_s (t : Tok) (w0 : World) : Calls Tryd.prog 127 #[.agg (tokL t).toArray] w0 fun e w' => e = .returned (.bool true) ∧ Has w0 w' [] := by
  have S := Has.start w0
  go_enter Tryd.func127, Tryd.ntmps127
  go_wp2_with (first | ((with_reducible refine iD 1 (.box 114 (.tmp 0)) ?_); refine step_boxA (dst := some 1) S 114 (.tmp 0) _ rfl rfl ?_; clear S; intro g1 w S) | fail)
  go_ret
  exact ⟨rfl, S.nil⟩
set_option maxRecDepth 100000 in
/-- The method 'valid' of a body, whichever it is. -/
theorem bodyValid_s (q : BK) (r : Rp) (ar ac : Option Addr) (nr cr nc cc : Nat) : ∃ f args, (∀ w, (callMethod (bodyK q r (.slice ar nr cr) (.slice ac nc cc)) "dunnage/wire.valid" #[]).run Tryd.prog w = .ok (.enter f args) w) ∧
    ∀ w, Sl w 3 (.slice ar nr cr) r.robots.length (r.robots.flatMap sgtL) → Sl w 35 (.slice ac nc cc) r.records.length (r.records.flatMap rcdL) → Calls Tryd.prog f args w fun e w' => e = .returned (.bool (bkV q r)) ∧ Has w w' [] := by
  cases q with
  | n => exact ⟨138, #[.agg #[]], fun w => by kernel_rfl, fun w _ _ => nothingValid_s w⟩
  | o => exact ⟨141, #[.int .i64 r.order.v], fun w => by kernel_rfl, fun w _ _ => orderValid_g r.order.v w⟩
  | s => exact ⟨144, #[.agg #[.int .u8 (r.state.toNat : Int), .int .u64 (r.done.toNat : Int)]], fun w => by kernel_rfl, fun w _ _ => stateValid_s r.state r.done w⟩
  | w => exact ⟨147, #[.agg #[.slice ar nr cr, .int .i64 r.queued.v]], fun w => by kernel_rfl, fun w h _ => watchValid_s _ r.robots r.queued.v w h⟩
  | c => exact ⟨50, #[.agg #[.int .u32 (r.count.toNat : Int), .slice ac nc cc]], fun w => by kernel_rfl, fun w _ h => chainV_s r.count.toNat _ r.records w h⟩
  | t => exact ⟨127, #[.agg (tokL r.tok).toArray], fun w => by kernel_rfl, fun w _ _ => ticketValid_s r.tok w⟩
end Go.Proofs.YtfhkmmagpnojmaaDoor

/- The method 'write' of a reply's body, for valid fields. No condition but the reach. -/
namespace Go.Proofs.YtfhkmmagpnojmaaDoor
open Go.RowKit

set_option maxRecDepth 100000 in
set_option maxHeartbeats 1000000 in
theorem orderWrite_s (n : I64) (h : 0 ≤ n.v ∧ n.v ≤ 65535) (g : Nat) (v : Value) (xs : List UInt8) (w0 w1 : World) (F : List Res) (S : Has w0 w1 (wrt g v :: row8 v xs :: F)) (hl : xs.length + 8 ≤ 140737488355328) :
    Calls Tryd.prog 142 #[.int .i64 n.v, .pointer (some ⟨g, 0, none⟩)] w1 (Wrote w0 g (xs ++ numB n.v.toNat 2) F) := by
  have p1 := fun v w F S => wuint_i n.v n.v.toNat (by omega) 2 2 rfl g v xs w0 w F S (by omega) (by decide) (by omega)
  have e1 : n.v % 18446744073709551616 = n.v := by omega
  have e2 : IntKind.u64.wrap n.v = n.v := by rw [IntKind.wrap_u64]; omega
  have P1 := Lib.hid p1; clear p1
  go_enter Tryd.func142, Tryd.ntmps142
  go_wp2_with (first | (go_at_call 48; (with_reducible refine (P1.out v _ _ S).mono ?_); rintro e w1 ⟨rfl, v1, S1⟩) | fail)
  go_end0
  exact ⟨rfl, v1, S1⟩
set_option maxRecDepth 100000 in
set_option maxHeartbeats 1000000 in
theorem nothingWrite_s (g : Nat) (v : Value) (xs : List UInt8) (w0 w1 : World) (F : List Res) (S : Has w0 w1 (wrt g v :: row8 v xs :: F)) :
    Calls Tryd.prog 139 #[.agg #[], .pointer (some ⟨g, 0, none⟩)] w1 (Wrote w0 g xs F) := by
  go_enter Tryd.func139, Tryd.ntmps139
  go_wp2_with (first | ((with_reducible refine iD 2 (.box 152 (.tmp 0)) ?_); refine step_boxA (dst := some 2) S 152 (.tmp 0) _ rfl rfl ?_; clear S; intro g2 w S) | fail)
  go_end0
  exact ⟨rfl, v, S.drop (Pick.head _ _)⟩
set_option maxRecDepth 100000 in
set_option maxHeartbeats 2000000 in
theorem stateWrite_s (x : UInt8) (d : UInt64) (g : Nat) (v : Value) (xs : List UInt8) (w0 w1 : World) (F : List Res) (S : Has w0 w1 (wrt g v :: row8 v xs :: F)) (hl : xs.length + 16 ≤ 140737488355328) :
    Calls Tryd.prog 145 #[.agg #[.int .u8 (x.toNat : Int), .int .u64 (d.toNat : Int)], .pointer (some ⟨g, 0, none⟩)] w1 (Wrote w0 g (xs ++ numB x.toNat 1 ++ numB d.toNat 8) F) := by
  have hx := x.toNat_lt
  have hd := d.toNat_lt
  have p1 := fun v w F S => wuint_i (x.toNat : Int) x.toNat rfl 1 1 rfl g v xs w0 w F S (by omega) (by decide) (by omega)
  have l1 : (xs ++ numB x.toNat 1).length = xs.length + 1 := by rw [List.length_append, numB_length]
  obtain ⟨X1, hX1⟩ : ∃ X, X = xs ++ numB x.toNat 1 := ⟨_, rfl⟩
  rw [← hX1] at p1 l1 ⊢
  have p2 := fun v w F S => wuint_i (d.toNat : Int) d.toNat rfl 8 8 rfl g v X1 w0 w F S (by omega) (by decide) (by omega)
  have e1 : IntKind.u64.wrap (x.toNat : Int) = (x.toNat : Int) := by rw [IntKind.wrap_u64]; omega
  have P1 := Lib.hid p1; have P2 := Lib.hid p2; clear p1 p2
  clear hX1 l1 hx hd
  go_enter Tryd.func145, Tryd.ntmps145
  go_wp2_with (first | (go_at_call 48; (with_reducible refine (P1.out v _ _ (S.pick2 (r := wrt g v) (s := row8 v xs) pk pk)).mono ?_); rintro e w1 ⟨rfl, v1, S1⟩; clear S; have S := S1; clear S1; have _t := P1; clear P1) | (go_at_call 48; (with_reducible refine (P2.out v1 _ _ S).mono ?_); rintro e w1 ⟨rfl, v2, S1⟩; clear S; have S := S1; clear S1) | ((with_reducible refine iD 2 (.box 162 (.tmp 0)) ?_); refine step_boxA (dst := some 2) S 162 (.tmp 0) _ rfl rfl ?_; clear S; intro g2 w S) | ((with_reducible refine iO _ (.load 5 _) ?_); refine step_load1 5 _ _ _ rfl (cL) _ Tryd.underlying5 rfl rfl ?_) | ((with_reducible refine iO _ (.load 23 _) ?_); refine step_load1 23 _ _ _ rfl (cL) _ Tryd.underlying23 rfl rfl ?_) | fail)
  go_end0
  exact ⟨rfl, v2, S.drop (Pick.tail (Pick.tail (Pick.head _ _)))⟩
theorem flat_take1 {α : Type} (f : α → List UInt8) (l : List α) (k : Nat) (x : α) (h : l[k]? = some x) : (l.take (k + 1)).flatMap f = (l.take k).flatMap f ++ f x := by
  rw [List.take_add_one, h, List.flatMap_append]
  simp
set_option maxRecDepth 100000 in
set_option maxHeartbeats 8000000 in
theorem watchWrite_s (rv : Value) (l : List Sgt) (n : I64) (hv : ∀ x ∈ l, sgtV x = true) (h3 : l.length ≤ 3) (hn : 0 ≤ n.v ∧ n.v ≤ 8) (g : Nat) (v : Value) (xs : List UInt8) (w0 w1 : World) (F : List Res) (S : Has w0 w1 (wrt g v :: row8 v xs :: F)) (hr : Sl w0 3 rv l.length (l.flatMap sgtL)) (hl : xs.length + 100 ≤ 140737488355328) :
    Calls Tryd.prog 148 #[.agg #[rv, .int .i64 n.v], .pointer (some ⟨g, 0, none⟩)] w1 (Wrote w0 g (xs ++ numB l.length 1 ++ l.flatMap sgtB ++ numB n.v.toNat 1) F) := by
  obtain ⟨a0, c0, rfl, k1, k2⟩ := Sl.shape hr
  unfold maxLen at k2
  have p1 := fun v w F S => wuint_i (l.length : Int) l.length rfl 1 1 rfl g v xs w0 w F S (by omega) (by decide) (by omega)
  have l1 : (xs ++ numB l.length 1).length = xs.length + 1 := by rw [List.length_append, numB_length]
  have lf : ∀ k, ((l.take k).flatMap sgtB).length ≤ 12 := fun k => by
    rw [flatLen sgtB 4 sgtB_length, List.length_take]; omega
  obtain ⟨X1, hX1⟩ : ∃ X, X = xs ++ numB l.length 1 := ⟨_, rfl⟩
  rw [← hX1] at p1 l1 ⊢
  have e0 : IntKind.u64.wrap (l.length : Int) = (l.length : Int) := by rw [IntKind.wrap_u64]; omega
  have en : IntKind.u64.wrap n.v = n.v := by rw [IntKind.wrap_u64]; omega
  have hlx : X1.length + 90 ≤ 140737488355328 := by omega
  obtain ⟨N, hN⟩ : ∃ N, N = n.v := ⟨_, rfl⟩
  rw [← hN] at hn en ⊢
  have hv0 := hv
  have P1 := Lib.hid p1; have HR := Lib.hid hr; have HV0 := Lib.hid hv0; have LF := Lib.hid lf; have HLX := Lib.hid hlx; clear p1 hr hv0 lf hlx
  clear hX1 l1 hv hN
  go_enter Tryd.func148, Tryd.ntmps148
  go_wp2_with (first | (go_at_call 48; (with_reducible refine (P1.out v _ _ (S.pick2 (r := wrt g v) (s := row8 v xs) pk pk)).mono ?_); rintro e w1 ⟨rfl, v1, S1⟩; clear S; have S := S1; clear S1) | ((with_reducible refine iD 2 (.box 164 (.tmp 0)) ?_); refine step_boxA (dst := some 2) S 164 (.tmp 0) _ rfl rfl ?_; clear S; intro g2 w S) | ((with_reducible refine iO _ (.load 77 _) ?_); refine step_load1 77 _ _ _ rfl (cL) _ Tryd.underlying77 rfl rfl ?_) | fail)
  go_loopw [15] (fun u wr => ∃ (k : Nat) (vv : Value), k ≤ l.length ∧ u = .int .i64 (k : Int) ∧ Has w0 wr (wrt g vv :: row8 vv (X1 ++ (l.take k).flatMap sgtB) :: blk g2 (.cells #[.slice a0 l.length c0, .int .i64 N] 164 (0, 0)) :: F)) (fun u _ => l.length - (intOf u).toNat)
  case atStart => exact ⟨0, _, Nat.zero_le _, rfl, by rw [List.take_zero, List.flatMap_nil, List.append_nil]; exact S⟩
  case round =>
    clear S
    obtain ⟨k, vv, hk, rfl, S⟩ := hrel
    by_cases hlt : k < l.length
    · have hki : (k : Int) < (l.length : Int) := by omega
      have hki2 : (k : Int) < 9223372036854775807 := by omega
      have hx : l[k]? = some l[k] := List.getElem?_eq_getElem hlt
      obtain ⟨b, off, rfl, _⟩ := HR.out.atA (by omega)
      have hrg := HR.out.elem sgtL_length (by decide) k _ hx
      have hmore := flat_take1 sgtB l k _ hx
      have hxv := HV0.out _ (List.getElem_mem hlt)
      obtain ⟨x, hxe⟩ : ∃ x, x = l[k] := ⟨_, rfl⟩
      rw [← hxe] at hrg hmore hxv
      unfold sgtV at hxv
      have hxv := of_decide_eq_true hxv
      have hle := HLX.out
      have hlk := LF.out k
      obtain ⟨Y0, hY0⟩ : ∃ X, X = X1 ++ (l.take k).flatMap sgtB := ⟨_, rfl⟩
      have hy0 : Y0.length + 70 ≤ 140737488355328 := by rw [hY0, List.length_append]; omega
      rw [← hY0] at S
      have q1 := fun v w F S => wuint_i x.place.v x.place.v.toNat (by omega) 1 1 rfl g v Y0 w0 w F S (by omega) (by decide) (by omega)
      have m1 : (Y0 ++ numB x.place.v.toNat 1).length = Y0.length + 1 := by rw [List.length_append, numB_length]
      obtain ⟨Y1, hY1⟩ : ∃ X, X = Y0 ++ numB x.place.v.toNat 1 := ⟨_, rfl⟩
      rw [← hY1] at q1 m1
      have hst := x.state.toNat_lt
      have q2 := fun v w F S => wuint_i (x.state.toNat : Int) x.state.toNat rfl 1 1 rfl g v Y1 w0 w F S (by omega) (by decide) (by omega)
      have m2 : (Y1 ++ numB x.state.toNat 1).length = Y0.length + 2 := by rw [List.length_append, numB_length, m1]
      obtain ⟨Y2, hY2⟩ : ∃ X, X = Y1 ++ numB x.state.toNat 1 := ⟨_, rfl⟩
      rw [← hY2] at q2 m2
      have q3 := fun v w F S => wuint_i x.order.v x.order.v.toNat (by omega) 2 2 rfl g v Y2 w0 w F S (by omega) (by decide) (by omega)
      have hend : X1 ++ (l.take (k + 1)).flatMap sgtB = Y2 ++ numB x.order.v.toNat 2 := by
        rw [hmore, hY2, hY1, hY0]
        unfold sgtB
        simp only [List.append_assoc]
      have f0 : (sgtL x).toArray[0]? = some (.int .i64 x.place.v) := rfl
      have f1 : (sgtL x).toArray[1]? = some (.int .u8 (x.state.toNat : Int)) := rfl
      have f2 : (sgtL x).toArray[2]? = some (.int .i64 x.order.v) := rfl
      have u1 : IntKind.u64.wrap x.place.v = x.place.v := by rw [IntKind.wrap_u64]; omega
      have u2 : IntKind.u64.wrap (x.state.toNat : Int) = (x.state.toNat : Int) := by rw [IntKind.wrap_u64]; omega
      have u3 : IntKind.u64.wrap x.order.v = x.order.v := by rw [IntKind.wrap_u64]; omega
      clear hx hmore hxv hxe hle hlk hY0 hY1 hY2 m1 m2 hst hy0
      have HRG := Lib.hid hrg; have Q1 := Lib.hid q1; have Q2 := Lib.hid q2; have Q3 := Lib.hid q3; have HEND := Lib.hid hend; have F0 := Lib.hid f0; have F1 := Lib.hid f1; have F2 := Lib.hid f2; clear hrg q1 q2 q3 hend f0 f1 f2
      go_wp2_with (first | (go_at_call 48; (with_reducible refine (Q1.out vv _ _ (S.pick2 (r := wrt g vv) (s := row8 vv Y0) pk pk)).mono ?_); rintro e w1 ⟨rfl, v1, S1⟩; clear S; have S := S1; clear S1; have _t := Q1; clear Q1) | (go_at_call 48; (with_reducible refine (Q2.out v1 _ _ S).mono ?_); rintro e w1 ⟨rfl, v2, S1⟩; clear S; have S := S1; clear S1; have _t2 := Q2; clear Q2) | (go_at_call 48; (with_reducible refine (Q3.out v2 _ _ S).mono ?_); rintro e w1 ⟨rfl, v3, S1⟩; clear S; have S := S1; clear S1) | ((with_reducible refine iO _ (.load 95 _) ?_); first | (refine step_loadR 95 _ _ _ rfl _ (S.old_range hy) _ Tryd.underlying95 rfl 3 kR lN _ rfl rfl ?_) | (refine step_loadP S 95 _ _ _ rfl _ _ _ pk 3 _ pT lN _ Tryd.underlying95 rfl kR rfl ?_)) | ((with_reducible refine iD 5 (.alloc 95) ?_); refine step_alloc (dst := some 5) S 95 (.agg ((sgtL sgtZ).toArray)) ((sgtL sgtZ).toArray) kR rfl rfl ?_; clear S; intro g5 w S) | ((with_reducible refine iO none (.store 95 (.tmp 5) (.tmp 18)) ?_); refine step_store S 95 (.tmp 5) (.tmp 18) _ _ rfl rfl _ _ pk 3 kR lN lN on1 rfl ?_; clear S; intro w S) | ((with_reducible refine iO _ (.load 3 _) ?_); refine step_load1 3 _ _ _ rfl (cL) _ Tryd.underlying3 rfl rfl ?_) | ((with_reducible refine iO _ (.load 5 _) ?_); refine step_load1 5 _ _ _ rfl (cL) _ Tryd.underlying5 rfl rfl ?_) | fail)
      go_roundw
      case rel => exact ⟨k + 1, v3, by omega, by go_num, by rw [HEND.out]; exact S.drop (Pick.tail (Pick.tail (Pick.head _ _)))⟩
      case measure => simp [intOf]; omega
    · obtain rfl : k = l.length := by omega
      have hki : ¬ (l.length : Int) < (l.length : Int) := by omega
      rw [List.take_length] at S
      have hfl : (l.flatMap sgtB).length ≤ 12 := by rw [flatLen sgtB 4 sgtB_length]; omega
      have hle := HLX.out
      obtain ⟨Y, hY⟩ : ∃ Y, Y = X1 ++ l.flatMap sgtB := ⟨_, rfl⟩
      have hyl : Y.length + 8 ≤ 140737488355328 := by rw [hY, List.length_append]; omega
      rw [← hY] at S
      have q1 := fun v w F S => wuint_i N N.toNat (by omega) 1 1 rfl g v Y w0 w F S (by omega) (by decide) (by omega)
      have Q1 := Lib.hid q1; have HY := Lib.hid hY; clear q1 hY
      clear hfl hle hyl
      go_wp2_with (first | (go_at_call 48; (with_reducible refine (Q1.out vv _ _ S).mono ?_); rintro e w1 ⟨rfl, v1, S1⟩; clear S; have S := S1; clear S1) | ((with_reducible refine iO _ (.load 3 _) ?_); refine step_load1 3 _ _ _ rfl (cL) _ Tryd.underlying3 rfl rfl ?_) | fail)
      go_end0
      exact ⟨rfl, v1, by rw [← HY.out]; exact S.drop (Pick.tail (Pick.tail (Pick.head _ _)))⟩
end Go.Proofs.YtfhkmmagpnojmaaDoor
