/- WireReplyBack: the statement itself (its tied card), lifted from its walk. No condition. -/
import Derived.Test.YtfhkmmagpnojmaaDoorYR1
import Derived.Test.YtfhkmmagpnojmaaDoorCards
import Derived.Test.YtfhkmmagpnojmaaDoorTie
import Derived.Test.YtfhkmmagpnojmaaDoorYR13
import Derived.Test.YtfhkmmagpnojmaaDoorYR0
set_option linter.unusedSimpArgs false
set_option linter.unusedVariables false
namespace Go.Proofs.YtfhkmmagpnojmaaDoor.wireReplyBackLaw
open Go.ChangeShapes Go.WideShapes Go.ChangeAt Go.RowKit
open Go.ChangeMaps (open_string shut_string)
set_option linter.unusedVariables false

theorem own : ownKnob Tryd.prog.godebug = none := by kernel_rfl
theorem laidOut : laidOutB Tryd.prog = true := by kernel_rfl
set_option maxRecDepth 100000 in
theorem contract (H : Type) (enc : TypeId × Value → H) (W : World) (base : Nat) (args : Array Value) (ds gs : List (DataW H)) (before : List MemPlace)
    (hval0 : ∀ (j : Nat) t v, Tryd.f10.params[j]? = some t → args[j]? = some v → Value.okWide Tryd.prog W .any base t v)
    (hW : DataW.Whole enc Tryd.prog Tryd.f10.params.toList Rows.wireReplyBackSpec.vars false W args.toList ds gs before)
    (hsz : (DataW.weightsEach Tryd.prog (Tryd.f10.params.toList ++ Rows.wireReplyBackSpec.plain.varTypes Tryd.prog) (ds ++ gs)).all (· ≤ reachBytes) = true)
    (hL : laidMetH Tryd.prog Rows.wireReplyBackRow.laid W) :
    Calls Tryd.prog 10 args W fun e W' => ∃ v, e = .returned v ∧ Rows.wireReplyBackSpec.post enc Tryd.prog Tryd.f10 false true false false W args v W' := by
  have hT := Laid.table_digest (show laidMetH Tryd.prog Laid.list_digest W from hL)
  have hval := hval0
  have hW' := hW
  obtain ⟨p, q, hA0, hV, rfl, hfz, hnd⟩ := hW
  have hA : DataW.TrodAll enc Tryd.prog W 0 (fun _ => true) true Tryd.f10.params.toList args.toList ds p := hA0
  rw [Tryd.params10] at hA hval hsz
  obtain ⟨v0, vs0, d0, ds0, p0, q0, hargs, rfl, rfl, h0, r0⟩ := trodAll_cons hA
  obtain ⟨v1, vs1, d1, ds1, p1, q1, rfl, rfl, rfl, h1, r1⟩ := trodAll_cons r0
  obtain ⟨v2, vs2, d2, ds2, p2, q2, rfl, rfl, rfl, h2, r2⟩ := trodAll_cons r1
  obtain ⟨rfl, rfl, rfl⟩ := trodAll_nil r2
  obtain rfl : args = #[v0, v1, v2] := by cases args; simp_all
  obtain ⟨rfl, rfl⟩ := trodVars_none hV
  have k0 := h0
  have lt0 : ∀ x ∈ p0, x.block < W.heap.size := by obtain ⟨m, hm⟩ := k0; exact DataW.trod_lt m _ _ _ hm
  obtain ⟨rp0, rvr0, rvc0, rfl, sg0, sc0, lr0⟩ := open_rp (fun _ => rfl) (hval 0 79 v0 rfl rfl) h0
  have k1 := h1
  have lt1 : ∀ x ∈ p1, x.block < W.heap.size := by obtain ⟨m, hm⟩ := k1; exact DataW.trod_lt m _ _ _ hm
  obtain ⟨x1, rfl, e1, _, w1⟩ := open_int Tryd.underlying80 (hval 1 80 v1 rfl rfl) h1
  have bd1 := bounds_u16 w1
  obtain ⟨n1, rfl⟩ := Int.eq_ofNat_of_zero_le bd1.1
  have k2 := h2
  have lt2 : ∀ x ∈ p2, x.block < W.heap.size := by obtain ⟨m, hm⟩ := k2; exact DataW.trod_lt m _ _ _ hm
  obtain ⟨x2, b2, rc2⟩ := open_bytes Tryd.underlying25 Tryd.underlying5 kR kR (hval 2 25 v2 rfl rfl) h2
  have l2 := rc2 _ _ 2 hsz rfl rfl
  clear hA0 hval0
  refine (low (wireReplyBack_walk rp0 rvr0 rvc0 n1 v2 x2 W sg0 sc0 (by omega) b2 l2 hT)).mono fun e W' ⟨he, bel⟩ => ?_
  subst he
  exact ⟨_, rfl, _, _, _, [], _, [], hW', trodAll_mk1 (shut_bool Tryd.underlying4 _), (trodAll_cons_mk (Below.trod laidOut kR (of_decide_eq_true kR) k0 bel lt0) (trodAll_cons_mk (Below.trod laidOut kR (of_decide_eq_true kR) k1 bel lt1) (trodAll_cons_mk (Below.trod laidOut kR (of_decide_eq_true kR) k2 bel lt2) trodAll_mk0))), rfl, bel.frame _, fun h => by cases h⟩
def wargs : Array Value := #[.agg (#[.int .u8 0, .int .i64 0, .int .u64 0, .int .i64 0, .int .u8 0, .int .u64 0, .slice none 0 0, .int .i64 0, .int .u32 0, .slice none 0 0, .int .u8 0, .int .u8 0, .int .u64 0, .int .u32 0] ++ (List.replicate 32 (.int .u8 0)).toArray), .int .u16 0, .slice none 0 0]
def wdata (H : Type) : List (DataW H) := [.agg [.lit (.int .u8 0), .lit (.int .i64 0), .lit (.int .u64 0), .lit (.int .i64 0), .lit (.int .u8 0), .lit (.int .u64 0), .nil, .lit (.int .i64 0), .lit (.int .u32 0), .nil, .agg [.lit (.int .u8 0), .lit (.int .u8 0), .lit (.int .u64 0), .lit (.int .u32 0), .agg (List.replicate 32 (.lit (.int .u8 0)))]], .lit (.int .u16 0), .nil]
theorem reads (os : Os) {H : Type} (enc : TypeId × Value → H) : ∃ places, DataW.whole enc Tryd.prog ((Laid.world_digest os).forCall (fun _ _ => 0) ⟨#[], wargs, []⟩).memory Tryd.f10.params.toList Rows.wireReplyBackSpec.vars false wargs.toList 12 = some (wdata H, [], places) :=
  ⟨[], by kernel_rfl⟩
theorem laid_met (os : Os) : laidMet Tryd.prog Rows.wireReplyBackRow.laid ((Laid.world_digest os).forCall (fun _ _ => 0) ⟨#[], wargs, []⟩).memory :=
  laidMet_of_run' 12 kR kR
set_option maxRecDepth 100000 in
theorem lifted (os : Os) (started : os.Started) (H : Type) (enc : TypeId × Value → H) (F : Stop.Interp) :
    ReturnsInHanded {} Tryd.checked os 10 .any ((OpenSpec.ofChange Rows.wireReplyBackSpec).preRow enc Tryd.prog Tryd.f10 Rows.wireReplyBackRow.domain false Rows.wireReplyBackRow.laid) (((OpenSpec.ofChange Rows.wireReplyBackSpec).at F).post enc Tryd.prog Tryd.f10 false true false false) := by
  obtain ⟨places, hx⟩ := reads os enc
  refine returnsInHanded_of_row (C := Tryd.checked) (s := OpenSpec.ofChange Rows.wireReplyBackSpec) own started kR Tryd.func10
    (witness_row_at (enc := enc) (C := Tryd.checked) false (Laid.world_digest os) wargs rfl kR kR kR
      (OpenSpec.preRow_of_cond 12 hx kR (fun k hk => by cases hk) kR (laid_met os))) ?_
  intro W base args ds gs before hval hW _ hcond hsz hL _ _
  exact contract H enc W base args ds gs before hval hW hsz hL
theorem said : Rows.WireReplyBackSaid :=
  OpenClaim.holds_of_cond 10 Tryd.f10 rfl rfl rfl rfl rfl rfl rfl ⟨rfl, rfl, rfl, rfl, rfl⟩ rfl rfl rfl rfl rfl kR Tryd.func10 kR
    (of_decide_eq_true kR) (by unfold Func.isWrapper; first | (rw [if_pos (by decide +kernel)]; kernel_rfl) | (rw [if_neg (by decide +kernel)]; exact ⟨rfl, rfl⟩))
    (fun os started H enc _ F => by rw [OpenClaim.pre_eq_preRow]; exact lifted os started H enc F)
theorem plain (f : FuncId) (fn : Func) (hf : Tryd.pinned.checked.prog.funcNamed "dunnage/dunnagelaw07.WireReplyBack" = some f) (hfn : Tryd.pinned.checked.prog.funcs[f]? = some fn) :
    true = Tryd.pinned.checked.prog.looks [] ∧ ∀ (j : Nat) t, fn.params[j]? = some t → Tryd.pinned.checked.prog.wantsStandIn t = false := by
  obtain rfl : f = 10 := Option.some.inj ((show Tryd.prog.funcNamed "dunnage/dunnagelaw07.WireReplyBack" = some 10 by kernel_rfl).symm.trans hf) |>.symm
  obtain rfl : fn = Tryd.f10 := (Option.some.inj (Tryd.func10.symm.trans hfn)).symm
  refine ⟨by kernel_rfl, fun j t ht => ?_⟩
  rw [Tryd.params10] at ht
  have hm := Array.mem_of_getElem? ht
  simp only [List.mem_toArray, List.mem_cons, List.not_mem_nil, or_false] at hm
  rcases hm with rfl | rfl | rfl
  · exact (show Tryd.prog.wantsStandIn 79 = false by kernel_rfl)
  · exact (show Tryd.prog.wantsStandIn 80 = false by kernel_rfl)
  · exact (show Tryd.prog.wantsStandIn 25 = false by kernel_rfl)
theorem card : Rows.WireReplyBackCardSaid :=
  Claim7.holds_tied_plain_at .later [] _ _ _ _ said (fun _ h => by cases h) kR (fun _ h => by cases h) wireReplyBack_row_tie rfl ⟨rfl, rfl⟩ kR rfl plain kR
#print axioms card
end Go.Proofs.YtfhkmmagpnojmaaDoor.wireReplyBackLaw
