/- Replies that tell an order alone: the program's CheckReply, EncodeReply, DecodeReply for them. No condition but the reach. -/
import Derived.Test.YtfhkmmagpnojmaaDoorZBd
import Derived.Test.YtfhkmmagpnojmaaDoorZDecQ
import Derived.Test.YtfhkmmagpnojmaaDoorZRcV
import Derived.Test.YtfhkmmagpnojmaaDoorZBg
set_option linter.unusedSimpArgs false
set_option linter.unusedVariables false
namespace Go.Proofs.YtfhkmmagpnojmaaDoor
open Go.RowKit

/-- A reply to a submission, with an order. -/
def rpO (t : UInt64) (n : I64) : Rp := { rpH 1 i64Z t with order := n }
abbrev nilS : Value := .slice none 0 0
abbrev ordV (n : I64) : Value := .iface 160 (.int .i64 n.v)
/-- The cells of such a reply, one by one. -/
structure CellsO (R : Rp) (t : UInt64) (n : I64) : Prop where
  d0 : (rpL R nilS nilS).toArray[0]? = some (.int .u8 1)
  d1 : (rpL R nilS nilS).toArray[1]? = some (.int .i64 0)
  d2 : (rpL R nilS nilS).toArray[2]? = some (.int .u64 (t.toNat : Int))
  d3 : (rpL R nilS nilS).toArray[3]? = some (.int .i64 n.v)
  d4 : (rpL R nilS nilS).toArray[4]? = some (.int .u8 0)
  d5 : (rpL R nilS nilS).toArray[5]? = some (.int .u64 0)
  d6 : (rpL R nilS nilS).toArray[6]? = some nilS
  d7 : (rpL R nilS nilS).toArray[7]? = some (.int .i64 0)
  d8 : (rpL R nilS nilS).toArray[8]? = some (.int .u32 0)
  d9 : (rpL R nilS nilS).toArray[9]? = some nilS
theorem cellsO (t : UInt64) (n : I64) : CellsO (rpO t n) t n := ⟨rfl, rfl, rfl, rfl, rfl, rfl, rfl, rfl, rfl, rfl⟩
theorem build_rp3 (k c t : Int) (w : World) : (Instr.build 79 #[(0, .int .u8 k), (1, .int .i64 c), (2, .int .u64 t)]).run Tryd.prog w = .ok (.agg ([Value.int .u8 k, .int .i64 c, .int .u64 t, .int .i64 0, .int .u8 0, .int .u64 0, .slice none 0 0, .int .i64 0, .int .u32 0, .slice none 0 0] ++ ([Value.int .u8 0, .int .u8 0, .int .u64 0, .int .u32 0] ++ zs32.map by8)).toArray) w := by kernel_rfl
set_option maxRecDepth 100000 in
theorem step_buildRp3 {ops : Array Oper} {rest : List Oper} {a : Act} {w : World} {Q : Exit → Act → World → Prop} {dst : Option Tmp} {ty : TypeId} {pos : String} {after : Array Edge} {gd : Option (Nat × Bool)} (x y z : Operand) (k : UInt8) (c : I64) (t : UInt64)
    (hx : a.eval x = by8 k) (hy : a.eval y = .int .i64 c.v) (hz : a.eval z = .int .u64 (t.toNat : Int))
    (hw : Region.wanted ⟨dst, .build 79 #[(0, x), (1, y), (2, z)], ty, pos, after, gd⟩ (yielded ops a.tmps) = true)
    (h : wpList Tryd.prog ops Q rest (a.put dst (.agg (rpL (rpH k c t) nilS nilS).toArray)) w) : wpList Tryd.prog ops Q (⟨dst, .build 79 #[(0, x), (1, y), (2, z)], ty, pos, after, gd⟩ :: rest) a w := by
  refine step_val (v := .agg (rpL (rpH k c t) nilS nilS).toArray) hw ?_ h
  have hp : (#[(0, x), (1, y), (2, z)].map fun (i, x) => (i, a.eval x)) = #[(0, .int .u8 (k.toNat : Int)), (1, .int .i64 c.v), (2, .int .u64 (t.toNat : Int))] := by simp [hx, hy, hz]
  have := build_rp3 k.toNat c.v t.toNat w
  simp only [execOp, hp, Sem.run_bind, this, Result.andThen_ok, Sem.run_pure]
  rfl
theorem rpL_set3 (t : UInt64) (n : I64) : (rpL (rpH 1 i64Z t) nilS nilS).toArray.setIfInBounds 3 (.int .i64 n.v) = (rpL (rpO t n) nilS nilS).toArray := rfl
set_option maxRecDepth 100000 in
set_option maxHeartbeats 4000000 in
theorem replyBodyO_s (t : UInt64) (n : I64) (w0 : World) : Calls Tryd.prog 68 #[.agg (rpL (rpO t n) nilS nilS).toArray] w0 fun e w' => e = .returned (ordV n) ∧ Has w0 w' [] := by
  have S := Has.start w0
  have c := cellsO t n
  obtain ⟨d0, d1, d2, d3, d4, d5, d6, d7, d8, d9⟩ := c
  obtain ⟨R, hR⟩ : ∃ R, R = rpO t n := ⟨_, rfl⟩
  rw [← hR] at d0 d1 d3 ⊢
  have D0 := Lib.hid d0; have D1 := Lib.hid d1; have D3 := Lib.hid d3; clear d0 d1 d3
  clear hR d2 d4 d5 d6 d7 d8 d9
  go_enter Tryd.func68, Tryd.ntmps68
  go_wp2_with (first | ((with_reducible refine iD 1 (.box 79 (.tmp 0)) ?_); refine step_boxA (dst := some 1) S 79 (.tmp 0) _ rfl rfl ?_; clear S; intro g1 w S) | ((with_reducible refine iO _ (.load 24 _) ?_); refine step_load1 24 _ _ _ rfl (cL) _ Tryd.underlying24 rfl rfl ?_) | ((with_reducible refine iO _ (.load 5 _) ?_); refine step_load1 5 _ _ _ rfl (cL) _ Tryd.underlying5 rfl rfl ?_) | ((with_reducible refine iO _ (.load 3 _) ?_); refine step_load1 3 _ _ _ rfl (cL) _ Tryd.underlying3 rfl rfl ?_) | ((with_reducible refine iO _ (.load 23 _) ?_); refine step_load1 23 _ _ _ rfl (cL) _ Tryd.underlying23 rfl rfl ?_) | ((with_reducible refine iO _ (.load 77 _) ?_); refine step_load1 77 _ _ _ rfl (cL) _ Tryd.underlying77 rfl rfl ?_) | ((with_reducible refine iO _ (.load 38 _) ?_); refine step_load1 38 _ _ _ rfl (cL) _ Tryd.underlying38 rfl rfl ?_) | ((with_reducible refine iO _ (.load 31 _) ?_); refine step_load1 31 _ _ _ rfl (cL) _ Tryd.underlying31 rfl rfl ?_) | ((with_reducible refine iO _ (.load 67 _) ?_); first | (refine step_loadR 67 _ _ _ rfl _ (S.old_range hy) _ Tryd.underlying67 rfl 36 kR lN _ rfl rfl ?_) | (refine step_loadP S 67 _ _ _ rfl _ _ _ pk 36 _ pT lN _ Tryd.underlying67 rfl kR rfl ?_)) | fail)
  go_ret
  exact ⟨rfl, S.nil⟩
set_option maxRecDepth 100000 in
set_option maxHeartbeats 4000000 in
theorem replyOfO_s (t : UInt64) (m n : I64) (w0 : World) : Calls Tryd.prog 70 #[.agg (rpL (rpO t m) nilS nilS).toArray, ordV n] w0 fun e w' => e = .returned (.agg (rpL (rpO t n) nilS nilS).toArray) ∧ Has w0 w' [] := by
  have S := Has.start w0
  have c := cellsO t m
  obtain ⟨d0, d1, d2, d3, d4, d5, d6, d7, d8, d9⟩ := c
  have hs3 := rpL_set3 t n
  obtain ⟨R, hR⟩ : ∃ R, R = rpO t m := ⟨_, rfl⟩
  obtain ⟨RN, hRN⟩ : ∃ R, R = rpO t n := ⟨_, rfl⟩
  rw [← hRN] at hs3 ⊢
  rw [← hR] at d0 d1 d2 ⊢
  have t1 : ∀ w, (Instr.typeAssert (ordV n) 117 160 true).run Tryd.prog w = .ok (.tuple #[.int .i64 n.v, .bool true]) w := fun w => by kernel_rfl
  have D0 := Lib.hid d0; have D1 := Lib.hid d1; have D2 := Lib.hid d2; have HS3 := Lib.hid hs3; clear d0 d1 d2 hs3
  clear hR hRN d3 d4 d5 d6 d7 d8 d9
  go_enter Tryd.func70, Tryd.ntmps70
  go_wp2_with (first | ((with_reducible refine iD 17 (.build 79 _) ?_); refine step_buildRp3 (.tmp 12) (.tmp 14) (.tmp 16) 1 i64Z t rfl rfl rfl gw ?_) | ((with_reducible refine iO none (.store 3 (.tmp 23) (.tmp 22)) ?_); refine step_store1 S 3 (.tmp 23) (.tmp 22) g5 3 (.int .i64 n.v) rfl rfl _ _ pk kR rfl rfl (by rw [rpL_size]; decide) gw ?_; clear S; intro w S; rw [HS3.out] at S) | ((with_reducible refine iD 2 (.box 79 (.tmp 0)) ?_); refine step_boxA (dst := some 2) S 79 (.tmp 0) _ rfl rfl ?_; clear S; intro g2 w S) | ((with_reducible refine iD 4 (.alloc 79) ?_); refine step_alloc (dst := some 4) S 79 (.agg ((rpL rpZ (.slice none 0 0) (.slice none 0 0)).toArray)) ((rpL rpZ (.slice none 0 0) (.slice none 0 0)).toArray) kR rfl rfl ?_; clear S; intro g4 w S) | ((with_reducible refine iO _ (.load 5 _) ?_); refine step_load1 5 _ _ _ rfl (cL) _ Tryd.underlying5 rfl rfl ?_) | ((with_reducible refine iO _ (.load 24 _) ?_); refine step_load1 24 _ _ _ rfl (cL) _ Tryd.underlying24 rfl rfl ?_) | ((with_reducible refine iO _ (.load 23 _) ?_); refine step_load1 23 _ _ _ rfl (cL) _ Tryd.underlying23 rfl rfl ?_) | ((with_reducible refine iD 5 (.alloc 79) ?_); refine step_alloc (dst := some 5) S 79 (.agg ((rpL rpZ (.slice none 0 0) (.slice none 0 0)).toArray)) ((rpL rpZ (.slice none 0 0) (.slice none 0 0)).toArray) kR rfl rfl ?_; clear S; intro g5 w S) | ((with_reducible refine iO none (.store 79 (.tmp 5) (.tmp 17)) ?_); refine step_store S 79 (.tmp 5) (.tmp 17) _ _ rfl rfl _ _ pk 46 kR lN lN on1 rfl ?_; clear S; intro w S) | ((with_reducible refine iO none (.store 3 (.tmp 23) (.tmp 22)) ?_); refine step_store1 S 3 (.tmp 23) (.tmp 22) _ _ (.int _ _) rfl rfl _ _ pk kR kR rfl lN rfl ?_; clear S; intro w S; try simp only [List.setIfInBounds_toArray, List.set_cons_zero, List.set_cons_succ] at S) | ((with_reducible refine iD 7 (.alloc 162) ?_); refine step_alloc (dst := some 7) S 162 (.agg (#[.int .u8 0, .int .u64 0])) (#[.int .u8 0, .int .u64 0]) kR rfl rfl ?_; clear S; intro g7 w S) | ((with_reducible refine iO none (.store 162 (.tmp 7) (.tmp 26)) ?_); refine step_store S 162 (.tmp 7) (.tmp 26) _ _ rfl rfl _ _ pk 2 kR lN lN on1 rfl ?_; clear S; intro w S) | ((with_reducible refine iO none (.store 5 (.tmp 31) (.tmp 28)) ?_); first | (refine step_store1 S 5 (.tmp 31) (.tmp 28) _ _ (.int _ _) rfl rfl _ _ pk kR rfl rfl lN rfl ?_; clear S; intro w S; try simp only [List.setIfInBounds_toArray, List.set_cons_zero, List.set_cons_succ] at S) | (refine step_storeR S 5 (.tmp 31) (.tmp 28) _ _ (.int _ _) rfl rfl _ _ _ _ pk lE kR rfl rfl rfl ?_; clear S; intro w S) | (refine step_storeS S 5 (.tmp 31) (.tmp 28) _ _ (.int _ _) rfl rfl _ _ _ _ _ pk lE kR rfl rfl rfl ?_; clear S; intro w S)) | ((with_reducible refine iO none (.store 23 (.tmp 32) (.tmp 30)) ?_); first | (refine step_store1 S 23 (.tmp 32) (.tmp 30) _ _ (.int _ _) rfl rfl _ _ pk kR rfl rfl lN rfl ?_; clear S; intro w S; try simp only [List.setIfInBounds_toArray, List.set_cons_zero, List.set_cons_succ] at S) | (refine step_storeR S 23 (.tmp 32) (.tmp 30) _ _ (.int _ _) rfl rfl _ _ _ _ pk lE kR rfl rfl rfl ?_; clear S; intro w S) | (refine step_storeS S 23 (.tmp 32) (.tmp 30) _ _ (.int _ _) rfl rfl _ _ _ _ _ pk lE kR rfl rfl rfl ?_; clear S; intro w S)) | ((with_reducible refine iD 8 (.alloc 164) ?_); refine step_alloc (dst := some 8) S 164 (.agg (#[.slice none 0 0, .int .i64 0])) (#[.slice none 0 0, .int .i64 0]) kR rfl rfl ?_; clear S; intro g8 w S) | ((with_reducible refine iO none (.store 164 (.tmp 8) (.tmp 35)) ?_); refine step_store S 164 (.tmp 8) (.tmp 35) _ _ rfl rfl _ _ pk 2 kR lN lN on1 rfl ?_; clear S; intro w S) | ((with_reducible refine iO _ (.load 77 _) ?_); refine step_load1 77 _ _ _ rfl (cL) _ Tryd.underlying77 rfl rfl ?_) | ((with_reducible refine iO _ (.load 3 _) ?_); refine step_load1 3 _ _ _ rfl (cL) _ Tryd.underlying3 rfl rfl ?_) | ((with_reducible refine iO none (.store 77 (.tmp 40) (.tmp 37)) ?_); first | (refine step_store1 S 77 (.tmp 40) (.tmp 37) _ _ (.slice _ _ _) rfl rfl _ _ pk kR rfl rfl lN rfl ?_; clear S; intro w S; try simp only [List.setIfInBounds_toArray, List.set_cons_zero, List.set_cons_succ] at S) | (refine step_storeR S 77 (.tmp 40) (.tmp 37) _ _ (.slice _ _ _) rfl rfl _ _ _ _ pk lE kR rfl rfl rfl ?_; clear S; intro w S) | (refine step_storeS S 77 (.tmp 40) (.tmp 37) _ _ (.slice _ _ _) rfl rfl _ _ _ _ _ pk lE kR rfl rfl rfl ?_; clear S; intro w S)) | ((with_reducible refine iO none (.store 3 (.tmp 41) (.tmp 39)) ?_); refine step_store1 S 3 (.tmp 41) (.tmp 39) _ _ (.int _ _) rfl rfl _ _ pk kR kR rfl lN rfl ?_; clear S; intro w S; try simp only [List.setIfInBounds_toArray, List.set_cons_zero, List.set_cons_succ] at S) | ((with_reducible refine iD 9 (.alloc 108) ?_); refine step_alloc (dst := some 9) S 108 (.agg (#[.int .u32 0, .slice none 0 0])) (#[.int .u32 0, .slice none 0 0]) kR rfl rfl ?_; clear S; intro g9 w S) | ((with_reducible refine iO none (.store 108 (.tmp 9) (.tmp 44)) ?_); refine step_store S 108 (.tmp 9) (.tmp 44) _ _ rfl rfl _ _ pk 2 kR lN lN on1 rfl ?_; clear S; intro w S) | ((with_reducible refine iO _ (.load 38 _) ?_); refine step_load1 38 _ _ _ rfl (cL) _ Tryd.underlying38 rfl rfl ?_) | ((with_reducible refine iO _ (.load 31 _) ?_); refine step_load1 31 _ _ _ rfl (cL) _ Tryd.underlying31 rfl rfl ?_) | ((with_reducible refine iO none (.store 38 (.tmp 49) (.tmp 46)) ?_); first | (refine step_store1 S 38 (.tmp 49) (.tmp 46) _ _ (.int _ _) rfl rfl _ _ pk kR rfl rfl lN rfl ?_; clear S; intro w S; try simp only [List.setIfInBounds_toArray, List.set_cons_zero, List.set_cons_succ] at S) | (refine step_storeR S 38 (.tmp 49) (.tmp 46) _ _ (.int _ _) rfl rfl _ _ _ _ pk lE kR rfl rfl rfl ?_; clear S; intro w S) | (refine step_storeS S 38 (.tmp 49) (.tmp 46) _ _ (.int _ _) rfl rfl _ _ _ _ _ pk lE kR rfl rfl rfl ?_; clear S; intro w S)) | ((with_reducible refine iO none (.store 31 (.tmp 50) (.tmp 48)) ?_); first | (refine step_store1 S 31 (.tmp 50) (.tmp 48) _ _ (.slice _ _ _) rfl rfl _ _ pk kR rfl rfl lN rfl ?_; clear S; intro w S; try simp only [List.setIfInBounds_toArray, List.set_cons_zero, List.set_cons_succ] at S) | (refine step_storeR S 31 (.tmp 50) (.tmp 48) _ _ (.slice _ _ _) rfl rfl _ _ _ _ pk lE kR rfl rfl rfl ?_; clear S; intro w S) | (refine step_storeS S 31 (.tmp 50) (.tmp 48) _ _ (.slice _ _ _) rfl rfl _ _ _ _ _ pk lE kR rfl rfl rfl ?_; clear S; intro w S)) | ((with_reducible refine iD 10 (.alloc 114) ?_); refine step_alloc (dst := some 10) S 114 (.agg ((tokL tokZ).toArray)) ((tokL tokZ).toArray) kR rfl rfl ?_; clear S; intro g10 w S) | ((with_reducible refine iO none (.store 114 (.tmp 10) (.tmp 53)) ?_); refine step_store S 114 (.tmp 10) (.tmp 53) _ _ rfl rfl _ _ pk 36 kR lN lN on1 rfl ?_; clear S; intro w S) | ((with_reducible refine iO _ (.load 114 _) ?_); first | (refine step_load S 114 _ _ rfl _ _ _ pk _ Tryd.underlying114 rfl 36 kR lN rfl ?_) | (refine step_loadO 114 _ _ rfl _ _ _ (S.old_heap (Hid.out (by assumption))) _ Tryd.underlying114 rfl 36 kR lN rfl ?_) | (refine step_loadR 114 _ _ _ rfl _ (S.old_range hy) _ Tryd.underlying114 rfl 36 kR lN _ rfl rfl ?_)) | ((with_reducible refine iO none (.store 67 (.tmp 55) (.tmp 54)) ?_); refine step_store S 67 (.tmp 55) (.tmp 54) _ _ rfl rfl _ _ pk 36 kR lN lN on1 rfl ?_; clear S; intro w S) | ((with_reducible refine iO _ (.load 79 _) ?_); first | (refine step_load S 79 _ _ rfl _ _ _ pk _ Tryd.underlying79 rfl 46 kR lN rfl ?_) | (refine step_loadO 79 _ _ rfl _ _ _ (S.old_heap (Hid.out (by assumption))) _ Tryd.underlying79 rfl 46 kR lN rfl ?_) | (refine step_loadR 79 _ _ _ rfl _ (S.old_range hy) _ Tryd.underlying79 rfl 46 kR lN _ rfl rfl ?_)) | ((with_reducible refine iO none (.store 79 (.tmp 4) (.tmp 56)) ?_); refine step_store S 79 (.tmp 4) (.tmp 56) _ _ rfl rfl _ _ pk 46 kR lN lN on1 rfl ?_; clear S; intro w S) | fail)
  refine ret_row rfl g4 79 _ (S.get pk) _ Tryd.underlying79 46 kR lN rfl rfl rfl ?_
  exact ⟨rfl, S.nil⟩
set_option maxRecDepth 100000 in
set_option maxHeartbeats 4000000 in
theorem equalSg0_s (w0 : World) : Calls Tryd.prog 86 #[nilS, nilS] w0 fun e w' => e = .returned (.bool true) ∧ Has w0 w' [] := by
  have S := Has.start w0
  go_enter Tryd.func86, Tryd.ntmps86
  go_wp2
  go_loopw [13] (fun u wr => u = .int .i64 0 ∧ Has w0 wr []) (fun _ _ => 0)
  case atStart => exact ⟨rfl, S⟩
  case round =>
    clear S
    obtain ⟨rfl, S⟩ := hrel
    go_wp2
    go_ret
    exact ⟨rfl, S⟩
set_option maxRecDepth 100000 in
set_option maxHeartbeats 4000000 in
theorem equalRc0_s (w0 : World) : Calls Tryd.prog 87 #[nilS, nilS] w0 fun e w' => e = .returned (.bool true) ∧ Has w0 w' [] := by
  have S := Has.start w0
  go_enter Tryd.func87, Tryd.ntmps87
  go_wp2
  go_loopw [13] (fun u wr => u = .int .i64 0 ∧ Has w0 wr []) (fun _ _ => 0)
  case atStart => exact ⟨rfl, S⟩
  case round =>
    clear S
    obtain ⟨rfl, S⟩ := hrel
    go_wp2
    go_ret
    exact ⟨rfl, S⟩
set_option maxRecDepth 100000 in
set_option maxHeartbeats 8000000 in
theorem sameReplyO_s (t : UInt64) (n : I64) (w0 : World) : Calls Tryd.prog 73 #[.agg (rpL (rpO t n) nilS nilS).toArray, .agg (rpL (rpO t n) nilS nilS).toArray] w0 fun e w' => e = .returned (.bool true) ∧ Has w0 w' [] := by
  have S := Has.start w0
  have c := cellsO t n
  obtain ⟨d0, d1, d2, d3, d4, d5, d6, d7, d8, d9⟩ := c
  obtain ⟨R, hR⟩ : ∃ R, R = rpO t n := ⟨_, rfl⟩
  have dt := rpL_tok R nilS nilS
  rw [← hR] at d0 d1 d2 d3 d4 d5 d6 d7 d8 d9 ⊢
  have i1 : ((t.toNat : Int) == (t.toNat : Int)) = true := by simp
  have i2 : (n.v == n.v) = true := by simp
  have he := fun w => eqlT R.tok R.tok w
  simp only [decide_true] at he
  have eg := eqGuardT
  have p1 := equalSg0_s
  have p2 := equalRc0_s
  have D0 := Lib.hid d0; have D1 := Lib.hid d1; have D2 := Lib.hid d2; have D3 := Lib.hid d3; have D4 := Lib.hid d4; have D5 := Lib.hid d5; have D6 := Lib.hid d6; have D7 := Lib.hid d7; have D8 := Lib.hid d8; have D9 := Lib.hid d9; have DT := Lib.hid dt; have P1 := Lib.hid p1; have P2 := Lib.hid p2; clear d0 d1 d2 d3 d4 d5 d6 d7 d8 d9 dt p1 p2
  clear hR
  go_enter Tryd.func73, Tryd.ntmps73
  simp only [List.append_eq, List.cons_append, List.nil_append]
  go_wp2_with (first | ((with_reducible refine iD 2 (.box 79 (.tmp 0)) ?_); refine step_boxA (dst := some 2) S 79 (.tmp 0) _ rfl gw ?_; clear S; intro g2 w S) | ((with_reducible refine iD 3 (.box 79 (.tmp 1)) ?_); refine step_boxA (dst := some 3) S 79 (.tmp 1) _ rfl gw ?_; clear S; intro g3 w S) | ((with_reducible refine iO _ (.load 5 _) ?_); refine step_load1 5 _ _ _ rfl (cL) _ Tryd.underlying5 rfl gw ?_) | ((with_reducible refine iO _ (.load 24 _) ?_); refine step_load1 24 _ _ _ rfl (cL) _ Tryd.underlying24 rfl gw ?_) | ((with_reducible refine iO _ (.load 23 _) ?_); refine step_load1 23 _ _ _ rfl (cL) _ Tryd.underlying23 rfl gw ?_) | ((with_reducible refine iO _ (.load 3 _) ?_); refine step_load1 3 _ _ _ rfl (cL) _ Tryd.underlying3 rfl gw ?_) | ((with_reducible refine iO _ (.load 77 _) ?_); refine step_load1 77 _ _ _ rfl (cL) _ Tryd.underlying77 rfl gw ?_) | (go_at_call 86; (with_reducible refine (P1.out _).mono ?_); rintro e w1 ⟨rfl, T⟩; replace S := S.call T; clear T; (try simp only [z4, z5] at S)) | ((with_reducible refine iO _ (.load 38 _) ?_); refine step_load1 38 _ _ _ rfl (cL) _ Tryd.underlying38 rfl gw ?_) | ((with_reducible refine iO _ (.load 31 _) ?_); refine step_load1 31 _ _ _ rfl (cL) _ Tryd.underlying31 rfl gw ?_) | (go_at_call 87; (with_reducible refine (P2.out _).mono ?_); rintro e w1 ⟨rfl, T⟩; replace S := S.call T; clear T; (try simp only [z4, z5] at S)) | ((with_reducible refine iO _ (.load 67 _) ?_); first | (refine step_loadR 67 _ _ _ rfl _ (S.old_range hy) _ Tryd.underlying67 rfl 36 kR lN _ rfl gw ?_) | (refine step_loadP S 67 _ _ _ rfl _ _ _ pk 36 _ pT lN _ Tryd.underlying67 rfl kR gw ?_)) | fail)
  go_ret
  exact ⟨rfl, S.nil⟩
end Go.Proofs.YtfhkmmagpnojmaaDoor
