/- Replies that tell an order alone: DecodeReply. No condition but the reach. -/
import Derived.Test.YtfhkmmagpnojmaaDoorZBd
import Derived.Test.YtfhkmmagpnojmaaDoorZRpQ
set_option linter.unusedSimpArgs false
set_option linter.unusedVariables false
namespace Go.Proofs.YtfhkmmagpnojmaaDoor
open Go.RowKit

/-- The bytes are those of such a reply. -/
structure BytesO (b : List UInt8) (t : UInt64) (n : I64) : Prop where
  len : b.length = 15
  val : val (b.take 2) = 15
  kind : atB b 2 1 = 1
  code : atB b 3 2 = 0
  tick : atB b 5 8 = t.toNat
  order : (atB b 13 2 : Int) = n.v
theorem ruint_f (si : Int) (s : Nat) (hsi : si = (s : Int)) (g : Nat) (bv : Value) (b : List UInt8) (p : Nat) (x : Int) (hx : (atB b p s : Int) = x) (w0 w1 : World) (F : List Res) (S : Has w0 w1 (rdr g bv p :: F)) (hb : Bs w0 bv b) (h1 : 1 ≤ s) (h8 : s ≤ 8) (hp : p + s ≤ b.length) (hl : b.length ≤ 140737488355328) :
    Calls Tryd.prog 61 #[.pointer (some ⟨g, 0, none⟩), .int .i64 si] w1 fun e w' => e = .returned (.int .u64 x) ∧ Has w0 w' (rdr g bv (p + s) :: F) := by
  refine (ruint_i si s hsi g bv b p w0 w1 F S hb h1 h8 (by omega) hl).mono fun e w' h => ?_
  rcases h with ⟨_, h2, h3⟩ | ⟨h2, _⟩
  · rw [hx] at h2; exact ⟨h2, h3⟩
  · omega
set_option maxRecDepth 100000 in
set_option maxHeartbeats 1000000 in
theorem orderRead_s (v : Value) (n : I64) (g : Nat) (bv : Value) (b : List UInt8) (p : Nat) (hx : (atB b p 2 : Int) = n.v) (w0 w1 : World) (F : List Res) (S : Has w0 w1 (rdr g bv p :: F)) (hb : Bs w0 bv b) (hp : p + 2 ≤ b.length) (hl : b.length ≤ 140737488355328) :
    Calls Tryd.prog 140 #[v, .pointer (some ⟨g, 0, none⟩)] w1 fun e w' => e = .returned (ordV n) ∧ Has w0 w' (rdr g bv (p + 2) :: F) := by
  have p1 := fun w F S => ruint_f 2 2 rfl g bv b p n.v hx w0 w F S hb (by decide) (by decide) hp hl
  have hlt := atB_lt b p 2
  have e1 : IntKind.i64.wrap n.v = n.v := by rw [IntKind.wrap_i64, ← hx]; omega
  have P1 := Lib.hid p1; clear p1
  clear hx hlt
  go_enter Tryd.func140, Tryd.ntmps140
  go_wp2_with (first | (go_at_call 61; (with_reducible refine (P1.out _ _ S).mono ?_); rintro e w1 ⟨rfl, S1⟩; clear S; have S := S1; clear S1) | fail)
  go_ret
  exact ⟨rfl, S⟩
theorem rpL_setK : (rpL rpZ nilS nilS).toArray.setIfInBounds 0 (.int .u8 1) = (rpL (rpH 1 i64Z 0) nilS nilS).toArray := rfl
theorem rpL_setC : (rpL (rpH 1 i64Z 0) nilS nilS).toArray.setIfInBounds 1 (.int .i64 0) = (rpL (rpH 1 i64Z 0) nilS nilS).toArray := rfl
theorem rpL_setT (t : UInt64) : (rpL (rpH 1 i64Z 0) nilS nilS).toArray.setIfInBounds 2 (.int .u64 (t.toNat : Int)) = (rpL (rpO t i64Z) nilS nilS).toArray := rfl
set_option maxRecDepth 100000 in
set_option maxHeartbeats 8000000 in
theorem decClosO_s (t : UInt64) (n : I64) (g go : Nat) (bv : Value) (b : List UInt8) (hB : BytesO b t n) (w0 w1 : World) (F : List Res) (S : Has w0 w1 (rdr g bv 2 :: blk go (.cells (rpL rpZ nilS nilS).toArray 79 (0, 0)) :: F)) (hb : Bs w0 bv b) :
    Calls Tryd.prog 69 #[.pointer (some ⟨g, 0, none⟩), .pointer (some ⟨go, 0, none⟩)] w1 fun e w' => e = .returned (.tuple #[]) ∧ Has w0 w' (rdr g bv 15 :: blk go (.cells (rpL (rpO t n) nilS nilS).toArray 79 (0, 0)) :: F) := by
  have hl := hB.len
  have p1 := fun w F S => ruint_f 1 1 rfl g bv b 2 1 (by rw [hB.kind]; rfl) w0 w F S hb (by decide) (by decide) (by omega) (by omega)
  have p2 := fun w F S => ruint_f 2 2 rfl g bv b 3 0 (by rw [hB.code]; rfl) w0 w F S hb (by decide) (by decide) (by omega) (by omega)
  have p3 := fun w F S => ruint_f 8 8 rfl g bv b 5 (t.toNat : Int) (by rw [hB.tick]) w0 w F S hb (by decide) (by decide) (by omega) (by omega)
  have p4 := fun w => replyBodyO_s t i64Z w
  have p5 := fun v w F S => orderRead_s v n g bv b 13 hB.order w0 w F S hb (by omega) (by omega)
  have p6 := fun w => replyOfO_s t i64Z n w
  have mv : ∀ (u : Value) w, (callMethod (ordV i64Z) "dunnage/wire.read" #[u]).run Tryd.prog w = .ok (.enter 140 #[.int .i64 i64Z.v, u]) w := fun u w => by kernel_rfl
  have c0 := rpL_setK
  have c1 := rpL_setC
  have c2 := rpL_setT t
  obtain ⟨RZ, hRZ⟩ : ∃ R, R = rpZ := ⟨_, rfl⟩
  obtain ⟨R1, hR1⟩ : ∃ R, R = rpH 1 i64Z 0 := ⟨_, rfl⟩
  obtain ⟨R0, hR0⟩ : ∃ R, R = rpO t i64Z := ⟨_, rfl⟩
  obtain ⟨RN, hRN⟩ : ∃ R, R = rpO t n := ⟨_, rfl⟩
  rw [← hRZ] at c0 S
  rw [← hR1] at c0 c1 c2
  rw [← hR0] at c2 p4 p6
  rw [← hRN] at p6 ⊢
  have P1 := Lib.hid p1; have P2 := Lib.hid p2; have P3 := Lib.hid p3; have P4 := Lib.hid p4; have P5 := Lib.hid p5; have P6 := Lib.hid p6; have MV := Lib.hid mv; have C0 := Lib.hid c0; have C1 := Lib.hid c1; have C2 := Lib.hid c2; clear p1 p2 p3 p4 p5 p6 mv c0 c1 c2
  clear hRZ hR1 hR0 hRN hb hl
  go_enter Tryd.func69, Tryd.ntmps69
  go_upto_region 1 with (first | (go_at_call 61; (with_reducible refine (P1.out _ _ S).mono ?_); rintro e w1 ⟨rfl, S1⟩; clear S; have S := S1; clear S1; have _t := P1; clear P1) | (go_at_call 61; (with_reducible refine (P2.out _ _ S).mono ?_); rintro e w1 ⟨rfl, S1⟩; clear S; have S := S1; clear S1; have _t2 := P2; clear P2) | (go_at_call 61; (with_reducible refine (P3.out _ _ S).mono ?_); rintro e w1 ⟨rfl, S1⟩; clear S; have S := S1; clear S1) | ((with_reducible refine iO none (.store 5 (.tmp 11) (.tmp 5)) ?_); refine step_store1 S 5 (.tmp 11) (.tmp 5) go 0 (.int .u8 1) rfl rfl _ _ pk kR rfl rfl (by rw [rpL_size]; decide) gw ?_; clear S; intro w S; rw [C0.out] at S) | ((with_reducible refine iO none (.store 24 (.tmp 12) (.tmp 8)) ?_); refine step_store1 S 24 (.tmp 12) (.tmp 8) go 1 (.int .i64 0) rfl rfl _ _ pk kR rfl rfl (by rw [rpL_size]; decide) gw ?_; clear S; intro w S; rw [C1.out] at S) | ((with_reducible refine iO none (.store 23 (.tmp 13) (.tmp 10)) ?_); refine step_store1 S 23 (.tmp 13) (.tmp 10) go 2 (.int .u64 (t.toNat : Int)) rfl rfl _ _ pk kR rfl rfl (by rw [rpL_size]; decide) gw ?_; clear S; intro w S; rw [C2.out] at S) | ((with_reducible refine iO none (.store 5 (.tmp 11) (.tmp 5)) ?_); first | (refine step_store1 S 5 (.tmp 11) (.tmp 5) _ _ (.int _ _) rfl rfl _ _ pk kR rfl rfl lN rfl ?_; clear S; intro w S; try simp only [List.setIfInBounds_toArray, List.set_cons_zero, List.set_cons_succ] at S) | (refine step_storeR S 5 (.tmp 11) (.tmp 5) _ _ (.int _ _) rfl rfl _ _ _ _ pk lE kR rfl rfl rfl ?_; clear S; intro w S) | (refine step_storeS S 5 (.tmp 11) (.tmp 5) _ _ (.int _ _) rfl rfl _ _ _ _ _ pk lE kR rfl rfl rfl ?_; clear S; intro w S)) | ((with_reducible refine iO none (.store 24 (.tmp 12) (.tmp 8)) ?_); first | (refine step_store1 S 24 (.tmp 12) (.tmp 8) _ _ (.int _ _) rfl rfl _ _ pk kR rfl rfl lN rfl ?_; clear S; intro w S; try simp only [List.setIfInBounds_toArray, List.set_cons_zero, List.set_cons_succ] at S) | (refine step_storeR S 24 (.tmp 12) (.tmp 8) _ _ (.int _ _) rfl rfl _ _ _ _ pk lE kR rfl rfl rfl ?_; clear S; intro w S) | (refine step_storeS S 24 (.tmp 12) (.tmp 8) _ _ (.int _ _) rfl rfl _ _ _ _ _ pk lE kR rfl rfl rfl ?_; clear S; intro w S)) | ((with_reducible refine iO none (.store 23 (.tmp 13) (.tmp 10)) ?_); first | (refine step_store1 S 23 (.tmp 13) (.tmp 10) _ _ (.int _ _) rfl rfl _ _ pk kR rfl rfl lN rfl ?_; clear S; intro w S; try simp only [List.setIfInBounds_toArray, List.set_cons_zero, List.set_cons_succ] at S) | (refine step_storeR S 23 (.tmp 13) (.tmp 10) _ _ (.int _ _) rfl rfl _ _ _ _ pk lE kR rfl rfl rfl ?_; clear S; intro w S) | (refine step_storeS S 23 (.tmp 13) (.tmp 10) _ _ (.int _ _) rfl rfl _ _ _ _ _ pk lE kR rfl rfl rfl ?_; clear S; intro w S)) | ((with_reducible refine iO _ (.load 79 _) ?_); first | (refine step_load S 79 _ _ rfl _ _ _ pk _ Tryd.underlying79 rfl 46 kR lN rfl ?_) | (refine step_loadO 79 _ _ rfl _ _ _ (S.old_heap (Hid.out (by assumption))) _ Tryd.underlying79 rfl 46 kR lN rfl ?_) | (refine step_loadR 79 _ _ _ rfl _ (S.old_range hy) _ Tryd.underlying79 rfl 46 kR lN _ rfl rfl ?_)) | ((with_reducible refine iO none (.store 79 (.tmp 1) (.tmp 19)) ?_); refine step_store S 79 (.tmp 1) (.tmp 19) _ _ rfl rfl _ _ pk 46 kR lN lN on1 rfl ?_; clear S; intro w S) | fail)
  replace S : Has w0 w (blk go (.cells (rpL R0 nilS nilS).toArray 79 (0, 0)) :: rdr g bv 13 :: F) := S
  refine wp_relyW (e1 := noRes) 4 (S.pick (r := rdr g bv 13) pk) [⟨[], [], [], fun _ v => v = .agg (rpL R0 nilS nilS).toArray, fun _ v => []⟩, ⟨[], [], [], fun _ v => v = .agg (rpL R0 nilS nilS).toArray, fun _ v => []⟩, ⟨[1], [], [], fun _ v => v = ordV i64Z, fun _ v => []⟩, ⟨[], [], [], fun _ v => v = .pointer (some ⟨g, 0, none⟩), fun _ v => []⟩, ⟨[1, 2, 3], [], [], fun _ v => v = ordV n, fun _ v => [rdr g bv 15]⟩, ⟨[0, 1, 2, 3, 4], [], [], fun _ v => v = .agg (rpL RN nilS nilS).toArray, fun _ v => []⟩] ?A1 ?hA1 kR kR kR [0, 1, 2, 3, 4, 5] kR (of_decide_eq_true rfl) ?hok1 ?fin1
  case hA1 => intro u; simp only [putAll, List.length_cons, List.length_nil, Nat.zero_add, Nat.reduceAdd, dstAt, List.getElem?_toArray, List.getElem?_cons_zero, List.getElem?_cons_succ, Option.bind_some, Act.put, List.setIfInBounds_toArray, List.set_cons_zero, List.set_cons_succ]; rfl
  case hok1 =>
    intro i hi
    obtain rfl | rfl | rfl | rfl | rfl | rfl : i = 0 ∨ i = 1 ∨ i = 2 ∨ i = 3 ∨ i = 4 ∨ i = 5 := by simp only [List.length_cons, List.length_nil, Nat.zero_add, Nat.reduceAdd] at hi; omega
    · clear hi
      rw [if_neg (by decide)]; intro r0
      refine step_of rfl rfl rfl ?_
      intro u G w hf S
      simp only [resOf, spec, RSpec.resAt, z0, z1, z2, z3, z4, z5, z6, z7, ptrBlk] at S ⊢
      refine does_load 79 (.tmp 1) go rfl _ _ _ (S.get (r := blk go _) pk) _ Tryd.underlying79 rfl 46 kR lN ?_; exact ⟨rfl, S⟩
    · clear hi
      rw [if_neg (by decide)]; intro r0
      refine step_of rfl rfl rfl ?_
      intro u G w hf S
      simp only [resOf, spec, RSpec.resAt, z0, z1, z2, z3, z4, z5, z6, z7, ptrBlk] at S ⊢
      refine does_load 79 (.tmp 1) go rfl _ _ _ (S.get (r := blk go _) pk) _ Tryd.underlying79 rfl 46 kR lN ?_; exact ⟨rfl, S⟩
    · clear hi
      rw [if_neg (by decide)]; intro r0
      refine step_of rfl rfl rfl ?_
      intro u G w hf S
      have f1 : u 1 = .agg (rpL R0 nilS nilS).toArray := hf 1 (by simp)
      simp only [resOf, spec, RSpec.resAt, z0, z1, z2, z3, z4, z5, z6, z7, ptrBlk] at S ⊢
      simp only [f1]
      refine does_fn (args := [(.agg (rpL R0 nilS nilS).toArray)]) Tryd.func68 kR kR (P4.out w) rfl ?_
      rintro e w1 ⟨rfl, T⟩
      exact ⟨_, rfl, rfl, S.call T⟩
    · clear hi
      rw [if_neg (by decide)]; intro r0
      refine step_of rfl rfl rfl ?_
      intro u G w hf S
      simp only [resOf, spec, RSpec.resAt, z0, z1, z2, z3, z4, z5, z6, z7, ptrBlk] at S ⊢
      simp only [does]
      go_simp
      try first | exact S | exact ⟨vv, S⟩ | exact vv
    · clear hi
      rw [if_pos rfl]
      refine step_ofW rfl rfl rfl ?_
      intro u G w hf S
      have f2 : u 2 = ordV i64Z := hf 2 (by simp)
      have f3 : u 3 = .pointer (some ⟨g, 0, none⟩) := hf 3 (by simp)
      simp only [resOf, spec, RSpec.resAt, z0, z1, z2, z3, z4, z5, z6, z7, ptrBlk] at S ⊢
      simp only [f2, f3]
      refine does_inv (.tmp 16) "dunnage/wire.read" [.tmp 17] _ _ [.pointer (some ⟨g, 0, none⟩)] 140 _ rfl rfl (MV.out _ w) (P5.out _ w _ S) ?_; rintro e w1 ⟨rfl, S1⟩; exact ⟨_, rfl, rfl, S1.taken1⟩
    · clear hi
      rw [if_neg (by decide)]; intro r0
      refine step_of rfl rfl rfl ?_
      intro u G w hf S
      have f0 : u 0 = .agg (rpL R0 nilS nilS).toArray := hf 0 (by simp)
      have f4 : u 4 = ordV n := hf 4 (by simp)
      simp only [resOf, spec, RSpec.resAt, z0, z1, z2, z3, z4, z5, z6, z7, ptrBlk] at S ⊢
      simp only [f0, f4]
      refine does_fn (args := [(.agg (rpL R0 nilS nilS).toArray), (ordV n)]) Tryd.func70 kR kR (P6.out w) rfl ?_
      rintro e w1 ⟨rfl, T⟩
      exact ⟨_, rfl, rfl, S.call T⟩
  case fin1 =>
    intro u w hf S
    have f0 : u 0 = .agg (rpL R0 nilS nilS).toArray := hf 0 (by simp)
    have f1 : u 1 = .agg (rpL R0 nilS nilS).toArray := hf 1 (by simp)
    have f2 : u 2 = ordV i64Z := hf 2 (by simp)
    have f3 : u 3 = .pointer (some ⟨g, 0, none⟩) := hf 3 (by simp)
    have f4 : u 4 = ordV n := hf 4 (by simp)
    have f5 : u 5 = .agg (rpL RN nilS nilS).toArray := hf 5 (by simp)
    simp only [resOf, spec, RSpec.resAt, z0, z1, z2, z3, z4, z5, z6, z7, ptrBlk] at S
    clear hf
    simp only [List.length_cons, List.length_nil, Nat.zero_add, Nat.reduceAdd, List.drop_succ_cons, List.drop_zero, f0, f1, f2, f3, f4, f5]
    try simp only [f0, f1, f2, f3, f4, f5, ptrBlk] at S
    clear f0 f1 f2 f3 f4 f5
    go_wp2_with (first | ((with_reducible refine iO none (.store 5 (.tmp 11) (.tmp 5)) ?_); first | (refine step_store1 S 5 (.tmp 11) (.tmp 5) _ _ (.int _ _) rfl rfl _ _ pk kR rfl rfl lN rfl ?_; clear S; intro w S; try simp only [List.setIfInBounds_toArray, List.set_cons_zero, List.set_cons_succ] at S) | (refine step_storeR S 5 (.tmp 11) (.tmp 5) _ _ (.int _ _) rfl rfl _ _ _ _ pk lE kR rfl rfl rfl ?_; clear S; intro w S) | (refine step_storeS S 5 (.tmp 11) (.tmp 5) _ _ (.int _ _) rfl rfl _ _ _ _ _ pk lE kR rfl rfl rfl ?_; clear S; intro w S)) | ((with_reducible refine iO none (.store 24 (.tmp 12) (.tmp 8)) ?_); first | (refine step_store1 S 24 (.tmp 12) (.tmp 8) _ _ (.int _ _) rfl rfl _ _ pk kR rfl rfl lN rfl ?_; clear S; intro w S; try simp only [List.setIfInBounds_toArray, List.set_cons_zero, List.set_cons_succ] at S) | (refine step_storeR S 24 (.tmp 12) (.tmp 8) _ _ (.int _ _) rfl rfl _ _ _ _ pk lE kR rfl rfl rfl ?_; clear S; intro w S) | (refine step_storeS S 24 (.tmp 12) (.tmp 8) _ _ (.int _ _) rfl rfl _ _ _ _ _ pk lE kR rfl rfl rfl ?_; clear S; intro w S)) | ((with_reducible refine iO none (.store 23 (.tmp 13) (.tmp 10)) ?_); first | (refine step_store1 S 23 (.tmp 13) (.tmp 10) _ _ (.int _ _) rfl rfl _ _ pk kR rfl rfl lN rfl ?_; clear S; intro w S; try simp only [List.setIfInBounds_toArray, List.set_cons_zero, List.set_cons_succ] at S) | (refine step_storeR S 23 (.tmp 13) (.tmp 10) _ _ (.int _ _) rfl rfl _ _ _ _ pk lE kR rfl rfl rfl ?_; clear S; intro w S) | (refine step_storeS S 23 (.tmp 13) (.tmp 10) _ _ (.int _ _) rfl rfl _ _ _ _ _ pk lE kR rfl rfl rfl ?_; clear S; intro w S)) | ((with_reducible refine iO _ (.load 79 _) ?_); first | (refine step_load S 79 _ _ rfl _ _ _ pk _ Tryd.underlying79 rfl 46 kR lN rfl ?_) | (refine step_loadO 79 _ _ rfl _ _ _ (S.old_heap (Hid.out (by assumption))) _ Tryd.underlying79 rfl 46 kR lN rfl ?_) | (refine step_loadR 79 _ _ _ rfl _ (S.old_range hy) _ Tryd.underlying79 rfl 46 kR lN _ rfl rfl ?_)) | ((with_reducible refine iO none (.store 79 (.tmp 1) (.tmp 19)) ?_); refine step_store S 79 (.tmp 1) (.tmp 19) _ _ rfl rfl _ _ pk 46 kR lN lN on1 rfl ?_; clear S; intro w S) | fail)
    go_end0
    exact ⟨rfl, (S.drop (r := noRes) pk).pick2 (r := rdr g bv 15) (s := blk go _) pk pk⟩
/-- whole, for such a reply. -/
theorem wholeO_s (t : UInt64) (n : I64) (bv : Value) (b : List UInt8) (hB : BytesO b t n) (go : Nat) (w0 w1 : World) (G0 : List Res) (S : Has w0 w1 (blk go (.cells (rpL rpZ nilS nilS).toArray 79 (0, 0)) :: G0)) (hb : Bs w0 bv b) :
    Calls Tryd.prog 59 #[bv, .func (.func 69) #[] #[.pointer (some ⟨go, 0, none⟩)]] w1 fun e w' =>
      e = .returned (.bool true) ∧ Has w0 w' (blk go (.cells (rpL (rpO t n) nilS nilS).toArray 79 (0, 0)) :: G0) := by
  have hl := hB.len
  refine (whole_s bv b 69 Tryd.f69 [.pointer (some ⟨go, 0, none⟩)] w0 w1 _ G0 S hb (by omega) (by omega) Tryd.func69 kR kR (15 ≤ b.length) 15
    [blk go (.cells (rpL (rpO t n) nilS nilS).toArray 79 (0, 0))] (fun cs => [blk go (.cells cs 79 (0, 0))]) (fun g w G S => ?_)).mono fun e w' h => ?_
  · refine (decClosO_s t n g go bv b hB w0 w G S hb).mono fun e w' h => ?_
    exact .inl ⟨by omega, h.1, h.2⟩
  · rcases h with ⟨h1, rfl, h3⟩ | ⟨h1, rfl, cs, h3⟩
    · refine ⟨?_, h3⟩
      rw [decide_eq_true (show val (b.take 2) = b.length ∧ 15 = b.length from ⟨by rw [hB.val, hl], hl.symm⟩)]
    · omega
set_option maxRecDepth 100000 in
set_option maxHeartbeats 8000000 in
theorem decodeReplyO_s (t : UInt64) (n : I64) (ht : t.toNat ≤ 4611686018427387904) (hn : 0 ≤ n.v ∧ n.v ≤ 65535) (bv : Value) (b : List UInt8) (hB : BytesO b t n) (w0 : World) (hb : Bs w0 bv b) :
    Calls Tryd.prog 39 #[bv] w0 fun e w' => e = .returned (.tuple #[.agg (rpL (rpO t n) nilS nilS).toArray, .int .i64 0]) ∧ Has w0 w' [] := by
  have S := Has.start w0
  obtain ⟨a0, c0, rfl, k1, k2⟩ := Sl.shape hb
  unfold maxLen at k2
  have hl := hB.len
  have i1 : ¬ (b.length : Int) < 13 := by omega
  have p1 := fun go w G0 S => wholeO_s t n (.slice a0 b.length c0) b hB go w0 w G0 S hb
  have p2 := fun w => checkReplyO_s t n ht hn w
  obtain ⟨RZ, hRZ⟩ : ∃ R, R = rpZ := ⟨_, rfl⟩
  obtain ⟨RN, hRN⟩ : ∃ R, R = rpO t n := ⟨_, rfl⟩
  rw [← hRN] at p1 p2 ⊢
  have HB := Lib.hid hb; have P1 := Lib.hid p1; have P2 := Lib.hid p2; have HN := Lib.hid hn; clear hb p1 p2 hn
  clear hRZ hRN hl ht
  go_enter Tryd.func39, Tryd.ntmps39
  go_wp2_with (first | (go_at_call 59; (with_reducible refine (P1.out g4 _ _ S).mono ?_); rintro e w1 ⟨rfl, S1⟩; clear S; have S := S1; clear S1) | ((with_reducible refine iD 2 (.alloc 79) ?_); refine step_alloc (dst := some 2) S 79 (.agg ((rpL rpZ (.slice none 0 0) (.slice none 0 0)).toArray)) ((rpL rpZ (.slice none 0 0) (.slice none 0 0)).toArray) kR rfl gw ?_; clear S; intro g2 w S) | ((with_reducible refine iD 9 (.build 79 _) ?_); refine step_buildZ 79 (.agg ((rpL rpZ (.slice none 0 0) (.slice none 0 0)).toArray)) (fun w => by kernel_rfl) gw ?_) | ((with_reducible refine iO none (.store 79 (.tmp 2) (.tmp 9)) ?_); refine step_store S 79 (.tmp 2) (.tmp 9) _ _ rfl rfl _ _ pk 46 kR lN lN on1 gw ?_; clear S; intro w S) | ((with_reducible refine iD 4 (.alloc 79) ?_); refine step_alloc (dst := some 4) S 79 (.agg ((rpL rpZ (.slice none 0 0) (.slice none 0 0)).toArray)) ((rpL rpZ (.slice none 0 0) (.slice none 0 0)).toArray) kR rfl gw ?_; clear S; intro g4 w S) | ((with_reducible refine iD 11 (.makeFunc _ _ _) ?_); refine step_makeF _ [.tmp 4] [.pointer (some ⟨g4, 0, none⟩)] rfl gw ?_) | ((with_reducible refine iO _ (.load 79 _) ?_); first | (refine step_load S 79 _ _ rfl _ _ _ pk _ Tryd.underlying79 rfl 46 kR lN gw ?_) | (refine step_loadO 79 _ _ rfl _ _ _ (S.old_heap (Hid.out (by assumption))) _ Tryd.underlying79 rfl 46 kR lN gw ?_) | (refine step_loadR 79 _ _ _ rfl _ (S.old_range hy) _ Tryd.underlying79 rfl 46 kR lN _ rfl gw ?_)) | (go_at_call 41; (with_reducible refine (P2.out _).mono ?_); rintro e w1 ⟨rfl, T⟩; replace S := S.call T; clear T; (try simp only [z4, z5] at S)) | ((with_reducible refine iD 20 (.build 79 _) ?_); refine step_buildZ 79 (.agg ((rpL rpZ (.slice none 0 0) (.slice none 0 0)).toArray)) (fun w => by kernel_rfl) gw ?_) | ((with_reducible refine iO none (.store 79 (.tmp 2) (.tmp 20)) ?_); refine step_store S 79 (.tmp 2) (.tmp 20) _ _ rfl rfl _ _ pk 46 kR lN lN on1 gw ?_; clear S; intro w S) | ((with_reducible refine iO none (.store 79 (.tmp 2) (.tmp 21)) ?_); refine step_store S 79 (.tmp 2) (.tmp 21) _ _ rfl rfl _ _ pk 46 kR lN lN on1 gw ?_; clear S; intro w S) | fail)
  refine ret_row_tmp rfl g2 79 _ (S.get pk) _ Tryd.underlying79 46 kR lN rfl rfl rfl ?_
  exact ⟨rfl, S.nil⟩
end Go.Proofs.YtfhkmmagpnojmaaDoor
