/- The method 'read' of a watch. No condition but the reach. -/
import Derived.Test.YtfhkmmagpnojmaaZBd
import Derived.Test.YtfhkmmagpnojmaaZRpR
set_option linter.unusedSimpArgs false
set_option linter.unusedVariables false
namespace Go.Proofs.Ytfhkmmagpnojmaa
open Go.RowKit

theorem sgtL_all (l : List Sgt) : ∀ u ∈ l.flatMap sgtL, u.oneCell' = true := by
  intro u hu
  obtain ⟨m, _, hm⟩ := List.mem_flatMap.1 hu
  have := sgtL_one m
  rw [Array.all_eq_true'] at this
  exact this u (by simpa using hm)
set_option maxRecDepth 100000 in
theorem infoSg : (Try.prog.info? 101).map (fun i => (i.zero, i.size, i.bytes)) = some (some (.agg (sgtL sgtZ).toArray), 3, 24) := by kernel_rfl
set_option maxRecDepth 100000 in
theorem infoSg2 : (Try.prog.info? 101).map (fun i => (i.zero, i.size)) = some (some (.agg (sgtL sgtZ).toArray), 3) := by kernel_rfl
set_option maxRecDepth 100000 in
theorem does_appendSg {a : Act} {w0 w : World} {F : List Res} {dst : Option Tmp} {ty : TypeId} {pos : String} {after : Array Edge} {guard : Option (Nat × Bool)} {Post : Value → World → Prop} (s x : Operand)
    (v : Value) (xs : List Sgt) (hs : a.eval s = v) (S : Has w0 w (rowSg v xs :: F)) (src : Value) (ys : List Sgt) (hx : a.eval x = src) (hsrc : Sl w 3 src ys.length (ys.flatMap sgtL)) (hlen : (xs.length + ys.length) * 24 ≤ 140737488355328)
    (h : ∀ v' w', Has w0 w' (rowSg v' (xs ++ ys) :: F) → Post v' w') :
    does Try.prog a.eval ⟨dst, .call { callee := .builtin .append, args := #[s, x], argTypes := #[50, 50] }, ty, pos, after, guard⟩ w Post := by
  refine does_append s x 50 101 (.agg (sgtL sgtZ).toArray) 3 24 Try.underlying50 infoSg rfl (by decide) v xs.length (xs.flatMap sgtL) hs S src ys.length (ys.flatMap sgtL) hx hsrc (sgtL_all _) (by unfold maxLen; omega) hlen ?_
  intro v' w' S'
  refine h v' w' ?_
  rw [← List.flatMap_append, ← List.length_append] at S'
  exact S'
set_option maxRecDepth 100000 in
theorem does_buildSg1 {a : Act} {w0 w : World} {l : List Res} {dst : Option Tmp} {ty : TypeId} {pos : String} {after : Array Edge} {gd : Option (Nat × Bool)} {Post : Value → World → Prop} (S : Has w0 w l) (x : Operand) (r : Sgt) (hx : a.eval x = .agg (sgtL r).toArray)
    (h : ∀ v w', Has w0 w' (rowSg v [r] :: l) → Post v w') : does Try.prog a.eval ⟨dst, .buildSlice 50 1 #[(0, x)], ty, pos, after, gd⟩ w Post :=
  does_buildS1 S 50 101 3 x (sgtL r) _ Try.underlying50 infoSg2 (by decide) (by decide) hx (sgtL_length _) fun v w' S' => h v w' (by
    have e : [r].flatMap sgtL = sgtL r := by simp
    show Has w0 w' (row v _ 3 1 ([r].flatMap sgtL) :: l)
    rw [e]
    exact S')
set_option maxRecDepth 100000 in
theorem build_sg (x y z : Int) (w : World) : (Instr.build 101 #[(0, .int .i64 x), (1, .int .u8 y), (2, .int .i64 z)]).run Try.prog w = .ok (.agg #[.int .i64 x, .int .u8 y, .int .i64 z]) w := by kernel_rfl
theorem Has.taken2 {w0 w : World} {q r s : Res} {l : List Res} (S : Has w0 w (q :: both r s :: l)) : Has w0 w (r :: s :: q :: noRes :: l) :=
  ((S.perm (List.Perm.swap _ _ _)).split.unit.perm (List.perm_append_comm (l₁ := [noRes]) (l₂ := [r, s, q])|>.append_right l))
/-- The sights that are read, one by one. -/
def sgR (b : List UInt8) (p k : Nat) : List Sgt := (List.range k).map fun i => sgtAt b (p + 1 + 4 * i)
theorem sgR_succ (b : List UInt8) (p k : Nat) : sgR b p (k + 1) = sgR b p k ++ [sgtAt b (p + 1 + 4 * k)] := by
  unfold sgR
  rw [List.range_succ, List.map_append]
  rfl
theorem sgR_length (b : List UInt8) (p k : Nat) : (sgR b p k).length = k := by simp [sgR]
set_option maxRecDepth 100000 in
set_option maxHeartbeats 8000000 in
theorem watchRead_s (cs : Array Value) (g : Nat) (bv : Value) (b : List UInt8) (p : Nat) (w0 w1 : World) (F : List Res) (S : Has w0 w1 (rdr g bv p :: F)) (hb : Bs w0 bv b) (hp : p ≤ b.length) (hl : b.length ≤ 140737488355328) :
    Calls Try.prog 104 #[.agg cs, .pointer (some ⟨g, 0, none⟩)] w1 fun e w' =>
      (p + 2 + 4 * atB b p 1 ≤ b.length ∧ (∃ a c, e = .returned (.iface 126 (.agg #[.slice a (atB b p 1) c, .int .i64 (atB b (p + 1 + 4 * atB b p 1) 1 : Int)])) ∧ Has w0 w' (rdr g bv (p + 2 + 4 * atB b p 1) :: rowSg (.slice a (atB b p 1) c) (sgR b p (atB b p 1)) :: F))) ∨
      (b.length < p + 2 + 4 * atB b p 1 ∧ e = .panicked [erl] ∧ ∃ q, Has w0 w' (rdr g bv q :: F)) := by
  have p1 := fun w F S => ruint_i 1 1 rfl g bv b p w0 w F S hb (by decide) (by decide) hp hl
  have pu1 := fun q w F S h => ruint_i 1 1 rfl g bv b q w0 w F S hb (by decide) (by decide) h hl
  have pu2 := fun q w F S h => ruint_i 2 2 rfl g bv b q w0 w F S hb (by decide) (by decide) h hl
  have hn := atB_lt b p 1
  obtain ⟨N, hN⟩ : ∃ N, N = atB b p 1 := ⟨_, rfl⟩
  rw [← hN] at p1 hn ⊢
  have hN256 : N < 256 := by omega
  have hN0 := hN
  have P1 := Lib.hid p1; have PU1 := Lib.hid pu1; have PU2 := Lib.hid pu2; have HN0 := Lib.hid hN0; have HN256 := Lib.hid hN256; clear p1 pu1 pu2 hN0 hN256
  clear hN hn hb
  go_enter Try.func104, Try.ntmps104
  go_wp2_with (first | (go_at_call 35; (with_reducible refine (P1.out _ _ (S.pick (r := rdr g bv p) pk)).mono ?_); rintro e w1 (⟨hf, rfl, S1⟩ | ⟨hf, rfl, S1⟩); rotate_left; exact ⟨rfl, .inr ⟨by omega, rfl, _, (S1.drop (Pick.tail (Pick.head _ _))).drop (Pick.tail (Pick.head _ _))⟩⟩; clear S; have S := S1; clear S1) | ((with_reducible refine iD 2 (.box 126 (.tmp 0)) ?_); refine step_boxA (dst := some 2) S 126 (.tmp 0) _ rfl rfl ?_; clear S; intro g2 w S) | ((with_reducible refine iD 5 (.alloc 126) ?_); refine step_alloc (dst := some 5) S 126 (.agg (#[.slice none 0 0, .int .i64 0])) (#[.slice none 0 0, .int .i64 0]) kR rfl rfl ?_; clear S; intro g5 w S) | ((with_reducible refine iO _ (.load 50 _) ?_); refine step_load1 50 _ _ _ rfl (cL) _ Try.underlying50 rfl rfl ?_) | ((with_reducible refine iO none (.store 50 (.tmp 24) (.tmp 23)) ?_); first | (refine step_store1 S 50 (.tmp 24) (.tmp 23) _ _ (.slice _ _ _) rfl rfl _ _ pk kR rfl rfl lN rfl ?_; clear S; intro w S; try simp only [List.setIfInBounds_toArray, List.set_cons_zero, List.set_cons_succ] at S) | (refine step_storeR S 50 (.tmp 24) (.tmp 23) _ _ (.slice _ _ _) rfl rfl _ _ _ _ pk lE kR rfl rfl rfl ?_; clear S; intro w S) | (refine step_storeS S 50 (.tmp 24) (.tmp 23) _ _ (.slice _ _ _) rfl rfl _ _ _ _ _ pk lE kR rfl rfl rfl ?_; clear S; intro w S)) | ((with_reducible refine iO none (.store 3 (.tmp 29) (.tmp 28)) ?_); refine step_store1 S 3 (.tmp 29) (.tmp 28) _ _ (.int _ _) rfl rfl _ _ pk kR kR rfl lN rfl ?_; clear S; intro w S; try simp only [List.setIfInBounds_toArray, List.set_cons_zero, List.set_cons_succ] at S) | ((with_reducible refine iO _ (.load 126 _) ?_); first | (refine step_load S 126 _ _ rfl _ _ _ pk _ Try.underlying126 rfl 2 kR lN rfl ?_) | (refine step_loadO 126 _ _ rfl _ _ _ (S.old_heap (Hid.out (by assumption))) _ Try.underlying126 rfl 2 kR lN rfl ?_) | (refine step_loadR 126 _ _ _ rfl _ (S.old_range hy) _ Try.underlying126 rfl 2 kR lN _ rfl rfl ?_)) | fail)
  go_loopw [8] (fun u wr => ∃ (k : Nat) (rv : Value), k ≤ N ∧ u = .int .u64 (k : Int) ∧ p + 1 + 4 * k ≤ b.length ∧ Has w0 wr (rdr g bv (p + 1 + 4 * k) :: blk g5 (.cells #[rv, .int .i64 0] 126 (0, 0)) :: rowSg rv (sgR b p k) :: F)) (fun u _ => N - (intOf u).toNat)
  case atStart => exact ⟨0, .slice none 0 0, Nat.zero_le _, rfl, by omega, (((S.drop (Pick.tail (Pick.tail (Pick.head _ _)))).nil_row 101 3).perm (List.perm_append_comm (l₁ := [rowSg (.slice none 0 0) []]) (l₂ := [rdr g bv (p + 1), blk g5 _]) |>.append_right F))⟩
  case round =>
    clear S
    obtain ⟨k, rv, hk, rfl, hpk, S⟩ := hrel
    by_cases hlt : k < N
    · have hki : (k : Int) < (N : Int) := by omega
      have hkl := HN256.out
      obtain ⟨P0, hP0⟩ : ∃ P, P = p + 1 + 4 * k := ⟨_, rfl⟩
      have hmore := sgR_succ b p k
      have hlen := sgR_length b p k
      rw [← hP0] at S hpk hmore
      have hle : ((sgR b p k).length + [sgtAt b P0].length) * 24 ≤ 140737488355328 := by rw [hlen]; simp only [List.length_cons, List.length_nil]; omega
      have q1 := fun w F S => PU1.out P0 w F S hpk
      have q2 := fun w F S h => PU1.out (P0 + 1) w F S h
      have q3 := fun w F S h => PU2.out (P0 + 2) w F S h
      have b0 := atB_lt b P0 1
      have b1 := atB_lt b (P0 + 1) 1
      have b2 := atB_lt b (P0 + 2) 2
      have hX : (sgtL (sgtAt b P0)).toArray = #[.int .i64 (atB b P0 1 : Int), .int .u8 (atB b (P0 + 1) 1 : Int), .int .i64 (atB b (P0 + 2) 2 : Int)] := by
        unfold sgtL sgtAt
        dsimp only
        rw [i1_at, u8_at, i2_at]
      obtain ⟨X, hXe⟩ : ∃ X, X = sgtAt b P0 := ⟨_, rfl⟩
      obtain ⟨RO, hRO⟩ : ∃ R, R = sgR b p k := ⟨_, rfl⟩
      rw [← hRO] at S hmore hle
      rw [← hXe] at hmore hle hX
      obtain ⟨A0, hA0⟩ : ∃ A, A = atB b P0 1 := ⟨_, rfl⟩
      obtain ⟨A1, hA1⟩ : ∃ A, A = atB b (P0 + 1) 1 := ⟨_, rfl⟩
      obtain ⟨A2, hA2⟩ : ∃ A, A = atB b (P0 + 2) 2 := ⟨_, rfl⟩
      rw [← hA0] at q1 hX b0
      rw [← hA1] at q2 hX b1
      rw [← hA2] at q3 hX b2
      have w0' : IntKind.i64.wrap (A0 : Int) = (A0 : Int) := by rw [IntKind.wrap_i64]; omega
      have w1' : IntKind.u8.wrap (A1 : Int) = (A1 : Int) := by rw [IntKind.wrap_u8]; omega
      have w1'' : (A1 : Int) % 256 = (A1 : Int) := by omega
      have w2' : IntKind.i64.wrap (A2 : Int) = (A2 : Int) := by rw [IntKind.wrap_i64]; omega
      have wk : IntKind.u64.wrap ((k : Int) + 1) = (k : Int) + 1 := by rw [IntKind.wrap_u64]; omega
      have bsg := build_sg
      have S := ((S.pick2 (r := blk g5 _) (s := rowSg rv RO) pk pk).join).pick (r := rdr g bv P0) pk
      have Q1 := Lib.hid q1; have Q2 := Lib.hid q2; have Q3 := Lib.hid q3; have HLE := Lib.hid hle; have HX := Lib.hid hX; have HP0 := Lib.hid hP0; have HPK := Lib.hid hpk; have HMORE := Lib.hid hmore; clear q1 q2 q3 hle hX hP0 hpk hmore
      clear hRO hXe hA0 hA1 hA2 b0 b1 b2 hlen hkl
      go_upto_region 4 with (first | ((with_reducible refine iD 2 (.box 126 (.tmp 0)) ?_); refine step_boxA (dst := some 2) S 126 (.tmp 0) _ rfl rfl ?_; clear S; intro g2 w S) | ((with_reducible refine iD 5 (.alloc 126) ?_); refine step_alloc (dst := some 5) S 126 (.agg (#[.slice none 0 0, .int .i64 0])) (#[.slice none 0 0, .int .i64 0]) kR rfl rfl ?_; clear S; intro g5 w S) | ((with_reducible refine iO _ (.load 50 _) ?_); refine step_load1 50 _ _ _ rfl (cL) _ Try.underlying50 rfl rfl ?_) | ((with_reducible refine iO none (.store 50 (.tmp 24) (.tmp 23)) ?_); first | (refine step_store1 S 50 (.tmp 24) (.tmp 23) _ _ (.slice _ _ _) rfl rfl _ _ pk kR rfl rfl lN rfl ?_; clear S; intro w S; try simp only [List.setIfInBounds_toArray, List.set_cons_zero, List.set_cons_succ] at S) | (refine step_storeR S 50 (.tmp 24) (.tmp 23) _ _ (.slice _ _ _) rfl rfl _ _ _ _ pk lE kR rfl rfl rfl ?_; clear S; intro w S) | (refine step_storeS S 50 (.tmp 24) (.tmp 23) _ _ (.slice _ _ _) rfl rfl _ _ _ _ _ pk lE kR rfl rfl rfl ?_; clear S; intro w S)) | ((with_reducible refine iO none (.store 3 (.tmp 29) (.tmp 28)) ?_); refine step_store1 S 3 (.tmp 29) (.tmp 28) _ _ (.int _ _) rfl rfl _ _ pk kR kR rfl lN rfl ?_; clear S; intro w S; try simp only [List.setIfInBounds_toArray, List.set_cons_zero, List.set_cons_succ] at S) | ((with_reducible refine iO _ (.load 126 _) ?_); first | (refine step_load S 126 _ _ rfl _ _ _ pk _ Try.underlying126 rfl 2 kR lN rfl ?_) | (refine step_loadO 126 _ _ rfl _ _ _ (S.old_heap (Hid.out (by assumption))) _ Try.underlying126 rfl 2 kR lN rfl ?_) | (refine step_loadR 126 _ _ _ rfl _ (S.old_range hy) _ Try.underlying126 rfl 2 kR lN _ rfl rfl ?_)) | fail)
      refine wp_relyBW2 (Bad := fun c w' => b.length < p + 2 + 4 * N ∧ c = [erl] ∧ ∃ q, Has w0 w' (rdr g bv q :: F)) 2 0 ?hbad1 (S.pick2 (r := rdr g bv P0) (s := both (blk g5 (.cells #[rv, .int .i64 0] 126 (0, 0))) (rowSg rv RO)) pk pk) [⟨[], [], [], fun _ v => v = .pointer (some ⟨g5, 0, none⟩), fun _ v => [blk g5 (.cells #[rv, .int .i64 0] 126 (0, 0)), rowSg rv RO]⟩, ⟨[0], [], [0], fun _ v => v = rv, fun _ v => []⟩, ⟨[], [], [], fun _ v => v = .pointer (some ⟨g, 0, none⟩), fun _ v => [rdr g bv P0]⟩, ⟨[2], [2], [], fun _ v => P0 + 1 ≤ b.length ∧ v = .int .u64 (A0 : Int), fun _ v => [rdr g bv (P0 + 1)]⟩, ⟨[2, 3], [], [], fun _ v => v = .int .i64 (A0 : Int), fun _ v => []⟩, ⟨[], [], [], fun _ v => v = (.pointer (some ⟨g, 0, none⟩)), fun _ v => []⟩, ⟨[2, 3, 5], [3], [], fun _ v => P0 + 1 + 1 ≤ b.length ∧ v = .int .u64 (A1 : Int), fun _ v => [rdr g bv (P0 + 1 + 1)]⟩, ⟨[2, 3, 5, 6], [], [], fun _ v => v = .int .u8 (A1 : Int), fun _ v => []⟩, ⟨[], [], [], fun _ v => v = (.pointer (some ⟨g, 0, none⟩)), fun _ v => []⟩, ⟨[2, 3, 5, 6, 8], [6], [], fun _ v => P0 + 2 + 2 ≤ b.length ∧ v = .int .u64 (A2 : Int), fun _ v => [rdr g bv (P0 + 2 + 2)]⟩, ⟨[2, 3, 5, 6, 8, 9], [], [], fun _ v => v = .int .i64 (A2 : Int), fun _ v => []⟩, ⟨[2, 3, 4, 5, 6, 7, 8, 9, 10], [], [], fun _ v => v = .agg #[.int .i64 (A0 : Int), .int .u8 (A1 : Int), .int .i64 (A2 : Int)], fun _ v => []⟩, ⟨[2, 3, 4, 5, 6, 7, 8, 9, 10, 11], [], [], fun _ v => ∃ y, v = y, fun _ v => [rowSg v [X]]⟩, ⟨[0, 1, 2, 3, 4, 5, 6, 7, 8, 9, 10, 11, 12], [0, 12], [], fun _ v => True, fun _ v => [blk g5 (.cells #[rv, .int .i64 0] 126 (0, 0)), rowSg v (RO ++ [X])]⟩, ⟨[0, 1, 2, 3, 4, 5, 6, 7, 8, 9, 10, 11, 12, 13], [], [], fun _ v => v = .pointer (some ⟨g5, 0, none⟩), fun _ v => []⟩, ⟨[0, 1, 2, 3, 4, 5, 6, 7, 8, 9, 10, 11, 12, 13, 14], [13], [], fun _ v => True, fun d v => [blk g5 (.cells #[d 13, .int .i64 0] 126 (0, 0)), rowSg (d 13) (RO ++ [X])]⟩] ?A1 ?hA1 kR kR kR [1, 4, 5, 7, 8, 9, 10, 11, 14, 15] kR (of_decide_eq_true rfl) ?hok1 ?fin1
      case hA1 => intro u; simp only [putAll, List.length_cons, List.length_nil, Nat.zero_add, Nat.reduceAdd, dstAt, List.getElem?_toArray, List.getElem?_cons_zero, List.getElem?_cons_succ, Option.bind_some, Act.put, List.setIfInBounds_toArray, List.set_cons_zero, List.set_cons_succ]; rfl
      case hbad1 => intro c a2 w2 hd hb; obtain ⟨h1, rfl, q, hS⟩ := hb; exact ⟨hd, .inr ⟨h1, rfl, q, hS⟩⟩
      case hok1 =>
        intro i hi
        obtain rfl | rfl | rfl | rfl | rfl | rfl | rfl | rfl | rfl | rfl | rfl | rfl | rfl | rfl | rfl | rfl : i = 0 ∨ i = 1 ∨ i = 2 ∨ i = 3 ∨ i = 4 ∨ i = 5 ∨ i = 6 ∨ i = 7 ∨ i = 8 ∨ i = 9 ∨ i = 10 ∨ i = 11 ∨ i = 12 ∨ i = 13 ∨ i = 14 ∨ i = 15 := by simp only [List.length_cons, List.length_nil, Nat.zero_add, Nat.reduceAdd] at hi; omega
        · clear hi
          rw [if_neg (by decide), if_pos rfl]; intro r0
          refine step_ofB rfl rfl rfl ?_
          intro u G w hf S
          simp only [resOf, spec, RSpec.resAt, z0, z1, z2, z3, z4, z5, z6, z7, ptrBlk] at S ⊢
          refine does.bad ?_
          simp only [does]
          go_simp
          first | exact S.taken2 | exact ⟨rfl, S.taken2⟩
        · clear hi
          rw [if_neg (by decide), if_neg (by decide)]; intro r0 r1
          refine step_ofB rfl rfl rfl ?_
          intro u G w hf S
          have f0 : u 0 = .pointer (some ⟨g5, 0, none⟩) := hf 0 (by simp)
          simp only [resOf, spec, RSpec.resAt, z0, z1, z2, z3, z4, z5, z6, z7, ptrBlk] at S ⊢
          simp only [f0] at S ⊢
          try simp only [ptrBlk] at S
          refine does.bad ?_
          refine does_load1 50 (.tmp 10) _ _ rfl (S.cell (g := g5) pk rfl) _ Try.underlying50 rfl ?_; exact ⟨rfl, S⟩
        · clear hi
          rw [if_pos rfl]; intro r0
          refine step_ofB rfl rfl rfl ?_
          intro u G w hf S
          simp only [resOf, spec, RSpec.resAt, z0, z1, z2, z3, z4, z5, z6, z7, ptrBlk] at S ⊢
          refine does.bad ?_
          simp only [does]
          go_simp
          first | exact S.taken1 | exact ⟨rfl, S.taken1⟩
        · clear hi
          rw [if_neg (by decide), if_neg (by decide)]; intro r0 r1
          refine step_ofB rfl rfl rfl ?_
          intro u G w hf S
          have f2 : u 2 = .pointer (some ⟨g, 0, none⟩) := hf 2 (by simp)
          simp only [resOf, spec, RSpec.resAt, z0, z1, z2, z3, z4, z5, z6, z7, ptrBlk] at S ⊢
          simp only [f2] at S ⊢
          try simp only [ptrBlk] at S
          refine doesB_fn (args := [.pointer (some ⟨g, 0, none⟩), .int .i64 1]) Try.func35 kR kR (Q1.out w _ S) rfl ?_
          rintro e w1 (⟨h1, rfl, S1⟩ | ⟨h1, rfl, S1⟩)
          · exact .inl ⟨_, rfl, ⟨h1, rfl⟩, S1⟩
          · exact .inr ⟨_, rfl, by have := HP0.out; omega, rfl, _, ((Has.front (l := rdr g bv P0 :: r0 :: r1 :: F) (G := G) S1).drop (Pick.tail (Pick.head _ _))).drop (Pick.tail (Pick.head _ _))⟩
        · clear hi
          rw [if_neg (by decide), if_neg (by decide)]; intro r0 r1
          refine step_ofB rfl rfl rfl ?_
          intro u G w hf S
          have f3 : P0 + 1 ≤ b.length ∧ u 3 = .int .u64 (A0 : Int) := hf 3 (by simp)
          obtain ⟨q3, f3⟩ := f3
          simp only [resOf, spec, RSpec.resAt, z0, z1, z2, z3, z4, z5, z6, z7, ptrBlk] at S ⊢
          simp only [f3]
          refine does.bad ?_
          simp only [does]
          go_simp
          try first | exact S | exact ⟨vv, S⟩ | exact vv
        · clear hi
          rw [if_neg (by decide), if_neg (by decide)]; intro r0 r1
          refine step_ofB rfl rfl rfl ?_
          intro u G w hf S
          simp only [resOf, spec, RSpec.resAt, z0, z1, z2, z3, z4, z5, z6, z7, ptrBlk] at S ⊢
          refine does.bad ?_
          simp only [does]
          go_simp
          try first | exact S | exact ⟨vv, S⟩ | exact vv
        · clear hi
          rw [if_neg (by decide), if_neg (by decide)]; intro r0 r1
          refine step_ofB rfl rfl rfl ?_
          intro u G w hf S
          have f3 : P0 + 1 ≤ b.length ∧ u 3 = .int .u64 (A0 : Int) := hf 3 (by simp)
          obtain ⟨q3, f3⟩ := f3
          have f5 : u 5 = (.pointer (some ⟨g, 0, none⟩)) := hf 5 (by simp)
          simp only [resOf, spec, RSpec.resAt, z0, z1, z2, z3, z4, z5, z6, z7, ptrBlk] at S ⊢
          simp only [f3, f5] at S ⊢
          try simp only [ptrBlk] at S
          refine doesB_fn (args := [.pointer (some ⟨g, 0, none⟩), .int .i64 1]) Try.func35 kR kR (Q2.out w _ S q3) rfl ?_
          rintro e w1 (⟨h1, rfl, S1⟩ | ⟨h1, rfl, S1⟩)
          · exact .inl ⟨_, rfl, ⟨h1, rfl⟩, S1⟩
          · exact .inr ⟨_, rfl, by have := HP0.out; omega, rfl, _, ((Has.front (l := rdr g bv (P0 + 1) :: r0 :: r1 :: F) (G := G) S1).drop (Pick.tail (Pick.head _ _))).drop (Pick.tail (Pick.head _ _))⟩
        · clear hi
          rw [if_neg (by decide), if_neg (by decide)]; intro r0 r1
          refine step_ofB rfl rfl rfl ?_
          intro u G w hf S
          have f3 : P0 + 1 ≤ b.length ∧ u 3 = .int .u64 (A0 : Int) := hf 3 (by simp)
          obtain ⟨q3, f3⟩ := f3
          have f6 : P0 + 1 + 1 ≤ b.length ∧ u 6 = .int .u64 (A1 : Int) := hf 6 (by simp)
          obtain ⟨q6, f6⟩ := f6
          simp only [resOf, spec, RSpec.resAt, z0, z1, z2, z3, z4, z5, z6, z7, ptrBlk] at S ⊢
          simp only [f3, f6]
          refine does.bad ?_
          simp only [does]
          go_simp
          try first | exact S | exact ⟨vv, S⟩ | exact vv
        · clear hi
          rw [if_neg (by decide), if_neg (by decide)]; intro r0 r1
          refine step_ofB rfl rfl rfl ?_
          intro u G w hf S
          simp only [resOf, spec, RSpec.resAt, z0, z1, z2, z3, z4, z5, z6, z7, ptrBlk] at S ⊢
          refine does.bad ?_
          simp only [does]
          go_simp
          try first | exact S | exact ⟨vv, S⟩ | exact vv
        · clear hi
          rw [if_neg (by decide), if_neg (by decide)]; intro r0 r1
          refine step_ofB rfl rfl rfl ?_
          intro u G w hf S
          have f3 : P0 + 1 ≤ b.length ∧ u 3 = .int .u64 (A0 : Int) := hf 3 (by simp)
          obtain ⟨q3, f3⟩ := f3
          have f6 : P0 + 1 + 1 ≤ b.length ∧ u 6 = .int .u64 (A1 : Int) := hf 6 (by simp)
          obtain ⟨q6, f6⟩ := f6
          have f8 : u 8 = (.pointer (some ⟨g, 0, none⟩)) := hf 8 (by simp)
          simp only [resOf, spec, RSpec.resAt, z0, z1, z2, z3, z4, z5, z6, z7, ptrBlk] at S ⊢
          simp only [f3, f6, f8] at S ⊢
          try simp only [ptrBlk] at S
          refine doesB_fn (args := [.pointer (some ⟨g, 0, none⟩), .int .i64 2]) Try.func35 kR kR (Q3.out w _ S q6) rfl ?_
          rintro e w1 (⟨h1, rfl, S1⟩ | ⟨h1, rfl, S1⟩)
          · exact .inl ⟨_, rfl, ⟨h1, rfl⟩, S1⟩
          · exact .inr ⟨_, rfl, by have := HP0.out; omega, rfl, _, ((Has.front (l := rdr g bv (P0 + 2) :: r0 :: r1 :: F) (G := G) S1).drop (Pick.tail (Pick.head _ _))).drop (Pick.tail (Pick.head _ _))⟩
        · clear hi
          rw [if_neg (by decide), if_neg (by decide)]; intro r0 r1
          refine step_ofB rfl rfl rfl ?_
          intro u G w hf S
          have f3 : P0 + 1 ≤ b.length ∧ u 3 = .int .u64 (A0 : Int) := hf 3 (by simp)
          obtain ⟨q3, f3⟩ := f3
          have f6 : P0 + 1 + 1 ≤ b.length ∧ u 6 = .int .u64 (A1 : Int) := hf 6 (by simp)
          obtain ⟨q6, f6⟩ := f6
          have f9 : P0 + 2 + 2 ≤ b.length ∧ u 9 = .int .u64 (A2 : Int) := hf 9 (by simp)
          obtain ⟨q9, f9⟩ := f9
          simp only [resOf, spec, RSpec.resAt, z0, z1, z2, z3, z4, z5, z6, z7, ptrBlk] at S ⊢
          simp only [f3, f6, f9]
          refine does.bad ?_
          simp only [does]
          go_simp
          try first | exact S | exact ⟨vv, S⟩ | exact vv
        · clear hi
          rw [if_neg (by decide), if_neg (by decide)]; intro r0 r1
          refine step_ofB rfl rfl rfl ?_
          intro u G w hf S
          have f3 : P0 + 1 ≤ b.length ∧ u 3 = .int .u64 (A0 : Int) := hf 3 (by simp)
          obtain ⟨q3, f3⟩ := f3
          have f4 : u 4 = .int .i64 (A0 : Int) := hf 4 (by simp)
          have f6 : P0 + 1 + 1 ≤ b.length ∧ u 6 = .int .u64 (A1 : Int) := hf 6 (by simp)
          obtain ⟨q6, f6⟩ := f6
          have f7 : u 7 = .int .u8 (A1 : Int) := hf 7 (by simp)
          have f9 : P0 + 2 + 2 ≤ b.length ∧ u 9 = .int .u64 (A2 : Int) := hf 9 (by simp)
          obtain ⟨q9, f9⟩ := f9
          have f10 : u 10 = .int .i64 (A2 : Int) := hf 10 (by simp)
          simp only [resOf, spec, RSpec.resAt, z0, z1, z2, z3, z4, z5, z6, z7, ptrBlk] at S ⊢
          simp only [f3, f4, f6, f7, f9, f10]
          refine does.bad ?_
          simp only [does]
          go_simp
          try first | exact S | exact ⟨vv, S⟩ | exact vv
        · clear hi
          rw [if_neg (by decide), if_neg (by decide)]; intro r0 r1
          refine step_ofB rfl rfl rfl ?_
          intro u G w hf S
          have f3 : P0 + 1 ≤ b.length ∧ u 3 = .int .u64 (A0 : Int) := hf 3 (by simp)
          obtain ⟨q3, f3⟩ := f3
          have f6 : P0 + 1 + 1 ≤ b.length ∧ u 6 = .int .u64 (A1 : Int) := hf 6 (by simp)
          obtain ⟨q6, f6⟩ := f6
          have f9 : P0 + 2 + 2 ≤ b.length ∧ u 9 = .int .u64 (A2 : Int) := hf 9 (by simp)
          obtain ⟨q9, f9⟩ := f9
          have f11 : u 11 = .agg #[.int .i64 (A0 : Int), .int .u8 (A1 : Int), .int .i64 (A2 : Int)] := hf 11 (by simp)
          simp only [resOf, spec, RSpec.resAt, z0, z1, z2, z3, z4, z5, z6, z7, ptrBlk] at S ⊢
          simp only [f3, f6, f9, f11]
          refine does.bad ?_
          refine does_buildSg1 S (.tmp 21) X (show Value.agg _ = Value.agg _ by rw [HX.out]) ?_; intro y w1 S; exact ⟨⟨y, rfl⟩, S⟩
        · clear hi
          rw [if_neg (by decide), if_neg (by decide)]; intro r0 r1
          refine step_ofB rfl rfl rfl ?_
          intro u G w hf S
          have f0 : u 0 = .pointer (some ⟨g5, 0, none⟩) := hf 0 (by simp)
          have f1 : u 1 = rv := hf 1 (by simp)
          have f3 : P0 + 1 ≤ b.length ∧ u 3 = .int .u64 (A0 : Int) := hf 3 (by simp)
          obtain ⟨q3, f3⟩ := f3
          have f6 : P0 + 1 + 1 ≤ b.length ∧ u 6 = .int .u64 (A1 : Int) := hf 6 (by simp)
          obtain ⟨q6, f6⟩ := f6
          have f9 : P0 + 2 + 2 ≤ b.length ∧ u 9 = .int .u64 (A2 : Int) := hf 9 (by simp)
          obtain ⟨q9, f9⟩ := f9
          have f12 : ∃ y, u 12 = y := hf 12 (by simp)
          obtain ⟨y22, f12⟩ := f12
          simp only [resOf, spec, RSpec.resAt, z0, z1, z2, z3, z4, z5, z6, z7, ptrBlk] at S ⊢
          simp only [f0, f1, f3, f6, f9, f12] at S ⊢
          try simp only [ptrBlk] at S
          refine does.bad ?_
          refine does_appendSg (.tmp 11) (.tmp 22) rv RO rfl (S.pick (r := rowSg rv RO) pk) y22 [X] rfl (S.sl (v := y22) (xs := [X].flatMap sgtL) pk) HLE.out ?_; intro v' w' S; exact ⟨trivial, (S.drop (Pick.tail (Pick.tail (Pick.head _ _)))).perm (List.Perm.swap _ _ _)⟩
        · clear hi
          rw [if_neg (by decide), if_neg (by decide)]; intro r0 r1
          refine step_ofB rfl rfl rfl ?_
          intro u G w hf S
          have f3 : P0 + 1 ≤ b.length ∧ u 3 = .int .u64 (A0 : Int) := hf 3 (by simp)
          obtain ⟨q3, f3⟩ := f3
          have f6 : P0 + 1 + 1 ≤ b.length ∧ u 6 = .int .u64 (A1 : Int) := hf 6 (by simp)
          obtain ⟨q6, f6⟩ := f6
          have f9 : P0 + 2 + 2 ≤ b.length ∧ u 9 = .int .u64 (A2 : Int) := hf 9 (by simp)
          obtain ⟨q9, f9⟩ := f9
          have f12 : ∃ y, u 12 = y := hf 12 (by simp)
          obtain ⟨y22, f12⟩ := f12
          simp only [resOf, spec, RSpec.resAt, z0, z1, z2, z3, z4, z5, z6, z7, ptrBlk] at S ⊢
          simp only [f3, f6, f9, f12]
          refine does.bad ?_
          simp only [does]
          go_simp
          try first | exact S | exact ⟨vv, S⟩ | exact vv
        · clear hi
          rw [if_neg (by decide), if_neg (by decide)]; intro r0 r1
          refine step_ofB rfl rfl rfl ?_
          intro u G w hf S
          have f3 : P0 + 1 ≤ b.length ∧ u 3 = .int .u64 (A0 : Int) := hf 3 (by simp)
          obtain ⟨q3, f3⟩ := f3
          have f6 : P0 + 1 + 1 ≤ b.length ∧ u 6 = .int .u64 (A1 : Int) := hf 6 (by simp)
          obtain ⟨q6, f6⟩ := f6
          have f9 : P0 + 2 + 2 ≤ b.length ∧ u 9 = .int .u64 (A2 : Int) := hf 9 (by simp)
          obtain ⟨q9, f9⟩ := f9
          have f12 : ∃ y, u 12 = y := hf 12 (by simp)
          obtain ⟨y22, f12⟩ := f12
          have f14 : u 14 = .pointer (some ⟨g5, 0, none⟩) := hf 14 (by simp)
          have m13 : mask [0, 1, 2, 3, 4, 5, 6, 7, 8, 9, 10, 11, 12, 13, 14] u 13 = u 13 := rfl
          simp only [resOf, spec, RSpec.resAt, List.getD_cons_zero, List.getD_cons_succ, List.flatMap_cons, List.flatMap_nil, List.nil_append, List.cons_append, List.append_nil, List.append_assoc, m13, ptrBlk] at S ⊢
          simp only [m13, f3, f6, f9, f12, f14] at S ⊢
          try simp only [ptrBlk] at S
          refine does.bad ?_
          refine does_store1 S 50 (.tmp 24) (.tmp 23) 0 (u 13) rfl rfl kR (one_sl (S.sl (xs := (RO ++ [X]).flatMap sgtL) pk)).2 (one_sl (S.sl (xs := (RO ++ [X]).flatMap sgtL) pk)).1 (Nat.succ_pos _) ?_; intro w1 S; exact ⟨trivial, S⟩
      case fin1 =>
        intro u w hf S
        have f0 : u 0 = .pointer (some ⟨g5, 0, none⟩) := hf 0 (by simp)
        have f1 : u 1 = rv := hf 1 (by simp)
        have f2 : u 2 = .pointer (some ⟨g, 0, none⟩) := hf 2 (by simp)
        have f3 : P0 + 1 ≤ b.length ∧ u 3 = .int .u64 (A0 : Int) := hf 3 (by simp)
        obtain ⟨q3, f3⟩ := f3
        have f4 : u 4 = .int .i64 (A0 : Int) := hf 4 (by simp)
        have f5 : u 5 = (.pointer (some ⟨g, 0, none⟩)) := hf 5 (by simp)
        have f6 : P0 + 1 + 1 ≤ b.length ∧ u 6 = .int .u64 (A1 : Int) := hf 6 (by simp)
        obtain ⟨q6, f6⟩ := f6
        have f7 : u 7 = .int .u8 (A1 : Int) := hf 7 (by simp)
        have f8 : u 8 = (.pointer (some ⟨g, 0, none⟩)) := hf 8 (by simp)
        have f9 : P0 + 2 + 2 ≤ b.length ∧ u 9 = .int .u64 (A2 : Int) := hf 9 (by simp)
        obtain ⟨q9, f9⟩ := f9
        have f10 : u 10 = .int .i64 (A2 : Int) := hf 10 (by simp)
        have f11 : u 11 = .agg #[.int .i64 (A0 : Int), .int .u8 (A1 : Int), .int .i64 (A2 : Int)] := hf 11 (by simp)
        have f12 : ∃ y, u 12 = y := hf 12 (by simp)
        obtain ⟨y22, f12⟩ := f12
        have f14 : u 14 = .pointer (some ⟨g5, 0, none⟩) := hf 14 (by simp)
        have m15_13 : mask [0, 1, 2, 3, 4, 5, 6, 7, 8, 9, 10, 11, 12, 13, 14] u 13 = u 13 := rfl
        simp only [resOf, spec, RSpec.resAt, List.getD_cons_zero, List.getD_cons_succ, List.flatMap_cons, List.flatMap_nil, List.nil_append, List.cons_append, List.append_nil, List.append_assoc, m15_13, ptrBlk] at S
        clear hf
        simp only [List.length_cons, List.length_nil, Nat.zero_add, Nat.reduceAdd, List.drop_succ_cons, List.drop_zero, f0, f1, f2, f3, f4, f5, f6, f7, f8, f9, f10, f11, f12, f14]
        try simp only [f0, f1, f2, f3, f4, f5, f6, f7, f8, f9, f10, f11, f12, f14, ptrBlk] at S
        clear f0 f1 f2 f3 f4 f5 f6 f7 f8 f9 f10 f11 f12 f14 m15_13
        generalize u 13 = v23 at S ⊢
        clear w0' w1' w1'' w2' bsg
        go_wp2_with (first | ((with_reducible refine iD 2 (.box 126 (.tmp 0)) ?_); refine step_boxA (dst := some 2) S 126 (.tmp 0) _ rfl rfl ?_; clear S; intro g2 w S) | ((with_reducible refine iD 5 (.alloc 126) ?_); refine step_alloc (dst := some 5) S 126 (.agg (#[.slice none 0 0, .int .i64 0])) (#[.slice none 0 0, .int .i64 0]) kR rfl rfl ?_; clear S; intro g5 w S) | ((with_reducible refine iO _ (.load 50 _) ?_); refine step_load1 50 _ _ _ rfl (cL) _ Try.underlying50 rfl rfl ?_) | ((with_reducible refine iO none (.store 50 (.tmp 24) (.tmp 23)) ?_); first | (refine step_store1 S 50 (.tmp 24) (.tmp 23) _ _ (.slice _ _ _) rfl rfl _ _ pk kR rfl rfl lN rfl ?_; clear S; intro w S; try simp only [List.setIfInBounds_toArray, List.set_cons_zero, List.set_cons_succ] at S) | (refine step_storeR S 50 (.tmp 24) (.tmp 23) _ _ (.slice _ _ _) rfl rfl _ _ _ _ pk lE kR rfl rfl rfl ?_; clear S; intro w S) | (refine step_storeS S 50 (.tmp 24) (.tmp 23) _ _ (.slice _ _ _) rfl rfl _ _ _ _ _ pk lE kR rfl rfl rfl ?_; clear S; intro w S)) | ((with_reducible refine iO none (.store 3 (.tmp 29) (.tmp 28)) ?_); refine step_store1 S 3 (.tmp 29) (.tmp 28) _ _ (.int _ _) rfl rfl _ _ pk kR kR rfl lN rfl ?_; clear S; intro w S; try simp only [List.setIfInBounds_toArray, List.set_cons_zero, List.set_cons_succ] at S) | ((with_reducible refine iO _ (.load 126 _) ?_); first | (refine step_load S 126 _ _ rfl _ _ _ pk _ Try.underlying126 rfl 2 kR lN rfl ?_) | (refine step_loadO 126 _ _ rfl _ _ _ (S.old_heap (Hid.out (by assumption))) _ Try.underlying126 rfl 2 kR lN rfl ?_) | (refine step_loadR 126 _ _ _ rfl _ (S.old_range hy) _ Try.underlying126 rfl 2 kR lN _ rfl rfl ?_)) | fail)
        go_roundw
        case rel => exact ⟨k + 1, _, by omega, by go_num, by have := HP0.out; omega, by
          rw [show p + 1 + 4 * (k + 1) = P0 + 2 + 2 by have := HP0.out; omega, HMORE.out]
          exact (S.drop (Pick.tail (Pick.tail (Pick.tail (Pick.head _ _))))).drop (Pick.tail (Pick.tail (Pick.tail (Pick.head _ _))))⟩
        case measure => simp [intOf]; omega
    · obtain rfl : k = N := by omega
      have hki : ¬ (k : Int) < (k : Int) := by omega
      have S : Has w0 wr (rdr g bv (p + 1 + 4 * k) :: blk g5 (.cells #[rv, .int .i64 0] 126 (0, 0)) :: row rv 101 3 (sgR b p k).length ((sgR b p k).flatMap sgtL) :: F) := S
      rw [sgR_length] at S
      obtain ⟨ar, cr, rfl, _, _⟩ := Sl.shape (S.sl (v := rv) (xs := (sgR b p k).flatMap sgtL) pk)
      have q1 := fun w F S => PU1.out (p + 1 + 4 * k) w F S hpk
      have bq := atB_lt b (p + 1 + 4 * k) 1
      obtain ⟨PP, hPP⟩ : ∃ P, P = p + 1 + 4 * k := ⟨_, rfl⟩
      rw [← hPP] at S q1 bq
      obtain ⟨A0, hA0⟩ : ∃ A, A = atB b PP 1 := ⟨_, rfl⟩
      rw [← hA0] at q1 bq
      have w0' : IntKind.i64.wrap (A0 : Int) = (A0 : Int) := by rw [IntKind.wrap_i64]; omega
      have hAA : (atB b (p + 1 + 4 * k) 1 : Int) = (A0 : Int) := by rw [hA0, hPP]
      obtain ⟨RL, hRL⟩ : ∃ R, R = (sgR b p k).flatMap sgtL := ⟨_, rfl⟩
      rw [← hRL] at S
      have Q1 := Lib.hid q1; have HPP := Lib.hid hPP; have HAA := Lib.hid hAA; have HRL := Lib.hid hRL; have HPK := Lib.hid hpk; clear q1 hPP hAA hRL hpk
      clear bq hA0
      go_wp2_with (first | (go_at_call 35; (with_reducible refine (Q1.out _ _ S).mono ?_); rintro e w1 (⟨hf, rfl, S1⟩ | ⟨hf, rfl, S1⟩); rotate_left; exact ⟨rfl, .inr ⟨by have := HPP.out; omega, rfl, _, (S1.drop (Pick.tail (Pick.head _ _))).drop (Pick.tail (Pick.head _ _))⟩⟩; clear S; have S := S1; clear S1) | ((with_reducible refine iD 2 (.box 126 (.tmp 0)) ?_); refine step_boxA (dst := some 2) S 126 (.tmp 0) _ rfl rfl ?_; clear S; intro g2 w S) | ((with_reducible refine iD 5 (.alloc 126) ?_); refine step_alloc (dst := some 5) S 126 (.agg (#[.slice none 0 0, .int .i64 0])) (#[.slice none 0 0, .int .i64 0]) kR rfl rfl ?_; clear S; intro g5 w S) | ((with_reducible refine iO _ (.load 50 _) ?_); refine step_load1 50 _ _ _ rfl (cL) _ Try.underlying50 rfl rfl ?_) | ((with_reducible refine iO none (.store 50 (.tmp 24) (.tmp 23)) ?_); first | (refine step_store1 S 50 (.tmp 24) (.tmp 23) _ _ (.slice _ _ _) rfl rfl _ _ pk kR rfl rfl lN rfl ?_; clear S; intro w S; try simp only [List.setIfInBounds_toArray, List.set_cons_zero, List.set_cons_succ] at S) | (refine step_storeR S 50 (.tmp 24) (.tmp 23) _ _ (.slice _ _ _) rfl rfl _ _ _ _ pk lE kR rfl rfl rfl ?_; clear S; intro w S) | (refine step_storeS S 50 (.tmp 24) (.tmp 23) _ _ (.slice _ _ _) rfl rfl _ _ _ _ _ pk lE kR rfl rfl rfl ?_; clear S; intro w S)) | ((with_reducible refine iO none (.store 3 (.tmp 29) (.tmp 28)) ?_); refine step_store1 S 3 (.tmp 29) (.tmp 28) _ _ (.int _ _) rfl rfl _ _ pk kR kR rfl lN rfl ?_; clear S; intro w S; try simp only [List.setIfInBounds_toArray, List.set_cons_zero, List.set_cons_succ] at S) | ((with_reducible refine iO _ (.load 126 _) ?_); first | (refine step_load S 126 _ _ rfl _ _ _ pk _ Try.underlying126 rfl 2 kR lN rfl ?_) | (refine step_loadO 126 _ _ rfl _ _ _ (S.old_heap (Hid.out (by assumption))) _ Try.underlying126 rfl 2 kR lN rfl ?_) | (refine step_loadR 126 _ _ _ rfl _ (S.old_range hy) _ Try.underlying126 rfl 2 kR lN _ rfl rfl ?_)) | fail)
      go_ret
      refine .inl ⟨by have := HPP.out; omega, ar, cr, by rw [HAA.out]; rfl, ?_⟩
      show Has w0 _ (rdr g bv (p + 2 + 4 * k) :: row (.slice ar k cr) 101 3 (sgR b p k).length ((sgR b p k).flatMap sgtL) :: F)
      rw [sgR_length, ← HRL.out, show p + 2 + 4 * k = PP + 1 by have := HPP.out; omega]
      exact S.drop (Pick.head _ _)
end Go.Proofs.Ytfhkmmagpnojmaa
