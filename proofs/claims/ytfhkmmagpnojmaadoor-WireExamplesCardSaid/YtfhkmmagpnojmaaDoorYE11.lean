/- Several texts under one header: what the claim needs of RpM, RcB, RpN. No condition but those that each names. -/
import Derived.Test.YtfhkmmagpnojmaaDoorYE1
import Derived.Test.YtfhkmmagpnojmaaDoorYE10
import Derived.Laws.Cover3
set_option linter.unusedSimpArgs false
set_option linter.unusedVariables false

/- The method 'read' of a watch. No condition but the reach. -/
namespace Go.Proofs.YtfhkmmagpnojmaaDoor
open Go.RowKit

theorem sgtL_all (l : List Sgt) : ∀ u ∈ l.flatMap sgtL, u.oneCell' = true := by
  intro u hu
  obtain ⟨m, _, hm⟩ := List.mem_flatMap.1 hu
  have := sgtL_one m
  rw [Array.all_eq_true'] at this
  exact this u (by simpa using hm)
set_option maxRecDepth 100000 in
theorem infoSg : (Tryd.prog.info? 95).map (fun i => (i.zero, i.size, i.bytes)) = some (some (.agg (sgtL sgtZ).toArray), 3, 24) := by kernel_rfl
set_option maxRecDepth 100000 in
theorem infoSg2 : (Tryd.prog.info? 95).map (fun i => (i.zero, i.size)) = some (some (.agg (sgtL sgtZ).toArray), 3) := by kernel_rfl
set_option maxRecDepth 100000 in
theorem does_appendSg {a : Act} {w0 w : World} {F : List Res} {dst : Option Tmp} {ty : TypeId} {pos : String} {after : Array Edge} {guard : Option (Nat × Bool)} {Post : Value → World → Prop} (s x : Operand)
    (v : Value) (xs : List Sgt) (hs : a.eval s = v) (S : Has w0 w (rowSg v xs :: F)) (src : Value) (ys : List Sgt) (hx : a.eval x = src) (hsrc : Sl w 3 src ys.length (ys.flatMap sgtL)) (hlen : (xs.length + ys.length) * 24 ≤ 140737488355328)
    (h : ∀ v' w', Has w0 w' (rowSg v' (xs ++ ys) :: F) → Post v' w') :
    does Tryd.prog a.eval ⟨dst, .call { callee := .builtin .append, args := #[s, x], argTypes := #[77, 77] }, ty, pos, after, guard⟩ w Post := by
  refine does_append s x 77 95 (.agg (sgtL sgtZ).toArray) 3 24 Tryd.underlying77 infoSg rfl (by decide) v xs.length (xs.flatMap sgtL) hs S src ys.length (ys.flatMap sgtL) hx hsrc (sgtL_all _) (by unfold maxLen; omega) hlen ?_
  intro v' w' S'
  refine h v' w' ?_
  rw [← List.flatMap_append, ← List.length_append] at S'
  exact S'
set_option maxRecDepth 100000 in
theorem does_buildSg1 {a : Act} {w0 w : World} {l : List Res} {dst : Option Tmp} {ty : TypeId} {pos : String} {after : Array Edge} {gd : Option (Nat × Bool)} {Post : Value → World → Prop} (S : Has w0 w l) (x : Operand) (r : Sgt) (hx : a.eval x = .agg (sgtL r).toArray)
    (h : ∀ v w', Has w0 w' (rowSg v [r] :: l) → Post v w') : does Tryd.prog a.eval ⟨dst, .buildSlice 77 1 #[(0, x)], ty, pos, after, gd⟩ w Post :=
  does_buildS1 S 77 95 3 x (sgtL r) _ Tryd.underlying77 infoSg2 (by decide) (by decide) hx (sgtL_length _) fun v w' S' => h v w' (by
    have e : [r].flatMap sgtL = sgtL r := by simp
    show Has w0 w' (row v _ 3 1 ([r].flatMap sgtL) :: l)
    rw [e]
    exact S')
set_option maxRecDepth 100000 in
theorem build_sg (x y z : Int) (w : World) : (Instr.build 95 #[(0, .int .i64 x), (1, .int .u8 y), (2, .int .i64 z)]).run Tryd.prog w = .ok (.agg #[.int .i64 x, .int .u8 y, .int .i64 z]) w := by kernel_rfl
theorem Has.taken2 {w0 w : World} {q r s : Res} {l : List Res} (S : Has w0 w (q :: both r s :: l)) : Has w0 w (r :: s :: q :: noRes :: l) :=
  ((S.perm (List.Perm.swap _ _ _)).split.unit.perm (List.perm_append_comm (l₁ := [noRes]) (l₂ := [r, s, q])|>.append_right l))
/-- The sights that are read, one by one. -/
def sgR (b : List UInt8) (p k : Nat) : List Sgt := (List.range k).map fun i => sgtAt b (p + 1 + 4 * i)
theorem sgR_succ (b : List UInt8) (p k : Nat) : sgR b p (k + 1) = sgR b p k ++ [sgtAt b (p + 1 + 4 * k)] := by
  unfold sgR
  rw [List.range_succ, List.map_append]
  rfl
theorem sgR_length (b : List UInt8) (p k : Nat) : (sgR b p k).length = k := by simp [sgR]
set_option maxRecDepth 100000 in
set_option maxHeartbeats 8000000 in
theorem watchRead_s (cs : Array Value) (g : Nat) (bv : Value) (b : List UInt8) (p : Nat) (w0 w1 : World) (F : List Res) (S : Has w0 w1 (rdr g bv p :: F)) (hb : Bs w0 bv b) (hp : p ≤ b.length) (hl : b.length ≤ 140737488355328) :
    Calls Tryd.prog 146 #[.agg cs, .pointer (some ⟨g, 0, none⟩)] w1 fun e w' =>
      (p + 2 + 4 * atB b p 1 ≤ b.length ∧ (∃ a c, e = .returned (.iface 164 (.agg #[.slice a (atB b p 1) c, .int .i64 (atB b (p + 1 + 4 * atB b p 1) 1 : Int)])) ∧ Has w0 w' (rdr g bv (p + 2 + 4 * atB b p 1) :: rowSg (.slice a (atB b p 1) c) (sgR b p (atB b p 1)) :: F))) ∨
      (b.length < p + 2 + 4 * atB b p 1 ∧ e = .panicked [erl] ∧ ∃ q, Has w0 w' (rdr g bv q :: F)) := by
  have p1 := fun w F S => ruint_i 1 1 rfl g bv b p w0 w F S hb (by decide) (by decide) hp hl
  have pu1 := fun q w F S h => ruint_i 1 1 rfl g bv b q w0 w F S hb (by decide) (by decide) h hl
  have pu2 := fun q w F S h => ruint_i 2 2 rfl g bv b q w0 w F S hb (by decide) (by decide) h hl
  have hn := atB_lt b p 1
  obtain ⟨N, hN⟩ : ∃ N, N = atB b p 1 := ⟨_, rfl⟩
  rw [← hN] at p1 hn ⊢
  have hN256 : N < 256 := by omega
  have hN0 := hN
  have P1 := Lib.hid p1; have PU1 := Lib.hid pu1; have PU2 := Lib.hid pu2; have HN0 := Lib.hid hN0; have HN256 := Lib.hid hN256; clear p1 pu1 pu2 hN0 hN256
  clear hN hn hb
  go_enter Tryd.func146, Tryd.ntmps146
  go_wp2_with (first | (go_at_call 61; (with_reducible refine (P1.out _ _ (S.pick (r := rdr g bv p) pk)).mono ?_); rintro e w1 (⟨hf, rfl, S1⟩ | ⟨hf, rfl, S1⟩); rotate_left; exact ⟨rfl, .inr ⟨by omega, rfl, _, (S1.drop (Pick.tail (Pick.head _ _))).drop (Pick.tail (Pick.head _ _))⟩⟩; clear S; have S := S1; clear S1) | ((with_reducible refine iD 2 (.box 164 (.tmp 0)) ?_); refine step_boxA (dst := some 2) S 164 (.tmp 0) _ rfl rfl ?_; clear S; intro g2 w S) | ((with_reducible refine iD 5 (.alloc 164) ?_); refine step_alloc (dst := some 5) S 164 (.agg (#[.slice none 0 0, .int .i64 0])) (#[.slice none 0 0, .int .i64 0]) kR rfl rfl ?_; clear S; intro g5 w S) | fail)
  go_loopw [8] (fun u wr => ∃ (k : Nat) (rv : Value), k ≤ N ∧ u = .int .u64 (k : Int) ∧ p + 1 + 4 * k ≤ b.length ∧ Has w0 wr (rdr g bv (p + 1 + 4 * k) :: blk g5 (.cells #[rv, .int .i64 0] 164 (0, 0)) :: rowSg rv (sgR b p k) :: F)) (fun u _ => N - (intOf u).toNat)
  case atStart => exact ⟨0, .slice none 0 0, Nat.zero_le _, rfl, by omega, (((S.drop (Pick.tail (Pick.tail (Pick.head _ _)))).nil_row 95 3).perm (List.perm_append_comm (l₁ := [rowSg (.slice none 0 0) []]) (l₂ := [rdr g bv (p + 1), blk g5 _]) |>.append_right F))⟩
  case round =>
    clear S
    obtain ⟨k, rv, hk, rfl, hpk, S⟩ := hrel
    by_cases hlt : k < N
    · have hki : (k : Int) < (N : Int) := by omega
      have hkl := HN256.out
      obtain ⟨P0, hP0⟩ : ∃ P, P = p + 1 + 4 * k := ⟨_, rfl⟩
      have hmore := sgR_succ b p k
      have hlen := sgR_length b p k
      rw [← hP0] at S hpk hmore
      have hle : ((sgR b p k).length + [sgtAt b P0].length) * 24 ≤ 140737488355328 := by rw [hlen]; simp only [List.length_cons, List.length_nil]; omega
      have q1 := fun w F S => PU1.out P0 w F S hpk
      have q2 := fun w F S h => PU1.out (P0 + 1) w F S h
      have q3 := fun w F S h => PU2.out (P0 + 2) w F S h
      have b0 := atB_lt b P0 1
      have b1 := atB_lt b (P0 + 1) 1
      have b2 := atB_lt b (P0 + 2) 2
      have hX : (sgtL (sgtAt b P0)).toArray = #[.int .i64 (atB b P0 1 : Int), .int .u8 (atB b (P0 + 1) 1 : Int), .int .i64 (atB b (P0 + 2) 2 : Int)] := by
        unfold sgtL sgtAt
        dsimp only
        rw [i1_at, u8_at, i2_at]
      obtain ⟨X, hXe⟩ : ∃ X, X = sgtAt b P0 := ⟨_, rfl⟩
      obtain ⟨RO, hRO⟩ : ∃ R, R = sgR b p k := ⟨_, rfl⟩
      rw [← hRO] at S hmore hle
      rw [← hXe] at hmore hle hX
      obtain ⟨A0, hA0⟩ : ∃ A, A = atB b P0 1 := ⟨_, rfl⟩
      obtain ⟨A1, hA1⟩ : ∃ A, A = atB b (P0 + 1) 1 := ⟨_, rfl⟩
      obtain ⟨A2, hA2⟩ : ∃ A, A = atB b (P0 + 2) 2 := ⟨_, rfl⟩
      rw [← hA0] at q1 hX b0
      rw [← hA1] at q2 hX b1
      rw [← hA2] at q3 hX b2
      have w0' : IntKind.i64.wrap (A0 : Int) = (A0 : Int) := by rw [IntKind.wrap_i64]; omega
      have w1' : IntKind.u8.wrap (A1 : Int) = (A1 : Int) := by rw [IntKind.wrap_u8]; omega
      have w1'' : (A1 : Int) % 256 = (A1 : Int) := by omega
      have w2' : IntKind.i64.wrap (A2 : Int) = (A2 : Int) := by rw [IntKind.wrap_i64]; omega
      have wk : IntKind.u64.wrap ((k : Int) + 1) = (k : Int) + 1 := by rw [IntKind.wrap_u64]; omega
      have bsg := build_sg
      have S := ((S.pick2 (r := blk g5 _) (s := rowSg rv RO) pk pk).join).pick (r := rdr g bv P0) pk
      have Q1 := Lib.hid q1; have Q2 := Lib.hid q2; have Q3 := Lib.hid q3; have HLE := Lib.hid hle; have HX := Lib.hid hX; have HP0 := Lib.hid hP0; have HPK := Lib.hid hpk; have HMORE := Lib.hid hmore; clear q1 q2 q3 hle hX hP0 hpk hmore
      clear hRO hXe hA0 hA1 hA2 b0 b1 b2 hlen hkl
      go_upto_region 4 with (first | fail)
      refine wp_relyBW2 (Bad := fun c w' => b.length < p + 2 + 4 * N ∧ c = [erl] ∧ ∃ q, Has w0 w' (rdr g bv q :: F)) 2 0 ?hbad1 (S.pick2 (r := rdr g bv P0) (s := both (blk g5 (.cells #[rv, .int .i64 0] 164 (0, 0))) (rowSg rv RO)) pk pk) [⟨[], [], [], fun _ v => v = .pointer (some ⟨g5, 0, none⟩), fun _ v => [blk g5 (.cells #[rv, .int .i64 0] 164 (0, 0)), rowSg rv RO]⟩, ⟨[0], [], [0], fun _ v => v = rv, fun _ v => []⟩, ⟨[], [], [], fun _ v => v = .pointer (some ⟨g, 0, none⟩), fun _ v => [rdr g bv P0]⟩, ⟨[2], [2], [], fun _ v => P0 + 1 ≤ b.length ∧ v = .int .u64 (A0 : Int), fun _ v => [rdr g bv (P0 + 1)]⟩, sv [2, 3] (.int .i64 (A0 : Int)), sv [] ((.pointer (some ⟨g, 0, none⟩))), ⟨[2, 3, 5], [3], [], fun _ v => P0 + 1 + 1 ≤ b.length ∧ v = .int .u64 (A1 : Int), fun _ v => [rdr g bv (P0 + 1 + 1)]⟩, sv [2, 3, 5, 6] (.int .u8 (A1 : Int)), sv [] ((.pointer (some ⟨g, 0, none⟩))), ⟨[2, 3, 5, 6, 8], [6], [], fun _ v => P0 + 2 + 2 ≤ b.length ∧ v = .int .u64 (A2 : Int), fun _ v => [rdr g bv (P0 + 2 + 2)]⟩, sv [2, 3, 5, 6, 8, 9] (.int .i64 (A2 : Int)), sv [2, 3, 4, 5, 6, 7, 8, 9, 10] (.agg #[.int .i64 (A0 : Int), .int .u8 (A1 : Int), .int .i64 (A2 : Int)]), ⟨[2, 3, 4, 5, 6, 7, 8, 9, 10, 11], [], [], fun _ v => ∃ y, v = y, fun _ v => [rowSg v [X]]⟩, ⟨[0, 1, 2, 3, 4, 5, 6, 7, 8, 9, 10, 11, 12], [0, 12], [], fun _ v => True, fun _ v => [blk g5 (.cells #[rv, .int .i64 0] 164 (0, 0)), rowSg v (RO ++ [X])]⟩, sv [0, 1, 2, 3, 4, 5, 6, 7, 8, 9, 10, 11, 12, 13] (.pointer (some ⟨g5, 0, none⟩)), ⟨[0, 1, 2, 3, 4, 5, 6, 7, 8, 9, 10, 11, 12, 13, 14], [13], [], fun _ v => True, fun d v => [blk g5 (.cells #[d 13, .int .i64 0] 164 (0, 0)), rowSg (d 13) (RO ++ [X])]⟩] ?A1 ?hA1 kR kR kR [1, 4, 5, 7, 8, 9, 10, 11, 14, 15] kR (of_decide_eq_true rfl) ?hok1 ?fin1
      case hA1 => intro u; simp only [putAll, List.length_cons, List.length_nil, Nat.zero_add, Nat.reduceAdd, dstAt, List.getElem?_toArray, List.getElem?_cons_zero, List.getElem?_cons_succ, Option.bind_some, Act.put, List.setIfInBounds_toArray, List.set_cons_zero, List.set_cons_succ]; rfl
      case hbad1 => intro c a2 w2 hd hb; obtain ⟨h1, rfl, q, hS⟩ := hb; exact ⟨hd, .inr ⟨h1, rfl, q, hS⟩⟩
      case hok1 =>
        intro i hi
        obtain rfl | rfl | rfl | rfl | rfl | rfl | rfl | rfl | rfl | rfl | rfl | rfl | rfl | rfl | rfl | rfl : i = 0 ∨ i = 1 ∨ i = 2 ∨ i = 3 ∨ i = 4 ∨ i = 5 ∨ i = 6 ∨ i = 7 ∨ i = 8 ∨ i = 9 ∨ i = 10 ∨ i = 11 ∨ i = 12 ∨ i = 13 ∨ i = 14 ∨ i = 15 := by simp only [List.length_cons, List.length_nil, Nat.zero_add, Nat.reduceAdd] at hi; omega
        · clear hi
          rw [if_neg (by decide), if_pos rfl]; intro r0
          refine step_ofB rfl rfl rfl ?_
          intro u G w hf S
          simp only [fl, z4, z5, z6, z7, ptrBlk] at S ⊢
          refine does.bad ?_
          simp only [does]
          go_simp
          first | exact S.taken2 | exact ⟨rfl, S.taken2⟩
        · clear hi
          rw [if_neg (by decide), if_neg (by decide)]; intro r0 r1
          refine step_ofB rfl rfl rfl ?_
          intro u G w hf S
          have f0 : u 0 = .pointer (some ⟨g5, 0, none⟩) := hf 0 (by simp)
          simp only [fl, z4, z5, z6, z7, ptrBlk] at S ⊢
          simp only [f0] at S ⊢
          try simp only [ptrBlk] at S
          refine does.bad ?_
          refine does_load1 77 (.tmp 10) _ _ rfl (S.cell (g := g5) pk rfl) _ Tryd.underlying77 rfl ?_; exact ⟨rfl, S⟩
        · clear hi
          rw [if_pos rfl]; intro r0
          refine step_ofB rfl rfl rfl ?_
          intro u G w hf S
          simp only [fl, z4, z5, z6, z7, ptrBlk] at S ⊢
          refine does.bad ?_
          simp only [does]
          go_simp
          first | exact S.taken1 | exact ⟨rfl, S.taken1⟩
        · clear hi
          rw [if_neg (by decide), if_neg (by decide)]; intro r0 r1
          refine step_ofB rfl rfl rfl ?_
          intro u G w hf S
          have f2 : u 2 = .pointer (some ⟨g, 0, none⟩) := hf 2 (by simp)
          simp only [fl, z4, z5, z6, z7, ptrBlk] at S ⊢
          simp only [f2] at S ⊢
          try simp only [ptrBlk] at S
          refine doesB_fn (args := [.pointer (some ⟨g, 0, none⟩), .int .i64 1]) Tryd.func61 kR kR (Q1.out w _ S) rfl ?_
          rintro e w1 (⟨h1, rfl, S1⟩ | ⟨h1, rfl, S1⟩)
          · exact .inl ⟨_, rfl, ⟨h1, rfl⟩, S1⟩
          · exact .inr ⟨_, rfl, by have := HP0.out; omega, rfl, _, ((Has.front (l := rdr g bv P0 :: r0 :: r1 :: F) (G := G) S1).drop (Pick.tail (Pick.head _ _))).drop (Pick.tail (Pick.head _ _))⟩
        · clear hi
          rw [if_neg (by decide), if_neg (by decide)]; intro r0 r1
          refine step_ofB rfl rfl rfl ?_
          intro u G w hf S
          have f3 : P0 + 1 ≤ b.length ∧ u 3 = .int .u64 (A0 : Int) := hf 3 (by simp)
          obtain ⟨q3, f3⟩ := f3
          simp only [fl, z4, z5, z6, z7, ptrBlk] at S ⊢
          simp only [f3]
          refine does.bad ?_
          simp only [does]
          go_simp
          try first | exact S | exact ⟨vv, S⟩ | exact vv
        · rw [if_neg (by decide), if_neg (by decide)]; intro r0 r1; exact oP []
        · clear hi
          rw [if_neg (by decide), if_neg (by decide)]; intro r0 r1
          refine step_ofB rfl rfl rfl ?_
          intro u G w hf S
          have f3 : P0 + 1 ≤ b.length ∧ u 3 = .int .u64 (A0 : Int) := hf 3 (by simp)
          obtain ⟨q3, f3⟩ := f3
          have f5 : u 5 = (.pointer (some ⟨g, 0, none⟩)) := hf 5 (by simp)
          simp only [fl, z4, z5, z6, z7, ptrBlk] at S ⊢
          simp only [f3, f5] at S ⊢
          try simp only [ptrBlk] at S
          refine doesB_fn (args := [.pointer (some ⟨g, 0, none⟩), .int .i64 1]) Tryd.func61 kR kR (Q2.out w _ S q3) rfl ?_
          rintro e w1 (⟨h1, rfl, S1⟩ | ⟨h1, rfl, S1⟩)
          · exact .inl ⟨_, rfl, ⟨h1, rfl⟩, S1⟩
          · exact .inr ⟨_, rfl, by have := HP0.out; omega, rfl, _, ((Has.front (l := rdr g bv (P0 + 1) :: r0 :: r1 :: F) (G := G) S1).drop (Pick.tail (Pick.head _ _))).drop (Pick.tail (Pick.head _ _))⟩
        · clear hi
          rw [if_neg (by decide), if_neg (by decide)]; intro r0 r1
          refine step_ofB rfl rfl rfl ?_
          intro u G w hf S
          have f3 : P0 + 1 ≤ b.length ∧ u 3 = .int .u64 (A0 : Int) := hf 3 (by simp)
          obtain ⟨q3, f3⟩ := f3
          have f6 : P0 + 1 + 1 ≤ b.length ∧ u 6 = .int .u64 (A1 : Int) := hf 6 (by simp)
          obtain ⟨q6, f6⟩ := f6
          simp only [fl, z4, z5, z6, z7, ptrBlk] at S ⊢
          simp only [f3, f6]
          refine does.bad ?_
          simp only [does]
          go_simp
          try first | exact S | exact ⟨vv, S⟩ | exact vv
        · rw [if_neg (by decide), if_neg (by decide)]; intro r0 r1; exact oP []
        · clear hi
          rw [if_neg (by decide), if_neg (by decide)]; intro r0 r1
          refine step_ofB rfl rfl rfl ?_
          intro u G w hf S
          have f3 : P0 + 1 ≤ b.length ∧ u 3 = .int .u64 (A0 : Int) := hf 3 (by simp)
          obtain ⟨q3, f3⟩ := f3
          have f6 : P0 + 1 + 1 ≤ b.length ∧ u 6 = .int .u64 (A1 : Int) := hf 6 (by simp)
          obtain ⟨q6, f6⟩ := f6
          have f8 : u 8 = (.pointer (some ⟨g, 0, none⟩)) := hf 8 (by simp)
          simp only [fl, z4, z5, z6, z7, ptrBlk] at S ⊢
          simp only [f3, f6, f8] at S ⊢
          try simp only [ptrBlk] at S
          refine doesB_fn (args := [.pointer (some ⟨g, 0, none⟩), .int .i64 2]) Tryd.func61 kR kR (Q3.out w _ S q6) rfl ?_
          rintro e w1 (⟨h1, rfl, S1⟩ | ⟨h1, rfl, S1⟩)
          · exact .inl ⟨_, rfl, ⟨h1, rfl⟩, S1⟩
          · exact .inr ⟨_, rfl, by have := HP0.out; omega, rfl, _, ((Has.front (l := rdr g bv (P0 + 2) :: r0 :: r1 :: F) (G := G) S1).drop (Pick.tail (Pick.head _ _))).drop (Pick.tail (Pick.head _ _))⟩
        · clear hi
          rw [if_neg (by decide), if_neg (by decide)]; intro r0 r1
          refine step_ofB rfl rfl rfl ?_
          intro u G w hf S
          have f3 : P0 + 1 ≤ b.length ∧ u 3 = .int .u64 (A0 : Int) := hf 3 (by simp)
          obtain ⟨q3, f3⟩ := f3
          have f6 : P0 + 1 + 1 ≤ b.length ∧ u 6 = .int .u64 (A1 : Int) := hf 6 (by simp)
          obtain ⟨q6, f6⟩ := f6
          have f9 : P0 + 2 + 2 ≤ b.length ∧ u 9 = .int .u64 (A2 : Int) := hf 9 (by simp)
          obtain ⟨q9, f9⟩ := f9
          simp only [fl, z4, z5, z6, z7, ptrBlk] at S ⊢
          simp only [f3, f6, f9]
          refine does.bad ?_
          simp only [does]
          go_simp
          try first | exact S | exact ⟨vv, S⟩ | exact vv
        · rw [if_neg (by decide), if_neg (by decide)]; intro r0 r1; exact oP [4, 7, 10]
        · clear hi
          rw [if_neg (by decide), if_neg (by decide)]; intro r0 r1
          refine step_ofB rfl rfl rfl ?_
          intro u G w hf S
          have f3 : P0 + 1 ≤ b.length ∧ u 3 = .int .u64 (A0 : Int) := hf 3 (by simp)
          obtain ⟨q3, f3⟩ := f3
          have f6 : P0 + 1 + 1 ≤ b.length ∧ u 6 = .int .u64 (A1 : Int) := hf 6 (by simp)
          obtain ⟨q6, f6⟩ := f6
          have f9 : P0 + 2 + 2 ≤ b.length ∧ u 9 = .int .u64 (A2 : Int) := hf 9 (by simp)
          obtain ⟨q9, f9⟩ := f9
          have f11 : u 11 = .agg #[.int .i64 (A0 : Int), .int .u8 (A1 : Int), .int .i64 (A2 : Int)] := hf 11 (by simp)
          simp only [fl, z4, z5, z6, z7, ptrBlk] at S ⊢
          simp only [f3, f6, f9, f11]
          refine does.bad ?_
          refine does_buildSg1 S (.tmp 21) X (show Value.agg _ = Value.agg _ by rw [HX.out]) ?_; intro y w1 S; exact ⟨⟨y, rfl⟩, S⟩
        · clear hi
          rw [if_neg (by decide), if_neg (by decide)]; intro r0 r1
          refine step_ofB rfl rfl rfl ?_
          intro u G w hf S
          have f0 : u 0 = .pointer (some ⟨g5, 0, none⟩) := hf 0 (by simp)
          have f1 : u 1 = rv := hf 1 (by simp)
          have f3 : P0 + 1 ≤ b.length ∧ u 3 = .int .u64 (A0 : Int) := hf 3 (by simp)
          obtain ⟨q3, f3⟩ := f3
          have f6 : P0 + 1 + 1 ≤ b.length ∧ u 6 = .int .u64 (A1 : Int) := hf 6 (by simp)
          obtain ⟨q6, f6⟩ := f6
          have f9 : P0 + 2 + 2 ≤ b.length ∧ u 9 = .int .u64 (A2 : Int) := hf 9 (by simp)
          obtain ⟨q9, f9⟩ := f9
          have f12 : ∃ y, u 12 = y := hf 12 (by simp)
          obtain ⟨y22, f12⟩ := f12
          simp only [fl, z4, z5, z6, z7, ptrBlk] at S ⊢
          simp only [f0, f1, f3, f6, f9, f12] at S ⊢
          try simp only [ptrBlk] at S
          refine does.bad ?_
          refine does_appendSg (.tmp 11) (.tmp 22) rv RO rfl (S.pick (r := rowSg rv RO) pk) y22 [X] rfl (S.sl (v := y22) (xs := [X].flatMap sgtL) pk) HLE.out ?_; intro v' w' S; exact ⟨trivial, (S.drop (Pick.tail (Pick.tail (Pick.head _ _)))).perm (List.Perm.swap _ _ _)⟩
        · rw [if_neg (by decide), if_neg (by decide)]; intro r0 r1; exact oP []
        · clear hi
          rw [if_neg (by decide), if_neg (by decide)]; intro r0 r1
          refine step_ofB rfl rfl rfl ?_
          intro u G w hf S
          have f3 : P0 + 1 ≤ b.length ∧ u 3 = .int .u64 (A0 : Int) := hf 3 (by simp)
          obtain ⟨q3, f3⟩ := f3
          have f6 : P0 + 1 + 1 ≤ b.length ∧ u 6 = .int .u64 (A1 : Int) := hf 6 (by simp)
          obtain ⟨q6, f6⟩ := f6
          have f9 : P0 + 2 + 2 ≤ b.length ∧ u 9 = .int .u64 (A2 : Int) := hf 9 (by simp)
          obtain ⟨q9, f9⟩ := f9
          have f12 : ∃ y, u 12 = y := hf 12 (by simp)
          obtain ⟨y22, f12⟩ := f12
          have f14 : u 14 = .pointer (some ⟨g5, 0, none⟩) := hf 14 (by simp)
          have m13 : mask [0, 1, 2, 3, 4, 5, 6, 7, 8, 9, 10, 11, 12, 13, 14] u 13 = u 13 := rfl
          simp only [fl, z4, z5, z6, z7, m13, ptrBlk] at S ⊢
          simp only [m13, f3, f6, f9, f12, f14] at S ⊢
          try simp only [ptrBlk] at S
          refine does.bad ?_
          refine does_store1 S 77 (.tmp 24) (.tmp 23) 0 (u 13) rfl rfl kR (one_sl (S.sl (xs := (RO ++ [X]).flatMap sgtL) pk)).2 (one_sl (S.sl (xs := (RO ++ [X]).flatMap sgtL) pk)).1 (Nat.succ_pos _) ?_; intro w1 S; exact ⟨trivial, S⟩
      case fin1 =>
        intro u w hf S
        have f3 : P0 + 1 ≤ b.length ∧ u 3 = .int .u64 (A0 : Int) := hf 3 (by simp)
        obtain ⟨q3, f3⟩ := f3
        have f6 : P0 + 1 + 1 ≤ b.length ∧ u 6 = .int .u64 (A1 : Int) := hf 6 (by simp)
        obtain ⟨q6, f6⟩ := f6
        have f9 : P0 + 2 + 2 ≤ b.length ∧ u 9 = .int .u64 (A2 : Int) := hf 9 (by simp)
        obtain ⟨q9, f9⟩ := f9
        have f12 : ∃ y, u 12 = y := hf 12 (by simp)
        obtain ⟨y22, f12⟩ := f12
        have m15_13 : mask [0, 1, 2, 3, 4, 5, 6, 7, 8, 9, 10, 11, 12, 13, 14] u 13 = u 13 := rfl
        have hvA := allV hf
        simp only [AllV, RSpec.valAt, sv, Nat.zero_add, Nat.reduceAdd, m15_13] at hvA
        simp only [fl, z4, z5, z6, z7, m15_13, ptrBlk] at S
        clear hf
        simp only [List.length_cons, List.length_nil, Nat.zero_add, Nat.reduceAdd, List.drop_succ_cons, List.drop_zero, f3, f6, f9, f12, hvA]
        try simp only [f3, f6, f9, f12, hvA, ptrBlk] at S
        clear f3 f6 f9 f12 hvA m15_13
        generalize u 13 = v23 at S ⊢
        clear w0' w1' w1'' w2' bsg
        go_wp2_with (first | fail)
        go_roundw
        case rel => exact ⟨k + 1, _, by omega, by go_num, by have := HP0.out; omega, by
          rw [show p + 1 + 4 * (k + 1) = P0 + 2 + 2 by have := HP0.out; omega, HMORE.out]
          exact (S.drop (Pick.tail (Pick.tail (Pick.tail (Pick.head _ _))))).drop (Pick.tail (Pick.tail (Pick.tail (Pick.head _ _))))⟩
        case measure => simp [intOf]; omega
    · obtain rfl : k = N := by omega
      have hki : ¬ (k : Int) < (k : Int) := by omega
      have S : Has w0 wr (rdr g bv (p + 1 + 4 * k) :: blk g5 (.cells #[rv, .int .i64 0] 164 (0, 0)) :: row rv 95 3 (sgR b p k).length ((sgR b p k).flatMap sgtL) :: F) := S
      rw [sgR_length] at S
      obtain ⟨ar, cr, rfl, _, _⟩ := Sl.shape (S.sl (v := rv) (xs := (sgR b p k).flatMap sgtL) pk)
      have q1 := fun w F S => PU1.out (p + 1 + 4 * k) w F S hpk
      have bq := atB_lt b (p + 1 + 4 * k) 1
      obtain ⟨PP, hPP⟩ : ∃ P, P = p + 1 + 4 * k := ⟨_, rfl⟩
      rw [← hPP] at S q1 bq
      obtain ⟨A0, hA0⟩ : ∃ A, A = atB b PP 1 := ⟨_, rfl⟩
      rw [← hA0] at q1 bq
      have w0' : IntKind.i64.wrap (A0 : Int) = (A0 : Int) := by rw [IntKind.wrap_i64]; omega
      have hAA : (atB b (p + 1 + 4 * k) 1 : Int) = (A0 : Int) := by rw [hA0, hPP]
      obtain ⟨RL, hRL⟩ : ∃ R, R = (sgR b p k).flatMap sgtL := ⟨_, rfl⟩
      rw [← hRL] at S
      have Q1 := Lib.hid q1; have HPP := Lib.hid hPP; have HAA := Lib.hid hAA; have HRL := Lib.hid hRL; have HPK := Lib.hid hpk; clear q1 hPP hAA hRL hpk
      clear bq hA0
      go_wp2_with (first | (go_at_call 61; (with_reducible refine (Q1.out _ _ S).mono ?_); rintro e w1 (⟨hf, rfl, S1⟩ | ⟨hf, rfl, S1⟩); rotate_left; exact ⟨rfl, .inr ⟨by have := HPP.out; omega, rfl, _, (S1.drop (Pick.tail (Pick.head _ _))).drop (Pick.tail (Pick.head _ _))⟩⟩; clear S; have S := S1; clear S1) | ((with_reducible refine iO none (.store 3 (.tmp 29) (.tmp 28)) ?_); refine step_store1 S 3 (.tmp 29) (.tmp 28) _ _ (.int _ _) rfl rfl _ _ pk kR kR rfl lN rfl ?_; clear S; intro w S; try simp only [List.setIfInBounds_toArray, List.set_cons_zero, List.set_cons_succ] at S) | ((with_reducible refine iO _ (.load 164 _) ?_); first | (refine step_load S 164 _ _ rfl _ _ _ pk _ Tryd.underlying164 rfl 2 kR lN rfl ?_) | (refine step_loadO 164 _ _ rfl _ _ _ (S.old_heap (Hid.out (by assumption))) _ Tryd.underlying164 rfl 2 kR lN rfl ?_) | (refine step_loadR 164 _ _ _ rfl _ (S.old_range hy) _ Tryd.underlying164 rfl 2 kR lN _ rfl rfl ?_)) | fail)
      go_ret
      refine .inl ⟨by have := HPP.out; omega, ar, cr, by rw [HAA.out]; rfl, ?_⟩
      show Has w0 _ (rdr g bv (p + 2 + 4 * k) :: row (.slice ar k cr) 95 3 (sgR b p k).length ((sgR b p k).flatMap sgtL) :: F)
      rw [sgR_length, ← HRL.out, show p + 2 + 4 * k = PP + 1 by have := HPP.out; omega]
      exact S.drop (Pick.head _ _)
end Go.Proofs.YtfhkmmagpnojmaaDoor

/- Records that are built. No condition. -/
namespace Go.Proofs.YtfhkmmagpnojmaaDoor
open Go.RowKit

theorem build_rc4v (x y z : Int) (d0 d1 d2 d3 d4 d5 d6 d7 d8 d9 d10 d11 d12 d13 d14 d15 d16 d17 d18 d19 d20 d21 d22 d23 d24 d25 d26 d27 d28 d29 d30 d31 : UInt8) (w : World) : (Instr.build 50 #[(0, .int .u64 x), (1, .int .u8 y), (2, .int .i64 z), (3, Value.agg ([d0, d1, d2, d3, d4, d5, d6, d7, d8, d9, d10, d11, d12, d13, d14, d15, d16, d17, d18, d19, d20, d21, d22, d23, d24, d25, d26, d27, d28, d29, d30, d31].map by8).toArray)]).run Tryd.prog w = .ok (.agg ([Value.int .u64 x, .int .u8 y, .int .i64 z] ++ [d0, d1, d2, d3, d4, d5, d6, d7, d8, d9, d10, d11, d12, d13, d14, d15, d16, d17, d18, d19, d20, d21, d22, d23, d24, d25, d26, d27, d28, d29, d30, d31].map by8).toArray) w := by kernel_rfl
theorem build_rc4 (x y z : Int) (D : List UInt8) (hD : D.length = 32) (w : World) : (Instr.build 50 #[(0, .int .u64 x), (1, .int .u8 y), (2, .int .i64 z), (3, Value.agg (D.map by8).toArray)]).run Tryd.prog w = .ok (.agg ([Value.int .u64 x, .int .u8 y, .int .i64 z] ++ D.map by8).toArray) w :=
  match D, hD with
  | [d0, d1, d2, d3, d4, d5, d6, d7, d8, d9, d10, d11, d12, d13, d14, d15, d16, d17, d18, d19, d20, d21, d22, d23, d24, d25, d26, d27, d28, d29, d30, d31], _ => build_rc4v x y z d0 d1 d2 d3 d4 d5 d6 d7 d8 d9 d10 d11 d12 d13 d14 d15 d16 d17 d18 d19 d20 d21 d22 d23 d24 d25 d26 d27 d28 d29 d30 d31 w
set_option maxRecDepth 100000 in
theorem does_buildRc4 {a : Act} {w : World} {dst : Option Tmp} {ty : TypeId} {pos : String} {after : Array Edge} {guard : Option (Nat × Bool)} {Post : Value → World → Prop} (x y z u : Operand) (r : Rcd)
    (hx : a.eval x = .int .u64 (r.tick.toNat : Int)) (hy : a.eval y = by8 r.kind) (hz : a.eval z = .int .i64 r.code.v) (hu : a.eval u = .agg (arr8 r.link))
    (h : Post (.agg (rcdL r).toArray) w) : does Tryd.prog a.eval ⟨dst, .build 50 #[(0, x), (1, y), (2, z), (3, u)], ty, pos, after, guard⟩ w Post := by
  refine does_val (v := .agg (rcdL r).toArray) ?_ h
  have hp : (#[(0, x), (1, y), (2, z), (3, u)].map fun (i, x) => (i, a.eval x)) = #[(0, .int .u64 (r.tick.toNat : Int)), (1, .int .u8 (r.kind.toNat : Int)), (2, .int .i64 r.code.v), (3, Value.agg (r.link.map by8).toArray)] := by simp [hx, hy, hz, hu, arr8]
  have := build_rc4 r.tick.toNat r.kind.toNat r.code.v r.link r.len w
  simp only [execOp, hp, Sem.run_bind, this, Result.andThen_ok, Sem.run_pure]
  rfl
set_option maxRecDepth 100000 in
theorem does_buildRc1 {a : Act} {w0 w : World} {l : List Res} {dst : Option Tmp} {ty : TypeId} {pos : String} {after : Array Edge} {gd : Option (Nat × Bool)} {Post : Value → World → Prop} (S : Has w0 w l) (x : Operand) (r : Rcd) (hx : a.eval x = .agg (rcdL r).toArray)
    (h : ∀ v w', Has w0 w' (rowRc v [r] :: l) → Post v w') : does Tryd.prog a.eval ⟨dst, .buildSlice 31 1 #[(0, x)], ty, pos, after, gd⟩ w Post :=
  does_buildS1 S 31 50 35 x (rcdL r) _ Tryd.underlying31 infoRc2 (by decide) (by decide) hx (rcdL_length _) fun v w' S' => h v w' (by
    have e : [r].flatMap rcdL = rcdL r := by simp
    show Has w0 w' (row v _ 35 1 ([r].flatMap rcdL) :: l)
    rw [e]
    exact S')
theorem Sl.isSl {w : World} {size n : Nat} {v : Value} {xs : List Value} (h : Sl w size v n xs) : ∃ a n c, v = .slice a n c := by
  obtain ⟨a, c, e, _⟩ := h.shape
  exact ⟨a, n, c, e⟩
end Go.Proofs.YtfhkmmagpnojmaaDoor

/- The method 'read' of a chain. No condition but the reach. -/
namespace Go.Proofs.YtfhkmmagpnojmaaDoor
open Go.RowKit

theorem build_ch1 (x : Int) (w : World) : (Instr.build 108 #[(0, .int .u32 x)]).run Tryd.prog w = .ok (.agg #[.int .u32 x, .slice none 0 0]) w := by kernel_rfl
/-- The address in a slice. -/
def slAddr (v : Value) : Option Addr := match v with | .slice a _ _ => a | _ => none
theorem slAddr_eq (a : Option Addr) (n c : Nat) : slAddr (.slice a n c) = a := rfl
theorem Has.row8_range {w0 w : World} {l F : List Res} {g n c e : Nat} {xs : List UInt8} (S : Has w0 w l) (hp : Pick l (row (.slice (some ⟨g, 0, none⟩) n c) e 1 n (xs.map by8)) F) : w.rangeAt g 0 (xs.map by8) := fun j v hj => by
  rw [Nat.zero_add]
  exact S.row_cell hp j v hj
/-- The records that are read, one by one. -/
def rcR (b : List UInt8) (p k : Nat) : List Rcd := (List.range k).map fun i => rcdAt b (p + 5 + 43 * i)
theorem rcR_succ (b : List UInt8) (p k : Nat) : rcR b p (k + 1) = rcR b p k ++ [rcdAt b (p + 5 + 43 * k)] := by
  unfold rcR
  rw [List.range_succ, List.map_append]
  rfl
theorem rcR_length (b : List UInt8) (p k : Nat) : (rcR b p k).length = k := by simp [rcR]
set_option maxRecDepth 100000 in
set_option maxHeartbeats 8000000 in
theorem chainRead_s (cs : Array Value) (g : Nat) (bv : Value) (b : List UInt8) (p : Nat) (w0 w1 : World) (F : List Res) (S : Has w0 w1 (rdr g bv p :: F)) (hb : Bs w0 bv b) (hp : p ≤ b.length) (hl : b.length ≤ 140737488355328) :
    Calls Tryd.prog 124 #[.agg cs, .pointer (some ⟨g, 0, none⟩)] w1 fun e w' =>
      (p + 5 + 43 * atB b (p + 4) 1 ≤ b.length ∧ (∃ a c, e = .returned (.iface 108 (.agg #[.int .u32 (atB b p 4 : Int), .slice a (atB b (p + 4) 1) c])) ∧ Has w0 w' (rdr g bv (p + 5 + 43 * atB b (p + 4) 1) :: rowRc (.slice a (atB b (p + 4) 1) c) (rcR b p (atB b (p + 4) 1)) :: F))) ∨
      (b.length < p + 5 + 43 * atB b (p + 4) 1 ∧ e = .panicked [erl] ∧ ∃ q, Has w0 w' (rdr g bv q :: F)) := by
  have p0 := fun w F S => ruint_i 4 4 rfl g bv b p w0 w F S hb (by decide) (by decide) hp hl
  have p1 := fun w F S h => ruint_i 1 1 rfl g bv b (p + 4) w0 w F S hb (by decide) (by decide) h hl
  have pu1 := fun q w F S h => ruint_i 1 1 rfl g bv b q w0 w F S hb (by decide) (by decide) h hl
  have pu2 := fun q w F S h => ruint_i 2 2 rfl g bv b q w0 w F S hb (by decide) (by decide) h hl
  have pu8 := fun q w F S h => ruint_i 8 8 rfl g bv b q w0 w F S hb (by decide) (by decide) h hl
  have pb := fun q w F S h => rbytes_i 32 32 rfl g bv b q w0 w F S hb (by decide) h hl
  have hn := atB_lt b (p + 4) 1
  have hc := atB_lt b p 4
  obtain ⟨N, hN⟩ : ∃ N, N = atB b (p + 4) 1 := ⟨_, rfl⟩
  obtain ⟨C, hC⟩ : ∃ C, C = atB b p 4 := ⟨_, rfl⟩
  rw [← hN] at p1 hn ⊢
  rw [← hC] at p0 hc ⊢
  have e0 : IntKind.u32.wrap (C : Int) = (C : Int) := by rw [IntKind.wrap_u32]; omega
  have e0' : (C : Int) % 4294967296 = (C : Int) := by omega
  have bch := build_ch1
  have hN256 : N < 256 := by omega
  have P0 := Lib.hid p0; have P1 := Lib.hid p1; have PU1 := Lib.hid pu1; have PU2 := Lib.hid pu2; have PU8 := Lib.hid pu8; have PB := Lib.hid pb; have HN256 := Lib.hid hN256; clear p0 p1 pu1 pu2 pu8 pb hN256
  clear hN hC hn hc hb
  go_enter Tryd.func124, Tryd.ntmps124
  go_wp2_with (first | (go_at_call 61; (with_reducible refine (P0.out _ _ (S.pick (r := rdr g bv p) pk)).mono ?_); rintro e w1 (⟨hf0, rfl, S1⟩ | ⟨hf0, rfl, S1⟩); rotate_left; exact ⟨rfl, .inr ⟨by omega, rfl, _, (S1.drop (Pick.tail (Pick.head _ _)))⟩⟩; clear S; have S := S1; clear S1; have _t := P0; clear P0) | (go_at_call 61; (with_reducible refine (P1.out _ _ (S.pick (r := rdr g bv (p + 4)) pk) hf0).mono ?_); rintro e w1 (⟨hf, rfl, S1⟩ | ⟨hf, rfl, S1⟩); rotate_left; exact ⟨rfl, .inr ⟨by omega, rfl, _, (S1.drop (Pick.tail (Pick.head _ _))).drop (Pick.tail (Pick.head _ _))⟩⟩; clear S; have S := S1; clear S1) | ((with_reducible refine iD 2 (.box 108 (.tmp 0)) ?_); refine step_boxA (dst := some 2) S 108 (.tmp 0) _ rfl rfl ?_; clear S; intro g2 w S) | ((with_reducible refine iD 5 (.alloc 108) ?_); refine step_alloc (dst := some 5) S 108 (.agg (#[.int .u32 0, .slice none 0 0])) (#[.int .u32 0, .slice none 0 0]) kR rfl rfl ?_; clear S; intro g5 w S) | ((with_reducible refine iO none (.store 108 (.tmp 5) (.tmp 9)) ?_); refine step_store S 108 (.tmp 5) (.tmp 9) _ _ rfl rfl _ _ pk 2 kR lN lN on1 rfl ?_; clear S; intro w S) | fail)
  go_loopw [12] (fun u wr => ∃ (k : Nat) (rv : Value), k ≤ N ∧ u = .int .u64 (k : Int) ∧ p + 5 + 43 * k ≤ b.length ∧ Has w0 wr (rdr g bv (p + 5 + 43 * k) :: blk g5 (.cells #[.int .u32 (C : Int), rv] 108 (0, 0)) :: rowRc rv (rcR b p k) :: F)) (fun u _ => N - (intOf u).toNat)
  case atStart => exact ⟨0, .slice none 0 0, Nat.zero_le _, rfl, by omega, (((S.drop (Pick.tail (Pick.tail (Pick.head _ _)))).nil_row 50 35).perm (List.perm_append_comm (l₁ := [rowRc (.slice none 0 0) []]) (l₂ := [rdr g bv (p + 5), blk g5 _]) |>.append_right F))⟩
  case round =>
    clear S
    obtain ⟨k, rv, hk, rfl, hpk, S⟩ := hrel
    by_cases hlt : k < N
    · have hki : (k : Int) < (N : Int) := by omega
      have hkl := HN256.out
      obtain ⟨P0, hP0⟩ : ∃ P, P = p + 5 + 43 * k := ⟨_, rfl⟩
      have hmore := rcR_succ b p k
      have hlen := rcR_length b p k
      rw [← hP0] at S hpk hmore
      have hle : ((rcR b p k).length + [rcdAt b P0].length) * 56 ≤ 140737488355328 := by rw [hlen]; simp only [List.length_cons, List.length_nil]; omega
      have q1 := fun w F S => PU8.out P0 w F S hpk
      have q2 := fun w F S h => PU1.out (P0 + 8) w F S h
      have q3 := fun w F S h => PU2.out (P0 + 9) w F S h
      have q4 := fun w F S h => PB.out (P0 + 11) w F S h
      have b0 := atB_lt b P0 8
      have b1 := atB_lt b (P0 + 8) 1
      have b2 := atB_lt b (P0 + 9) 2
      have hx0 : ((rcdAt b P0).tick.toNat : Int) = (atB b P0 8 : Int) := by unfold rcdAt; dsimp only; rw [u64_at]
      have hx1 : ((rcdAt b P0).kind.toNat : Int) = (atB b (P0 + 8) 1 : Int) := by unfold rcdAt; dsimp only; rw [u8_at]
      have hx2 : (rcdAt b P0).code.v = (atB b (P0 + 9) 2 : Int) := by unfold rcdAt; dsimp only; rw [i2_at]
      have hx3 : P0 + 11 + 32 ≤ b.length → (b.drop (P0 + 11)).take 32 = (rcdAt b P0).link := fun h => by unfold rcdAt lkB; dsimp only; rw [if_pos h]
      obtain ⟨X, hXe⟩ : ∃ X, X = rcdAt b P0 := ⟨_, rfl⟩
      have hXl := X.len
      obtain ⟨RO, hRO⟩ : ∃ R, R = rcR b p k := ⟨_, rfl⟩
      rw [← hRO] at S hmore hle
      rw [← hXe] at hmore hle hx0 hx1 hx2 hx3
      obtain ⟨A0, hA0⟩ : ∃ A, A = atB b P0 8 := ⟨_, rfl⟩
      obtain ⟨A1, hA1⟩ : ∃ A, A = atB b (P0 + 8) 1 := ⟨_, rfl⟩
      obtain ⟨A2, hA2⟩ : ∃ A, A = atB b (P0 + 9) 2 := ⟨_, rfl⟩
      rw [← hA0] at q1 hx0 b0
      rw [← hA1] at q2 hx1 b1
      rw [← hA2] at q3 hx2 b2
      have w1' : IntKind.u8.wrap (A1 : Int) = (A1 : Int) := by rw [IntKind.wrap_u8]; omega
      have w1'' : (A1 : Int) % 256 = (A1 : Int) := by omega
      have w2' : IntKind.i64.wrap (A2 : Int) = (A2 : Int) := by rw [IntKind.wrap_i64]; omega
      have wk : IntKind.u64.wrap ((k : Int) + 1) = (k : Int) + 1 := by rw [IntKind.wrap_u64]; omega
      have har := fun w' (a : Option Addr) (c : Nat) => run_arrayAt (P := Tryd.prog) w' 22 5 32 a 32 c Tryd.underlying22 (Nat.le_refl _)
      have S := ((S.pick2 (r := blk g5 _) (s := rowRc rv RO) pk pk).join).pick (r := rdr g bv P0) pk
      have Q1 := Lib.hid q1; have Q2 := Lib.hid q2; have Q3 := Lib.hid q3; have Q4 := Lib.hid q4; have HLE := Lib.hid hle; have HX0 := Lib.hid hx0; have HX1 := Lib.hid hx1; have HX2 := Lib.hid hx2; have HX3 := Lib.hid hx3; have HXL := Lib.hid hXl; have HP0 := Lib.hid hP0; have HPK := Lib.hid hpk; have HMORE := Lib.hid hmore; clear q1 q2 q3 q4 hle hx0 hx1 hx2 hx3 hXl hP0 hpk hmore
      clear hRO hXe hA0 hA1 hA2 b0 b1 b2 hlen hkl
      go_upto_region 4 with (first | fail)
      refine wp_relyBW2 (Bad := fun c w' => b.length < p + 5 + 43 * N ∧ c = [erl] ∧ ∃ q, Has w0 w' (rdr g bv q :: F)) 2 0 ?hbad1 (S.pick2 (r := rdr g bv P0) (s := both (blk g5 (.cells #[.int .u32 (C : Int), rv] 108 (0, 0))) (rowRc rv RO)) pk pk) [⟨[], [], [], fun _ v => v = .pointer (some ⟨g5, 1, none⟩), fun _ v => [blk g5 (.cells #[.int .u32 (C : Int), rv] 108 (0, 0)), rowRc rv RO]⟩, ⟨[0], [], [0], fun _ v => v = rv, fun _ v => []⟩, ⟨[], [], [], fun _ v => v = .pointer (some ⟨g, 0, none⟩), fun _ v => [rdr g bv P0]⟩, ⟨[2], [2], [], fun _ v => P0 + 8 ≤ b.length ∧ v = .int .u64 (A0 : Int), fun _ v => [rdr g bv (P0 + 8)]⟩, sv [] ((.pointer (some ⟨g, 0, none⟩))), ⟨[2, 3, 4], [3], [], fun _ v => P0 + 8 + 1 ≤ b.length ∧ v = .int .u64 (A1 : Int), fun _ v => [rdr g bv (P0 + 8 + 1)]⟩, sv [2, 3, 4, 5] (.int .u8 (A1 : Int)), sv [] ((.pointer (some ⟨g, 0, none⟩))), ⟨[2, 3, 4, 5, 7], [5], [], fun _ v => P0 + 9 + 2 ≤ b.length ∧ v = .int .u64 (A2 : Int), fun _ v => [rdr g bv (P0 + 9 + 2)]⟩, sv [2, 3, 4, 5, 7, 8] (.int .i64 (A2 : Int)), sv [] ((.pointer (some ⟨g, 0, none⟩))), ⟨[2, 3, 4, 5, 7, 8, 10], [8], [], fun _ v => ∃ gx cx, v = .slice (some ⟨gx, 0, none⟩) 32 cx ∧ P0 + 11 + 32 ≤ b.length, fun _ v => [rdr g bv (P0 + 11 + 32), row v 5 1 32 (X.link.map by8)]⟩, ⟨[2, 3, 4, 5, 7, 8, 10, 11], [], [], fun d v => P0 + 11 + 32 ≤ b.length ∧ v = .pointer (slAddr (d 11)), fun _ v => []⟩, ⟨[2, 3, 4, 5, 7, 8, 10, 11, 12], [], [11], fun _ v => v = .agg (arr8 X.link), fun _ v => []⟩, sv [2, 3, 4, 5, 6, 7, 8, 9, 10, 11, 12, 13] (.agg (rcdL X).toArray), ⟨[2, 3, 4, 5, 6, 7, 8, 9, 10, 11, 12, 13, 14], [], [], fun _ v => ∃ y, v = y, fun _ v => [rowRc v [X]]⟩, ⟨[0, 1, 2, 3, 4, 5, 6, 7, 8, 9, 10, 11, 12, 13, 14, 15], [0, 15], [], fun _ v => True, fun _ v => [blk g5 (.cells #[.int .u32 (C : Int), rv] 108 (0, 0)), rowRc v (RO ++ [X])]⟩, sv [0, 1, 2, 3, 4, 5, 6, 7, 8, 9, 10, 11, 12, 13, 14, 15, 16] (.pointer (some ⟨g5, 1, none⟩)), ⟨[0, 1, 2, 3, 4, 5, 6, 7, 8, 9, 10, 11, 12, 13, 14, 15, 16, 17], [16], [], fun _ v => True, fun d v => [blk g5 (.cells #[.int .u32 (C : Int), d 16] 108 (0, 0)), rowRc (d 16) (RO ++ [X])]⟩] ?A1 ?hA1 kR kR kR [1, 4, 6, 7, 9, 10, 11, 12, 13, 14, 17, 18] kR (of_decide_eq_true rfl) ?hok1 ?fin1
      case hA1 => intro u; simp only [putAll, List.length_cons, List.length_nil, Nat.zero_add, Nat.reduceAdd, dstAt, List.getElem?_toArray, List.getElem?_cons_zero, List.getElem?_cons_succ, Option.bind_some, Act.put, List.setIfInBounds_toArray, List.set_cons_zero, List.set_cons_succ]; rfl
      case hbad1 => intro c a2 w2 hd hb; obtain ⟨h1, rfl, q, hS⟩ := hb; exact ⟨hd, .inr ⟨h1, rfl, q, hS⟩⟩
      case hok1 =>
        intro i hi
        obtain rfl | rfl | rfl | rfl | rfl | rfl | rfl | rfl | rfl | rfl | rfl | rfl | rfl | rfl | rfl | rfl | rfl | rfl | rfl : i = 0 ∨ i = 1 ∨ i = 2 ∨ i = 3 ∨ i = 4 ∨ i = 5 ∨ i = 6 ∨ i = 7 ∨ i = 8 ∨ i = 9 ∨ i = 10 ∨ i = 11 ∨ i = 12 ∨ i = 13 ∨ i = 14 ∨ i = 15 ∨ i = 16 ∨ i = 17 ∨ i = 18 := by simp only [List.length_cons, List.length_nil, Nat.zero_add, Nat.reduceAdd] at hi; omega
        · clear hi
          rw [if_neg (by decide), if_pos rfl]; intro r0
          refine step_ofB rfl rfl rfl ?_
          intro u G w hf S
          simp only [fl, z4, z5, z6, z7, ptrBlk, slAddr_eq] at S ⊢
          refine does.bad ?_
          simp only [does]
          go_simp
          first | exact S.taken2 | exact ⟨rfl, S.taken2⟩
        · clear hi
          rw [if_neg (by decide), if_neg (by decide)]; intro r0 r1
          refine step_ofB rfl rfl rfl ?_
          intro u G w hf S
          have f0 : u 0 = .pointer (some ⟨g5, 1, none⟩) := hf 0 (by simp)
          simp only [fl, z4, z5, z6, z7, ptrBlk, slAddr_eq] at S ⊢
          simp only [f0, slAddr_eq] at S ⊢
          try simp only [ptrBlk] at S
          refine does.bad ?_
          refine does_load1 31 (.tmp 14) _ _ rfl (S.cell (g := g5) pk rfl) _ Tryd.underlying31 rfl ?_; exact ⟨rfl, S⟩
        · clear hi
          rw [if_pos rfl]; intro r0
          refine step_ofB rfl rfl rfl ?_
          intro u G w hf S
          simp only [fl, z4, z5, z6, z7, ptrBlk, slAddr_eq] at S ⊢
          refine does.bad ?_
          simp only [does]
          go_simp
          first | exact S.taken1 | exact ⟨rfl, S.taken1⟩
        · clear hi
          rw [if_neg (by decide), if_neg (by decide)]; intro r0 r1
          refine step_ofB rfl rfl rfl ?_
          intro u G w hf S
          have f2 : u 2 = .pointer (some ⟨g, 0, none⟩) := hf 2 (by simp)
          simp only [fl, z4, z5, z6, z7, ptrBlk, slAddr_eq] at S ⊢
          simp only [f2, slAddr_eq] at S ⊢
          try simp only [ptrBlk] at S
          refine doesB_fn (args := [.pointer (some ⟨g, 0, none⟩), .int .i64 8]) Tryd.func61 kR kR (Q1.out w _ S) rfl ?_
          rintro e w1 (⟨h1, rfl, S1⟩ | ⟨h1, rfl, S1⟩)
          · exact .inl ⟨_, rfl, ⟨h1, rfl⟩, S1⟩
          · exact .inr ⟨_, rfl, by have := HP0.out; omega, rfl, _, ((Has.front (l := rdr g bv (P0) :: r0 :: r1 :: F) (G := G) S1).drop (Pick.tail (Pick.head _ _))).drop (Pick.tail (Pick.head _ _))⟩
        · rw [if_neg (by decide), if_neg (by decide)]; intro r0 r1; exact oP []
        · clear hi
          rw [if_neg (by decide), if_neg (by decide)]; intro r0 r1
          refine step_ofB rfl rfl rfl ?_
          intro u G w hf S
          have f3 : P0 + 8 ≤ b.length ∧ u 3 = .int .u64 (A0 : Int) := hf 3 (by simp)
          obtain ⟨q3, f3⟩ := f3
          have f4 : u 4 = (.pointer (some ⟨g, 0, none⟩)) := hf 4 (by simp)
          simp only [fl, z4, z5, z6, z7, ptrBlk, slAddr_eq] at S ⊢
          simp only [f3, f4, slAddr_eq] at S ⊢
          try simp only [ptrBlk] at S
          refine doesB_fn (args := [.pointer (some ⟨g, 0, none⟩), .int .i64 1]) Tryd.func61 kR kR (Q2.out w _ S q3) rfl ?_
          rintro e w1 (⟨h1, rfl, S1⟩ | ⟨h1, rfl, S1⟩)
          · exact .inl ⟨_, rfl, ⟨h1, rfl⟩, S1⟩
          · exact .inr ⟨_, rfl, by have := HP0.out; omega, rfl, _, ((Has.front (l := rdr g bv (P0 + 8) :: r0 :: r1 :: F) (G := G) S1).drop (Pick.tail (Pick.head _ _))).drop (Pick.tail (Pick.head _ _))⟩
        · clear hi
          rw [if_neg (by decide), if_neg (by decide)]; intro r0 r1
          refine step_ofB rfl rfl rfl ?_
          intro u G w hf S
          have f3 : P0 + 8 ≤ b.length ∧ u 3 = .int .u64 (A0 : Int) := hf 3 (by simp)
          obtain ⟨q3, f3⟩ := f3
          have f5 : P0 + 8 + 1 ≤ b.length ∧ u 5 = .int .u64 (A1 : Int) := hf 5 (by simp)
          obtain ⟨q5, f5⟩ := f5
          simp only [fl, z4, z5, z6, z7, ptrBlk, slAddr_eq] at S ⊢
          simp only [f3, f5, slAddr_eq]
          refine does.bad ?_
          simp only [does]
          go_simp
          try first | exact S | exact ⟨vv, S⟩ | exact vv
        · rw [if_neg (by decide), if_neg (by decide)]; intro r0 r1; exact oP []
        · clear hi
          rw [if_neg (by decide), if_neg (by decide)]; intro r0 r1
          refine step_ofB rfl rfl rfl ?_
          intro u G w hf S
          have f3 : P0 + 8 ≤ b.length ∧ u 3 = .int .u64 (A0 : Int) := hf 3 (by simp)
          obtain ⟨q3, f3⟩ := f3
          have f5 : P0 + 8 + 1 ≤ b.length ∧ u 5 = .int .u64 (A1 : Int) := hf 5 (by simp)
          obtain ⟨q5, f5⟩ := f5
          have f7 : u 7 = (.pointer (some ⟨g, 0, none⟩)) := hf 7 (by simp)
          simp only [fl, z4, z5, z6, z7, ptrBlk, slAddr_eq] at S ⊢
          simp only [f3, f5, f7, slAddr_eq] at S ⊢
          try simp only [ptrBlk] at S
          refine doesB_fn (args := [.pointer (some ⟨g, 0, none⟩), .int .i64 2]) Tryd.func61 kR kR (Q3.out w _ S q5) rfl ?_
          rintro e w1 (⟨h1, rfl, S1⟩ | ⟨h1, rfl, S1⟩)
          · exact .inl ⟨_, rfl, ⟨h1, rfl⟩, S1⟩
          · exact .inr ⟨_, rfl, by have := HP0.out; omega, rfl, _, ((Has.front (l := rdr g bv (P0 + 9) :: r0 :: r1 :: F) (G := G) S1).drop (Pick.tail (Pick.head _ _))).drop (Pick.tail (Pick.head _ _))⟩
        · clear hi
          rw [if_neg (by decide), if_neg (by decide)]; intro r0 r1
          refine step_ofB rfl rfl rfl ?_
          intro u G w hf S
          have f3 : P0 + 8 ≤ b.length ∧ u 3 = .int .u64 (A0 : Int) := hf 3 (by simp)
          obtain ⟨q3, f3⟩ := f3
          have f5 : P0 + 8 + 1 ≤ b.length ∧ u 5 = .int .u64 (A1 : Int) := hf 5 (by simp)
          obtain ⟨q5, f5⟩ := f5
          have f8 : P0 + 9 + 2 ≤ b.length ∧ u 8 = .int .u64 (A2 : Int) := hf 8 (by simp)
          obtain ⟨q8, f8⟩ := f8
          simp only [fl, z4, z5, z6, z7, ptrBlk, slAddr_eq] at S ⊢
          simp only [f3, f5, f8, slAddr_eq]
          refine does.bad ?_
          simp only [does]
          go_simp
          try first | exact S | exact ⟨vv, S⟩ | exact vv
        · rw [if_neg (by decide), if_neg (by decide)]; intro r0 r1; exact oP []
        · clear hi
          rw [if_neg (by decide), if_neg (by decide)]; intro r0 r1
          refine step_ofB rfl rfl rfl ?_
          intro u G w hf S
          have f3 : P0 + 8 ≤ b.length ∧ u 3 = .int .u64 (A0 : Int) := hf 3 (by simp)
          obtain ⟨q3, f3⟩ := f3
          have f5 : P0 + 8 + 1 ≤ b.length ∧ u 5 = .int .u64 (A1 : Int) := hf 5 (by simp)
          obtain ⟨q5, f5⟩ := f5
          have f8 : P0 + 9 + 2 ≤ b.length ∧ u 8 = .int .u64 (A2 : Int) := hf 8 (by simp)
          obtain ⟨q8, f8⟩ := f8
          have f10 : u 10 = (.pointer (some ⟨g, 0, none⟩)) := hf 10 (by simp)
          simp only [fl, z4, z5, z6, z7, ptrBlk, slAddr_eq] at S ⊢
          simp only [f3, f5, f8, f10, slAddr_eq] at S ⊢
          try simp only [ptrBlk] at S
          refine doesB_fn (args := [.pointer (some ⟨g, 0, none⟩), .int .i64 32]) Tryd.func63 kR kR (Q4.out w _ S q8) rfl ?_
          rintro e w1 (⟨h1, vb, rfl, S1⟩ | ⟨h1, rfl, S1⟩)
          · rw [HX3.out h1] at S1; rw [show row8 vb X.link = row vb 5 1 X.link.length (X.link.map by8) from rfl, HXL.out] at S1; obtain ⟨gx, cx, rfl, _⟩ := S1.row_at (v := vb) pk (by decide); exact .inl ⟨_, rfl, ⟨gx, cx, rfl, h1⟩, S1⟩
          · exact .inr ⟨_, rfl, by have := HP0.out; omega, rfl, _, ((Has.front (l := rdr g bv (P0 + 11) :: r0 :: r1 :: F) (G := G) S1).drop (Pick.tail (Pick.head _ _))).drop (Pick.tail (Pick.head _ _))⟩
        · clear hi
          rw [if_neg (by decide), if_neg (by decide)]; intro r0 r1
          refine step_ofB rfl rfl rfl ?_
          intro u G w hf S
          have f3 : P0 + 8 ≤ b.length ∧ u 3 = .int .u64 (A0 : Int) := hf 3 (by simp)
          obtain ⟨q3, f3⟩ := f3
          have f5 : P0 + 8 + 1 ≤ b.length ∧ u 5 = .int .u64 (A1 : Int) := hf 5 (by simp)
          obtain ⟨q5, f5⟩ := f5
          have f8 : P0 + 9 + 2 ≤ b.length ∧ u 8 = .int .u64 (A2 : Int) := hf 8 (by simp)
          obtain ⟨q8, f8⟩ := f8
          have f11 : ∃ gx cx, u 11 = .slice (some ⟨gx, 0, none⟩) 32 cx ∧ P0 + 11 + 32 ≤ b.length := hf 11 (by simp)
          obtain ⟨gx25, cx25, f11⟩ := f11
          have m11 : mask [2, 3, 4, 5, 7, 8, 10, 11] u 11 = u 11 := rfl
          simp only [fl, z4, z5, z6, z7, m11, ptrBlk, slAddr_eq] at S ⊢
          simp only [m11, f3, f5, f8, f11, slAddr_eq]
          refine does.bad ?_
          simp only [does]
          go_simp
        · clear hi
          rw [if_neg (by decide), if_neg (by decide)]; intro r0 r1
          refine step_ofB rfl rfl rfl ?_
          intro u G w hf S
          have f3 : P0 + 8 ≤ b.length ∧ u 3 = .int .u64 (A0 : Int) := hf 3 (by simp)
          obtain ⟨q3, f3⟩ := f3
          have f5 : P0 + 8 + 1 ≤ b.length ∧ u 5 = .int .u64 (A1 : Int) := hf 5 (by simp)
          obtain ⟨q5, f5⟩ := f5
          have f8 : P0 + 9 + 2 ≤ b.length ∧ u 8 = .int .u64 (A2 : Int) := hf 8 (by simp)
          obtain ⟨q8, f8⟩ := f8
          have f11 : ∃ gx cx, u 11 = .slice (some ⟨gx, 0, none⟩) 32 cx ∧ P0 + 11 + 32 ≤ b.length := hf 11 (by simp)
          obtain ⟨gx25, cx25, f11⟩ := f11
          have f12 : P0 + 11 + 32 ≤ b.length ∧ u 12 = .pointer (slAddr (u 11)) := hf 12 (by simp)
          obtain ⟨q12, f12⟩ := f12
          simp only [fl, z4, z5, z6, z7, ptrBlk, slAddr_eq] at S ⊢
          simp only [f3, f5, f8, f11, f12, slAddr_eq] at S ⊢
          try simp only [ptrBlk] at S
          refine does.bad ?_
          refine does_loadR 22 (.tmp 26) _ _ rfl _ (Has.row8_range S pk) _ Tryd.underlying22 rfl 32 kR (by rw [List.length_map]; exact HXL.out) _ rfl ?_; exact ⟨rfl, S⟩
        · clear hi
          rw [if_neg (by decide), if_neg (by decide)]; intro r0 r1
          refine step_ofB rfl rfl rfl ?_
          intro u G w hf S
          have f3 : P0 + 8 ≤ b.length ∧ u 3 = .int .u64 (A0 : Int) := hf 3 (by simp)
          obtain ⟨q3, f3⟩ := f3
          have f5 : P0 + 8 + 1 ≤ b.length ∧ u 5 = .int .u64 (A1 : Int) := hf 5 (by simp)
          obtain ⟨q5, f5⟩ := f5
          have f6 : u 6 = .int .u8 (A1 : Int) := hf 6 (by simp)
          have f8 : P0 + 9 + 2 ≤ b.length ∧ u 8 = .int .u64 (A2 : Int) := hf 8 (by simp)
          obtain ⟨q8, f8⟩ := f8
          have f9 : u 9 = .int .i64 (A2 : Int) := hf 9 (by simp)
          have f11 : ∃ gx cx, u 11 = .slice (some ⟨gx, 0, none⟩) 32 cx ∧ P0 + 11 + 32 ≤ b.length := hf 11 (by simp)
          obtain ⟨gx25, cx25, f11⟩ := f11
          have f12 : P0 + 11 + 32 ≤ b.length ∧ u 12 = .pointer (slAddr (u 11)) := hf 12 (by simp)
          obtain ⟨q12, f12⟩ := f12
          have f13 : u 13 = .agg (arr8 X.link) := hf 13 (by simp)
          simp only [fl, z4, z5, z6, z7, ptrBlk, slAddr_eq] at S ⊢
          simp only [f3, f5, f6, f8, f9, f11, f12, f13, slAddr_eq]
          refine does.bad ?_
          refine does_buildRc4 (.tmp 17) (.tmp 20) (.tmp 23) (.tmp 27) X (by rw [HX0.out]; rfl) (show _ = Value.int .u8 _ by rw [HX1.out]; rfl) (by rw [HX2.out]; rfl) rfl ?_; exact ⟨rfl, S⟩
        · clear hi
          rw [if_neg (by decide), if_neg (by decide)]; intro r0 r1
          refine step_ofB rfl rfl rfl ?_
          intro u G w hf S
          have f3 : P0 + 8 ≤ b.length ∧ u 3 = .int .u64 (A0 : Int) := hf 3 (by simp)
          obtain ⟨q3, f3⟩ := f3
          have f5 : P0 + 8 + 1 ≤ b.length ∧ u 5 = .int .u64 (A1 : Int) := hf 5 (by simp)
          obtain ⟨q5, f5⟩ := f5
          have f8 : P0 + 9 + 2 ≤ b.length ∧ u 8 = .int .u64 (A2 : Int) := hf 8 (by simp)
          obtain ⟨q8, f8⟩ := f8
          have f11 : ∃ gx cx, u 11 = .slice (some ⟨gx, 0, none⟩) 32 cx ∧ P0 + 11 + 32 ≤ b.length := hf 11 (by simp)
          obtain ⟨gx25, cx25, f11⟩ := f11
          have f12 : P0 + 11 + 32 ≤ b.length ∧ u 12 = .pointer (slAddr (u 11)) := hf 12 (by simp)
          obtain ⟨q12, f12⟩ := f12
          have f14 : u 14 = .agg (rcdL X).toArray := hf 14 (by simp)
          simp only [fl, z4, z5, z6, z7, ptrBlk, slAddr_eq] at S ⊢
          simp only [f3, f5, f8, f11, f12, f14, slAddr_eq]
          refine does.bad ?_
          refine does_buildRc1 S (.tmp 28) X rfl ?_; intro y w1 S; exact ⟨⟨y, rfl⟩, S⟩
        · clear hi
          rw [if_neg (by decide), if_neg (by decide)]; intro r0 r1
          refine step_ofB rfl rfl rfl ?_
          intro u G w hf S
          have f0 : u 0 = .pointer (some ⟨g5, 1, none⟩) := hf 0 (by simp)
          have f1 : u 1 = rv := hf 1 (by simp)
          have f3 : P0 + 8 ≤ b.length ∧ u 3 = .int .u64 (A0 : Int) := hf 3 (by simp)
          obtain ⟨q3, f3⟩ := f3
          have f5 : P0 + 8 + 1 ≤ b.length ∧ u 5 = .int .u64 (A1 : Int) := hf 5 (by simp)
          obtain ⟨q5, f5⟩ := f5
          have f8 : P0 + 9 + 2 ≤ b.length ∧ u 8 = .int .u64 (A2 : Int) := hf 8 (by simp)
          obtain ⟨q8, f8⟩ := f8
          have f11 : ∃ gx cx, u 11 = .slice (some ⟨gx, 0, none⟩) 32 cx ∧ P0 + 11 + 32 ≤ b.length := hf 11 (by simp)
          obtain ⟨gx25, cx25, f11⟩ := f11
          have f12 : P0 + 11 + 32 ≤ b.length ∧ u 12 = .pointer (slAddr (u 11)) := hf 12 (by simp)
          obtain ⟨q12, f12⟩ := f12
          have f15 : ∃ y, u 15 = y := hf 15 (by simp)
          obtain ⟨y29, f15⟩ := f15
          simp only [fl, z4, z5, z6, z7, ptrBlk, slAddr_eq] at S ⊢
          simp only [f0, f1, f3, f5, f8, f11, f12, f15, slAddr_eq] at S ⊢
          try simp only [ptrBlk] at S
          refine does.bad ?_
          refine does_appendRc (.tmp 15) (.tmp 29) rv RO rfl (S.pick (r := rowRc rv RO) pk) y29 [X] rfl (S.sl (v := y29) (xs := [X].flatMap rcdL) pk) HLE.out ?_; intro v' w' S; exact ⟨trivial, (S.drop (Pick.tail (Pick.tail (Pick.head _ _)))).perm (List.Perm.swap _ _ _)⟩
        · rw [if_neg (by decide), if_neg (by decide)]; intro r0 r1; exact oP []
        · clear hi
          rw [if_neg (by decide), if_neg (by decide)]; intro r0 r1
          refine step_ofB rfl rfl rfl ?_
          intro u G w hf S
          have f3 : P0 + 8 ≤ b.length ∧ u 3 = .int .u64 (A0 : Int) := hf 3 (by simp)
          obtain ⟨q3, f3⟩ := f3
          have f5 : P0 + 8 + 1 ≤ b.length ∧ u 5 = .int .u64 (A1 : Int) := hf 5 (by simp)
          obtain ⟨q5, f5⟩ := f5
          have f8 : P0 + 9 + 2 ≤ b.length ∧ u 8 = .int .u64 (A2 : Int) := hf 8 (by simp)
          obtain ⟨q8, f8⟩ := f8
          have f11 : ∃ gx cx, u 11 = .slice (some ⟨gx, 0, none⟩) 32 cx ∧ P0 + 11 + 32 ≤ b.length := hf 11 (by simp)
          obtain ⟨gx25, cx25, f11⟩ := f11
          have f12 : P0 + 11 + 32 ≤ b.length ∧ u 12 = .pointer (slAddr (u 11)) := hf 12 (by simp)
          obtain ⟨q12, f12⟩ := f12
          have f15 : ∃ y, u 15 = y := hf 15 (by simp)
          obtain ⟨y29, f15⟩ := f15
          have f17 : u 17 = .pointer (some ⟨g5, 1, none⟩) := hf 17 (by simp)
          have m16 : mask [0, 1, 2, 3, 4, 5, 6, 7, 8, 9, 10, 11, 12, 13, 14, 15, 16, 17] u 16 = u 16 := rfl
          simp only [fl, z4, z5, z6, z7, m16, ptrBlk, slAddr_eq] at S ⊢
          simp only [m16, f3, f5, f8, f11, f12, f15, f17, slAddr_eq] at S ⊢
          try simp only [ptrBlk] at S
          refine does.bad ?_
          refine does_store1 S 31 (.tmp 31) (.tmp 30) 1 (u 16) rfl rfl kR (one_sl (S.sl (xs := (RO ++ [X]).flatMap rcdL) pk)).2 (one_sl (S.sl (xs := (RO ++ [X]).flatMap rcdL) pk)).1 (Nat.lt_succ_self _) ?_; intro w1 S; exact ⟨trivial, S⟩
      case fin1 =>
        intro u w hf S
        have f3 : P0 + 8 ≤ b.length ∧ u 3 = .int .u64 (A0 : Int) := hf 3 (by simp)
        obtain ⟨q3, f3⟩ := f3
        have f5 : P0 + 8 + 1 ≤ b.length ∧ u 5 = .int .u64 (A1 : Int) := hf 5 (by simp)
        obtain ⟨q5, f5⟩ := f5
        have f8 : P0 + 9 + 2 ≤ b.length ∧ u 8 = .int .u64 (A2 : Int) := hf 8 (by simp)
        obtain ⟨q8, f8⟩ := f8
        have f11 : ∃ gx cx, u 11 = .slice (some ⟨gx, 0, none⟩) 32 cx ∧ P0 + 11 + 32 ≤ b.length := hf 11 (by simp)
        obtain ⟨gx25, cx25, f11⟩ := f11
        have f12 : P0 + 11 + 32 ≤ b.length ∧ u 12 = .pointer (slAddr (u 11)) := hf 12 (by simp)
        obtain ⟨q12, f12⟩ := f12
        have f15 : ∃ y, u 15 = y := hf 15 (by simp)
        obtain ⟨y29, f15⟩ := f15
        have m12_11 : mask [2, 3, 4, 5, 7, 8, 10, 11] u 11 = u 11 := rfl
        have m18_16 : mask [0, 1, 2, 3, 4, 5, 6, 7, 8, 9, 10, 11, 12, 13, 14, 15, 16, 17] u 16 = u 16 := rfl
        have hvA := allV hf
        simp only [AllV, RSpec.valAt, sv, Nat.zero_add, Nat.reduceAdd, m12_11, m18_16] at hvA
        simp only [fl, z4, z5, z6, z7, m12_11, m18_16, ptrBlk, slAddr_eq] at S
        clear hf
        simp only [List.length_cons, List.length_nil, Nat.zero_add, Nat.reduceAdd, List.drop_succ_cons, List.drop_zero, f3, f5, f8, f11, f12, f15, hvA, slAddr_eq]
        try simp only [f3, f5, f8, f11, f12, f15, hvA, slAddr_eq, ptrBlk] at S
        clear f3 f5 f8 f11 f12 f15 hvA m12_11 m18_16
        generalize u 16 = v30 at S ⊢
        clear w1' w1'' w2' har
        go_wp2_with (first | fail)
        go_roundw
        case rel => exact ⟨k + 1, _, by omega, by go_num, by have := HP0.out; omega, by
          rw [show p + 5 + 43 * (k + 1) = P0 + 11 + 32 by have := HP0.out; omega, HMORE.out]
          exact ((S.drop (Pick.tail (Pick.head _ _))).drop (Pick.tail (Pick.tail (Pick.tail (Pick.head _ _))))).drop (Pick.tail (Pick.tail (Pick.tail (Pick.head _ _))))⟩
        case measure => simp [intOf]; omega
    · obtain rfl : k = N := by omega
      have hki : ¬ (k : Int) < (k : Int) := by omega
      have S : Has w0 wr (rdr g bv (p + 5 + 43 * k) :: blk g5 (.cells #[.int .u32 (C : Int), rv] 108 (0, 0)) :: row rv 50 35 (rcR b p k).length ((rcR b p k).flatMap rcdL) :: F) := S
      rw [rcR_length] at S
      obtain ⟨ar, cr, rfl, _, _⟩ := Sl.shape (S.sl (v := rv) (xs := (rcR b p k).flatMap rcdL) pk)
      obtain ⟨RL, hRL⟩ : ∃ R, R = (rcR b p k).flatMap rcdL := ⟨_, rfl⟩
      rw [← hRL] at S
      have HRL := Lib.hid hRL; have HPK := Lib.hid hpk; clear hRL hpk
      go_wp2_with (first | ((with_reducible refine iO _ (.load 108 _) ?_); first | (refine step_load S 108 _ _ rfl _ _ _ pk _ Tryd.underlying108 rfl 2 kR lN rfl ?_) | (refine step_loadO 108 _ _ rfl _ _ _ (S.old_heap (Hid.out (by assumption))) _ Tryd.underlying108 rfl 2 kR lN rfl ?_) | (refine step_loadR 108 _ _ _ rfl _ (S.old_range hy) _ Tryd.underlying108 rfl 2 kR lN _ rfl rfl ?_)) | fail)
      go_ret
      refine .inl ⟨HPK.out, ar, cr, rfl, ?_⟩
      show Has w0 _ (rdr g bv (p + 5 + 43 * k) :: row (.slice ar k cr) 50 35 (rcR b p k).length ((rcR b p k).flatMap rcdL) :: F)
      rw [rcR_length, ← HRL.out]
      exact S.drop (Pick.tail (Pick.head _ _))
end Go.Proofs.YtfhkmmagpnojmaaDoor
