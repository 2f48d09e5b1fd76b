/- The closure of DecodeReply. No condition but the reach. -/
import Derived.Test.YtfhkmmagpnojmaaZBd
import Derived.Test.YtfhkmmagpnojmaaZRpU
import Derived.Test.YtfhkmmagpnojmaaZWhl2
set_option linter.unusedSimpArgs false
set_option linter.unusedVariables false
namespace Go.Proofs.Ytfhkmmagpnojmaa
open Go.RowKit

theorem rpL_setK0 (k : UInt8) : (rpL rpZ nilV nilV).toArray.setIfInBounds 0 (.int .u8 (k.toNat : Int)) = (rpL (rpH k i64Z 0) nilV nilV).toArray := rfl
theorem rpL_setC1 (k : UInt8) (c : I64) : (rpL (rpH k i64Z 0) nilV nilV).toArray.setIfInBounds 1 (.int .i64 c.v) = (rpL (rpH k c 0) nilV nilV).toArray := rfl
theorem rpL_setT2 (k : UInt8) (c : I64) (t : UInt64) : (rpL (rpH k c 0) nilV nilV).toArray.setIfInBounds 2 (.int .u64 (t.toNat : Int)) = (rpL (rpH k c t) nilV nilV).toArray := rfl
/-- The slices in a body. -/
def bdR (q : BK) (v : Value) : Value := match q, v with | .w, .iface _ (.agg cs) => cs.getD 0 undef | _, _ => nilV
def bdC (q : BK) (v : Value) : Value := match q, v with | .c, .iface _ (.agg cs) => cs.getD 1 undef | _, _ => nilV
theorem bdR_eq (q : BK) (r : Rp) (u v : Value) : bdR q (bodyK q r u v) = vrK q u := by cases q <;> rfl
theorem bdC_eq (q : BK) (r : Rp) (u v : Value) : bdC q (bodyK q r u v) = vcK q v := by cases q <;> rfl
theorem Has.taken3 {w0 w : World} {r s t : Res} {l : List Res} (S : Has w0 w (r :: s :: t :: l)) : Has w0 w (r :: s :: t :: noRes :: l) :=
  S.unit.perm (List.perm_append_comm (l₁ := [noRes]) (l₂ := [r, s, t]) |>.append_right l)
/-- What is known of the body that was read. -/
def RdV (q : BK) (Y : Rp) (n N : Nat) (v : Value) : Prop := n ≤ N ∧ ∃ ar nr cr ac nc cc, v = bodyK q Y (.slice ar nr cr) (.slice ac nc cc)
theorem RdV.one {q : BK} {Y : Rp} {n N : Nat} {v : Value} (h : RdV q Y n N v) : (bdR q v).oneCell' = true ∧ (bdC q v).oneCell' = true := by
  obtain ⟨_, ar, nr, cr, ac, nc, cc, rfl⟩ := h
  cases q <;> exact ⟨rfl, rfl⟩
theorem ReadQ.rows {w0 : World} {g : Nat} {bv : Value} {b : List UInt8} {p : Nat} {q : BK} {F : List Res} {e : Ending} {w' : World} (h : ReadQ w0 g bv b p q F e w') :
    (p + rdZ q b p ≤ b.length ∧ ∃ ar nr cr ac nc cc, e = .returned (bodyK q (rdX q b p) (.slice ar nr cr) (.slice ac nc cc)) ∧ Has w0 w' (rdr g bv (p + rdZ q b p) :: rowSg (vrK q (.slice ar nr cr)) (rdX q b p).robots :: rowRc (vcK q (.slice ac nc cc)) (rdX q b p).records :: F)) ∨
    (b.length < p + rdZ q b p ∧ e = .panicked [erl] ∧ ∃ q', Has w0 w' (rdr g bv q' :: F)) := by
  rcases h with ⟨h1, ar, nr, cr, ac, nc, cc, h2, h3⟩ | h
  · refine .inl ⟨h1, ar, nr, cr, ac, nc, cc, h2, ?_⟩
    cases q with
    | w => exact (h3.drop (Pick.tail (Pick.tail (Pick.head _ _)))).nilRc1
    | c => exact (h3.drop (Pick.tail (Pick.head _ _))).nilSg1
    | n => exact ((h3.drop (Pick.tail (Pick.head _ _))).drop (Pick.tail (Pick.head _ _))).nilSgRc
    | o => exact ((h3.drop (Pick.tail (Pick.head _ _))).drop (Pick.tail (Pick.head _ _))).nilSgRc
    | s => exact ((h3.drop (Pick.tail (Pick.head _ _))).drop (Pick.tail (Pick.head _ _))).nilSgRc
    | t => exact ((h3.drop (Pick.tail (Pick.head _ _))).drop (Pick.tail (Pick.head _ _))).nilSgRc
  · exact .inr h
set_option maxRecDepth 100000 in
set_option maxHeartbeats 8000000 in
theorem decClosP_s (g go : Nat) (bv : Value) (b : List UInt8) (w0 w1 : World) (F : List Res) (S : Has w0 w1 (rdr g bv 2 :: blk go (.cells (rpL rpZ nilV nilV).toArray 53 (0, 0)) :: F)) (hb : Bs w0 bv b) (h13 : 13 ≤ b.length) (hl : b.length ≤ 140737488355328) :
    Calls Try.prog 48 #[.pointer (some ⟨g, 0, none⟩), .pointer (some ⟨go, 0, none⟩)] w1 fun e w' =>
      (psz b ≤ b.length ∧ e = .returned (.tuple #[]) ∧ ∃ z : Value × Value, Has w0 w' (rdr g bv (psz b) :: blk go (.cells (rpL (rpX b) z.1 z.2).toArray 53 (0, 0)) :: rowSg z.1 (rpX b).robots :: rowRc z.2 (rpX b).records :: F)) ∨
      (b.length < psz b ∧ e = .panicked [erl] ∧ ∃ q cs, Has w0 w' (rdr g bv q :: blk go (.cells cs 53 (0, 0)) :: F)) := by
  have p1 := fun w F S => ruint_i 1 1 rfl g bv b 2 w0 w F S hb (by decide) (by decide) (by omega) hl
  have p2 := fun w F S => ruint_i 2 2 rfl g bv b 3 w0 w F S hb (by decide) (by decide) (by omega) hl
  have p3 := fun w F S => ruint_i 8 8 rfl g bv b 5 w0 w F S hb (by decide) (by decide) (by omega) hl
  have e1 : (atB b 2 1 : Int) % 256 = ((b.getD 2 0).toNat : Int) := by rw [← IntKind.wrap_u8, wrap8 _ (atB_lt b 2 1), getD_at]
  have hc2 := atB_lt b 3 2
  have e2 : wrap64 (atB b 3 2 : Int) = (i64N (atB b 3 2)).v := by rw [i2_at, ← IntWalk.i64_left, IntKind.wrap_i64]; omega
  have e3 : (atB b 5 8 : Int) = ((UInt64.ofNat (atB b 5 8)).toNat : Int) := by rw [u64_at]
  have hz := psz_rd b
  have hX : rpX b = usK (bk (hdX b)) (hdX b) (rdX (bk (hdX b)) b 13) := rfl
  have hH : hdX b = rpH (b.getD 2 0) (i64N (atB b 3 2)) (UInt64.ofNat (atB b 5 8)) := rfl
  have p4 := fun w => replyBody_s (hdX b) none none 0 0 0 0 w
  unfold bodyV at p4
  obtain ⟨q, hq⟩ : ∃ q, q = bk (hdX b) := ⟨_, rfl⟩
  rw [← hq] at hz hX p4
  obtain ⟨fr, av, mv, p5'⟩ := bodyRead_s q (hdX b) none none 0 0 0 0
  have p5 := fun w F S => (p5' g bv b 13 w0 w F S hb h13 hl).mono fun e w' h => h.rows
  have p6 := fun a1 n1 c1 a2 n2 c2 w => replyOf_s q (hdX b) (rdX q b 13) nilV nilV rfl rfl a1 a2 n1 c1 n2 c2 w
  rw [← hX] at p6
  obtain ⟨BV, hBV⟩ : ∃ B, B = bodyK q (hdX b) nilV nilV := ⟨_, rfl⟩
  rw [← hBV] at p4 mv
  have hXr : (rdX q b 13).robots = (rpX b).robots := by rw [hX]; cases q <;> rfl
  have hXc : (rdX q b 13).records = (rpX b).records := by rw [hX]; cases q <;> rfl
  have hbr := fun u v => bdR_eq q (rdX q b 13) u v
  have hbc := fun u v => bdC_eq q (rdX q b 13) u v
  rw [hXr, hXc] at p5
  obtain ⟨X, hXe⟩ : ∃ X, X = rpX b := ⟨_, rfl⟩
  rw [← hXe] at p5 p6 ⊢
  obtain ⟨Y, hY⟩ : ∃ Y, Y = rdX q b 13 := ⟨_, rfl⟩
  rw [← hY] at p5 p6 hbr hbc
  obtain ⟨k, hk⟩ : ∃ k, k = b.getD 2 0 := ⟨_, rfl⟩
  obtain ⟨c, hc⟩ : ∃ c, c = i64N (atB b 3 2) := ⟨_, rfl⟩
  obtain ⟨t, ht⟩ : ∃ t, t = UInt64.ofNat (atB b 5 8) := ⟨_, rfl⟩
  rw [← hk] at e1 hH
  rw [← hc] at e2 hH
  rw [← ht] at e3 hH
  rw [hH] at p4 p6
  obtain ⟨RZ, hRZ⟩ : ∃ R, R = rpZ := ⟨_, rfl⟩
  have c0 := rpL_setK0 k
  have c1 := rpL_setC1 k c
  have c2 := rpL_setT2 k c t
  rw [← hRZ] at c0 S
  obtain ⟨R1, hR1⟩ : ∃ R, R = rpH k i64Z 0 := ⟨_, rfl⟩
  obtain ⟨R2, hR2⟩ : ∃ R, R = rpH k c 0 := ⟨_, rfl⟩
  obtain ⟨R3, hR3⟩ : ∃ R, R = rpH k c t := ⟨_, rfl⟩
  rw [← hR1] at c0 c1
  rw [← hR2] at c1 c2
  rw [← hR3] at c2 p4 p6
  rw [hz]
  obtain ⟨Z, hZ⟩ : ∃ Z, Z = rdZ q b 13 := ⟨_, rfl⟩
  rw [← hZ] at p5 ⊢
  have P1 := Lib.hid p1; have P2 := Lib.hid p2; have P3 := Lib.hid p3; have P4 := Lib.hid p4; have P5 := Lib.hid p5; have P6 := Lib.hid p6; have E1 := Lib.hid e1; have E2 := Lib.hid e2; have E3 := Lib.hid e3; have MV := Lib.hid mv; have C0 := Lib.hid c0; have C1 := Lib.hid c1; have C2 := Lib.hid c2; have HBR := Lib.hid hbr; have HBC := Lib.hid hbc; clear p1 p2 p3 p4 p5 p6 e1 e2 e3 mv c0 c1 c2 hbr hbc
  clear p5' hz hX hH hq hBV hXr hXc hXe hY hk hc ht hRZ hR1 hR2 hR3 hZ hb hc2
  go_enter Try.func48, Try.ntmps48
  go_upto_region 1 with (first | (go_at_call 35; (with_reducible refine (P1.out _ _ S).mono ?_); rintro e w1 (⟨hf, rfl, S1⟩ | ⟨hf, rfl, S1⟩); rotate_left; exact (by omega : False).elim; clear S; have S := S1; clear S1; have _t := P1; clear P1) | (go_at_call 35; (with_reducible refine (P2.out _ _ S).mono ?_); rintro e w1 (⟨hf2, rfl, S1⟩ | ⟨hf2, rfl, S1⟩); rotate_left; exact (by omega : False).elim; clear S; have S := S1; clear S1; have _t2 := P2; clear P2) | (go_at_call 35; (with_reducible refine (P3.out _ _ S).mono ?_); rintro e w1 (⟨hf3, rfl, S1⟩ | ⟨hf3, rfl, S1⟩); rotate_left; exact (by omega : False).elim; clear S; have S := S1; clear S1) | ((with_reducible refine iO none (.store 5 (.tmp 11) (.tmp 5)) ?_); refine step_store1 S 5 (.tmp 11) (.tmp 5) go 0 (.int .u8 (k.toNat : Int)) rfl (show Value.int .u8 _ = Value.int .u8 _ by rw [E1.out]) _ _ pk kR rfl rfl (by rw [rpL_size]; decide) gw ?_; clear S; intro w S; rw [C0.out] at S) | ((with_reducible refine iO none (.store 24 (.tmp 12) (.tmp 8)) ?_); refine step_store1 S 24 (.tmp 12) (.tmp 8) go 1 (.int .i64 c.v) rfl (show Value.int .i64 _ = Value.int .i64 _ by rw [E2.out]) _ _ pk kR rfl rfl (by rw [rpL_size]; decide) gw ?_; clear S; intro w S; rw [C1.out] at S) | ((with_reducible refine iO none (.store 32 (.tmp 13) (.tmp 10)) ?_); refine step_store1 S 32 (.tmp 13) (.tmp 10) go 2 (.int .u64 (t.toNat : Int)) rfl (show Value.int .u64 _ = Value.int .u64 _ by rw [← E3.out]) _ _ pk kR rfl rfl (by rw [rpL_size]; decide) gw ?_; clear S; intro w S; rw [C2.out] at S) | ((with_reducible refine iO none (.store 5 (.tmp 11) (.tmp 5)) ?_); first | (refine step_store1 S 5 (.tmp 11) (.tmp 5) _ _ (.int _ _) rfl rfl _ _ pk kR rfl rfl lN rfl ?_; clear S; intro w S; try simp only [List.setIfInBounds_toArray, List.set_cons_zero, List.set_cons_succ] at S) | (refine step_storeR S 5 (.tmp 11) (.tmp 5) _ _ (.int _ _) rfl rfl _ _ _ _ pk lE kR rfl rfl rfl ?_; clear S; intro w S) | (refine step_storeS S 5 (.tmp 11) (.tmp 5) _ _ (.int _ _) rfl rfl _ _ _ _ _ pk lE kR rfl rfl rfl ?_; clear S; intro w S)) | ((with_reducible refine iO none (.store 24 (.tmp 12) (.tmp 8)) ?_); first | (refine step_store1 S 24 (.tmp 12) (.tmp 8) _ _ (.int _ _) rfl rfl _ _ pk kR rfl rfl lN rfl ?_; clear S; intro w S; try simp only [List.setIfInBounds_toArray, List.set_cons_zero, List.set_cons_succ] at S) | (refine step_storeR S 24 (.tmp 12) (.tmp 8) _ _ (.int _ _) rfl rfl _ _ _ _ pk lE kR rfl rfl rfl ?_; clear S; intro w S) | (refine step_storeS S 24 (.tmp 12) (.tmp 8) _ _ (.int _ _) rfl rfl _ _ _ _ _ pk lE kR rfl rfl rfl ?_; clear S; intro w S)) | ((with_reducible refine iO none (.store 32 (.tmp 13) (.tmp 10)) ?_); first | (refine step_store1 S 32 (.tmp 13) (.tmp 10) _ _ (.int _ _) rfl rfl _ _ pk kR rfl rfl lN rfl ?_; clear S; intro w S; try simp only [List.setIfInBounds_toArray, List.set_cons_zero, List.set_cons_succ] at S) | (refine step_storeR S 32 (.tmp 13) (.tmp 10) _ _ (.int _ _) rfl rfl _ _ _ _ pk lE kR rfl rfl rfl ?_; clear S; intro w S) | (refine step_storeS S 32 (.tmp 13) (.tmp 10) _ _ (.int _ _) rfl rfl _ _ _ _ _ pk lE kR rfl rfl rfl ?_; clear S; intro w S)) | ((with_reducible refine iO _ (.load 53 _) ?_); first | (refine step_load S 53 _ _ rfl _ _ _ pk _ Try.underlying53 rfl 46 kR lN rfl ?_) | (refine step_loadO 53 _ _ rfl _ _ _ (S.old_heap (Hid.out (by assumption))) _ Try.underlying53 rfl 46 kR lN rfl ?_) | (refine step_loadR 53 _ _ _ rfl _ (S.old_range hy) _ Try.underlying53 rfl 46 kR lN _ rfl rfl ?_)) | ((with_reducible refine iO none (.store 53 (.tmp 1) (.tmp 19)) ?_); refine step_store S 53 (.tmp 1) (.tmp 19) _ _ rfl rfl _ _ pk 46 kR lN lN on1 rfl ?_; clear S; intro w S) | fail)
  replace S : Has w0 w (blk go (.cells (rpL R3 nilV nilV).toArray 53 (0, 0)) :: rdr g bv 13 :: F) := S
  refine wp_relyBW (Bad := fun c w' => b.length < 13 + Z ∧ c = [erl] ∧ ∃ q cs, Has w0 w' (rdr g bv q :: blk go (.cells cs 53 (0, 0)) :: F)) (e1 := noRes) 4 ?hbad1 (S.pick (r := rdr g bv 13) pk) [⟨[], [], [], fun _ v => v = .agg (rpL R3 nilV nilV).toArray, fun _ v => []⟩, ⟨[], [], [], fun _ v => v = .agg (rpL R3 nilV nilV).toArray, fun _ v => []⟩, ⟨[1], [], [], fun _ v => v = BV, fun _ v => []⟩, ⟨[], [], [], fun _ v => v = .pointer (some ⟨g, 0, none⟩), fun _ v => []⟩, ⟨[1, 2, 3], [], [], fun _ v => RdV q Y (13 + Z) b.length (v) ∧ v = v, fun _ v => [rdr g bv (13 + Z), rowSg (bdR q v) X.robots, rowRc (bdC q v) X.records]⟩, ⟨[0, 1, 2, 3, 4], [], [], fun d v => v = .agg (rpL X (bdR q (d 4)) (bdC q (d 4))).toArray, fun _ v => []⟩] ?A1 ?hA1 kR kR kR [0, 1, 2, 3, 4, 5] kR (of_decide_eq_true rfl) ?hok1 ?fin1
  case hA1 => intro u; simp only [putAll, List.length_cons, List.length_nil, Nat.zero_add, Nat.reduceAdd, dstAt, List.getElem?_toArray, List.getElem?_cons_zero, List.getElem?_cons_succ, Option.bind_some, Act.put, List.setIfInBounds_toArray, List.set_cons_zero, List.set_cons_succ]; rfl
  case hbad1 => intro c a2 w2 hd hb; obtain ⟨hlt, rfl, q, cs, hS⟩ := hb; exact ⟨hd, .inr ⟨hlt, rfl, q, cs, hS⟩⟩
  case hok1 =>
    intro i hi
    obtain rfl | rfl | rfl | rfl | rfl | rfl : i = 0 ∨ i = 1 ∨ i = 2 ∨ i = 3 ∨ i = 4 ∨ i = 5 := by simp only [List.length_cons, List.length_nil, Nat.zero_add, Nat.reduceAdd] at hi; omega
    · clear hi
      rw [if_neg (by decide)]; intro r0
      refine step_ofB rfl rfl rfl ?_
      intro u G w hf S
      simp only [resOf, spec, RSpec.resAt, z0, z1, z2, z3, z4, z5, z6, z7, ptrBlk] at S ⊢
      refine does.bad ?_
      refine does_load 53 (.tmp 1) go rfl _ _ _ (S.get (r := blk go _) pk) _ Try.underlying53 rfl 46 kR lN ?_; exact ⟨rfl, S⟩
    · clear hi
      rw [if_neg (by decide)]; intro r0
      refine step_ofB rfl rfl rfl ?_
      intro u G w hf S
      simp only [resOf, spec, RSpec.resAt, z0, z1, z2, z3, z4, z5, z6, z7, ptrBlk] at S ⊢
      refine does.bad ?_
      refine does_load 53 (.tmp 1) go rfl _ _ _ (S.get (r := blk go _) pk) _ Try.underlying53 rfl 46 kR lN ?_; exact ⟨rfl, S⟩
    · clear hi
      rw [if_neg (by decide)]; intro r0
      refine step_ofB rfl rfl rfl ?_
      intro u G w hf S
      have f1 : u 1 = .agg (rpL R3 nilV nilV).toArray := hf 1 (by simp)
      simp only [resOf, spec, RSpec.resAt, z0, z1, z2, z3, z4, z5, z6, z7, ptrBlk] at S ⊢
      simp only [f1]
      refine does.bad ?_
      refine does_fn (args := [(.agg (rpL R3 nilV nilV).toArray)]) Try.func40 kR kR (P4.out w) rfl ?_
      rintro e w1 ⟨rfl, T⟩
      exact ⟨_, rfl, rfl, S.call T⟩
    · clear hi
      rw [if_neg (by decide)]; intro r0
      refine step_ofB rfl rfl rfl ?_
      intro u G w hf S
      simp only [resOf, spec, RSpec.resAt, z0, z1, z2, z3, z4, z5, z6, z7, ptrBlk] at S ⊢
      refine does.bad ?_
      simp only [does]
      go_simp
      try first | exact S | exact ⟨vv, S⟩ | exact vv
    · clear hi
      rw [if_pos rfl]
      refine step_ofB rfl rfl rfl ?_
      intro u G w hf S
      have f2 : u 2 = BV := hf 2 (by simp)
      have f3 : u 3 = .pointer (some ⟨g, 0, none⟩) := hf 3 (by simp)
      simp only [resOf, spec, RSpec.resAt, z0, z1, z2, z3, z4, z5, z6, z7, ptrBlk] at S ⊢
      simp only [f2, f3]
      refine doesB_inv (.tmp 16) "dunnage/wire.read" [.tmp 17] _ _ [.pointer (some ⟨g, 0, none⟩)] fr _ rfl rfl (MV.out _ w) (P5.out w _ S) ?_; rintro e w1 (⟨h1, ar, nr, cr, ac, nc, cc, rfl, S1⟩ | ⟨h1, rfl, q', S1⟩)
      · exact .inl ⟨_, rfl, ⟨⟨h1, ar, nr, cr, ac, nc, cc, rfl⟩, trivial⟩, by rw [HBR.out, HBC.out]; exact S1.taken3⟩
      · exact .inr ⟨_, rfl, h1, rfl, q', _, (Has.front (l := rdr g bv q' :: blk go _ :: F) (G := G) S1)⟩
    · clear hi
      rw [if_neg (by decide)]; intro r0
      refine step_ofB rfl rfl rfl ?_
      intro u G w hf S
      have f0 : u 0 = .agg (rpL R3 nilV nilV).toArray := hf 0 (by simp)
      have f4 : RdV q Y (13 + Z) b.length (u 4) ∧ u 4 = u 4 := hf 4 (by simp)
      obtain ⟨q4, f4⟩ := f4
      have m4 : mask [0, 1, 2, 3, 4] u 4 = u 4 := rfl
      simp only [resOf, spec, RSpec.resAt, List.getD_cons_zero, List.getD_cons_succ, List.flatMap_cons, List.flatMap_nil, List.nil_append, List.cons_append, List.append_nil, List.append_assoc, m4, ptrBlk] at S ⊢
      simp only [m4, f0, f4]
      refine does.bad ?_
      obtain ⟨_, ar, nr, cr, ac, nc, cc, e4⟩ := q4
      rw [e4, HBR.out, HBC.out]
      refine does_fn (args := [.agg (rpL R3 nilV nilV).toArray, bodyK q Y (.slice ar nr cr) (.slice ac nc cc)]) Try.func46 kR kR (P6.out ar nr cr ac nc cc w) rfl ?_
      rintro e w1 ⟨rfl, T⟩
      exact ⟨_, rfl, rfl, S.call T⟩
  case fin1 =>
    intro u w hf S
    have f0 : u 0 = .agg (rpL R3 nilV nilV).toArray := hf 0 (by simp)
    have f1 : u 1 = .agg (rpL R3 nilV nilV).toArray := hf 1 (by simp)
    have f2 : u 2 = BV := hf 2 (by simp)
    have f3 : u 3 = .pointer (some ⟨g, 0, none⟩) := hf 3 (by simp)
    have f4 : RdV q Y (13 + Z) b.length (u 4) ∧ u 4 = u 4 := hf 4 (by simp)
    obtain ⟨q4, f4⟩ := f4
    have f5 : u 5 = .agg (rpL X (bdR q (u 4)) (bdC q (u 4))).toArray := hf 5 (by simp)
    have m5_4 : mask [0, 1, 2, 3, 4] u 4 = u 4 := rfl
    simp only [resOf, spec, RSpec.resAt, List.getD_cons_zero, List.getD_cons_succ, List.flatMap_cons, List.flatMap_nil, List.nil_append, List.cons_append, List.append_nil, List.append_assoc, m5_4, ptrBlk] at S
    clear hf
    simp only [List.length_cons, List.length_nil, Nat.zero_add, Nat.reduceAdd, List.drop_succ_cons, List.drop_zero, f0, f1, f2, f3, f4, f5]
    try simp only [f0, f1, f2, f3, f4, f5, ptrBlk] at S
    clear f0 f1 f2 f3 f4 f5 m5_4
    have hone := rpL_one X _ _ q4.one.1 q4.one.2
    go_wp2_with (first | ((with_reducible refine iO none (.store 53 (.tmp 1) (.tmp 19)) ?_); refine step_store S 53 (.tmp 1) (.tmp 19) _ _ rfl rfl _ _ pk 46 kR lN lN hone rfl ?_; clear S; intro w S) | ((with_reducible refine iO none (.store 5 (.tmp 11) (.tmp 5)) ?_); first | (refine step_store1 S 5 (.tmp 11) (.tmp 5) _ _ (.int _ _) rfl rfl _ _ pk kR rfl rfl lN rfl ?_; clear S; intro w S; try simp only [List.setIfInBounds_toArray, List.set_cons_zero, List.set_cons_succ] at S) | (refine step_storeR S 5 (.tmp 11) (.tmp 5) _ _ (.int _ _) rfl rfl _ _ _ _ pk lE kR rfl rfl rfl ?_; clear S; intro w S) | (refine step_storeS S 5 (.tmp 11) (.tmp 5) _ _ (.int _ _) rfl rfl _ _ _ _ _ pk lE kR rfl rfl rfl ?_; clear S; intro w S)) | ((with_reducible refine iO none (.store 24 (.tmp 12) (.tmp 8)) ?_); first | (refine step_store1 S 24 (.tmp 12) (.tmp 8) _ _ (.int _ _) rfl rfl _ _ pk kR rfl rfl lN rfl ?_; clear S; intro w S; try simp only [List.setIfInBounds_toArray, List.set_cons_zero, List.set_cons_succ] at S) | (refine step_storeR S 24 (.tmp 12) (.tmp 8) _ _ (.int _ _) rfl rfl _ _ _ _ pk lE kR rfl rfl rfl ?_; clear S; intro w S) | (refine step_storeS S 24 (.tmp 12) (.tmp 8) _ _ (.int _ _) rfl rfl _ _ _ _ _ pk lE kR rfl rfl rfl ?_; clear S; intro w S)) | ((with_reducible refine iO none (.store 32 (.tmp 13) (.tmp 10)) ?_); first | (refine step_store1 S 32 (.tmp 13) (.tmp 10) _ _ (.int _ _) rfl rfl _ _ pk kR rfl rfl lN rfl ?_; clear S; intro w S; try simp only [List.setIfInBounds_toArray, List.set_cons_zero, List.set_cons_succ] at S) | (refine step_storeR S 32 (.tmp 13) (.tmp 10) _ _ (.int _ _) rfl rfl _ _ _ _ pk lE kR rfl rfl rfl ?_; clear S; intro w S) | (refine step_storeS S 32 (.tmp 13) (.tmp 10) _ _ (.int _ _) rfl rfl _ _ _ _ _ pk lE kR rfl rfl rfl ?_; clear S; intro w S)) | ((with_reducible refine iO _ (.load 53 _) ?_); first | (refine step_load S 53 _ _ rfl _ _ _ pk _ Try.underlying53 rfl 46 kR lN rfl ?_) | (refine step_loadO 53 _ _ rfl _ _ _ (S.old_heap (Hid.out (by assumption))) _ Try.underlying53 rfl 46 kR lN rfl ?_) | (refine step_loadR 53 _ _ _ rfl _ (S.old_range hy) _ Try.underlying53 rfl 46 kR lN _ rfl rfl ?_)) | ((with_reducible refine iO none (.store 53 (.tmp 1) (.tmp 19)) ?_); refine step_store S 53 (.tmp 1) (.tmp 19) _ _ rfl rfl _ _ pk 46 kR lN lN on1 rfl ?_; clear S; intro w S) | fail)
    go_end0
    have S := S.drop (r := noRes) pk
    exact .inl ⟨q4.1, rfl, (bdR q (u 4), bdC q (u 4)), S.perm (List.Perm.swap _ _ _)⟩
end Go.Proofs.Ytfhkmmagpnojmaa
