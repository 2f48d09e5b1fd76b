/- Several texts under one header: what the claim needs of RpZ, DcP, DecQ, SplP, Lnk, LnkR, Ver, Vfy, LgP, LgC, LgD, LgE, LgF. No condition but those that each names. -/
import Derived.Test.YtfhkmmagpnojmaaDoorYR1
import Derived.Test.YtfhkmmagpnojmaaDoorYR8
import Derived.Test.YtfhkmmagpnojmaaDoorYR10
import Derived.Test.YtfhkmmagpnojmaaDoorYR5
import Derived.Test.YtfhkmmagpnojmaaDoorYR9
import Derived.Test.YtfhkmmagpnojmaaDoorYR6
set_option linter.unusedSimpArgs false
set_option linter.unusedVariables false

/- The closure of DecodeReply. No condition but the reach. -/
namespace Go.Proofs.YtfhkmmagpnojmaaDoor
open Go.RowKit

theorem rpL_setK0 (k : UInt8) : (rpL rpZ nilV nilV).toArray.setIfInBounds 0 (.int .u8 (k.toNat : Int)) = (rpL (rpH k i64Z 0) nilV nilV).toArray := rfl
theorem rpL_setC1 (k : UInt8) (c : I64) : (rpL (rpH k i64Z 0) nilV nilV).toArray.setIfInBounds 1 (.int .i64 c.v) = (rpL (rpH k c 0) nilV nilV).toArray := rfl
theorem rpL_setT2 (k : UInt8) (c : I64) (t : UInt64) : (rpL (rpH k c 0) nilV nilV).toArray.setIfInBounds 2 (.int .u64 (t.toNat : Int)) = (rpL (rpH k c t) nilV nilV).toArray := rfl
/-- The slices in a body. -/
def bdR (q : BK) (v : Value) : Value := match q, v with | .w, .iface _ (.agg cs) => cs.getD 0 undef | _, _ => nilV
def bdC (q : BK) (v : Value) : Value := match q, v with | .c, .iface _ (.agg cs) => cs.getD 1 undef | _, _ => nilV
theorem bdR_eq (q : BK) (r : Rp) (u v : Value) : bdR q (bodyK q r u v) = vrK q u := by cases q <;> rfl
theorem bdC_eq (q : BK) (r : Rp) (u v : Value) : bdC q (bodyK q r u v) = vcK q v := by cases q <;> rfl
theorem Has.taken3 {w0 w : World} {r s t : Res} {l : List Res} (S : Has w0 w (r :: s :: t :: l)) : Has w0 w (r :: s :: t :: noRes :: l) :=
  S.unit.perm (List.perm_append_comm (l₁ := [noRes]) (l₂ := [r, s, t]) |>.append_right l)
/-- What is known of the body that was read. -/
def RdV (q : BK) (Y : Rp) (n N : Nat) (v : Value) : Prop := n ≤ N ∧ ∃ ar nr cr ac nc cc, v = bodyK q Y (.slice ar nr cr) (.slice ac nc cc)
theorem RdV.one {q : BK} {Y : Rp} {n N : Nat} {v : Value} (h : RdV q Y n N v) : (bdR q v).oneCell' = true ∧ (bdC q v).oneCell' = true := by
  obtain ⟨_, ar, nr, cr, ac, nc, cc, rfl⟩ := h
  cases q <;> exact ⟨rfl, rfl⟩
theorem ReadQ.rows {w0 : World} {g : Nat} {bv : Value} {b : List UInt8} {p : Nat} {q : BK} {F : List Res} {e : Ending} {w' : World} (h : ReadQ w0 g bv b p q F e w') :
    (p + rdZ q b p ≤ b.length ∧ ∃ ar nr cr ac nc cc, e = .returned (bodyK q (rdX q b p) (.slice ar nr cr) (.slice ac nc cc)) ∧ Has w0 w' (rdr g bv (p + rdZ q b p) :: rowSg (vrK q (.slice ar nr cr)) (rdX q b p).robots :: rowRc (vcK q (.slice ac nc cc)) (rdX q b p).records :: F)) ∨
    (b.length < p + rdZ q b p ∧ e = .panicked [erl] ∧ ∃ q', Has w0 w' (rdr g bv q' :: F)) := by
  rcases h with ⟨h1, ar, nr, cr, ac, nc, cc, h2, h3⟩ | h
  · refine .inl ⟨h1, ar, nr, cr, ac, nc, cc, h2, ?_⟩
    cases q with
    | w => exact (h3.drop (Pick.tail (Pick.tail (Pick.head _ _)))).nilRc1
    | c => exact (h3.drop (Pick.tail (Pick.head _ _))).nilSg1
    | n => exact ((h3.drop (Pick.tail (Pick.head _ _))).drop (Pick.tail (Pick.head _ _))).nilSgRc
    | o => exact ((h3.drop (Pick.tail (Pick.head _ _))).drop (Pick.tail (Pick.head _ _))).nilSgRc
    | s => exact ((h3.drop (Pick.tail (Pick.head _ _))).drop (Pick.tail (Pick.head _ _))).nilSgRc
    | t => exact ((h3.drop (Pick.tail (Pick.head _ _))).drop (Pick.tail (Pick.head _ _))).nilSgRc
  · exact .inr h
set_option maxRecDepth 100000 in
set_option maxHeartbeats 8000000 in
theorem decClosP_s (g go : Nat) (bv : Value) (b : List UInt8) (w0 w1 : World) (F : List Res) (S : Has w0 w1 (rdr g bv 2 :: blk go (.cells (rpL rpZ nilV nilV).toArray 79 (0, 0)) :: F)) (hb : Bs w0 bv b) (h13 : 13 ≤ b.length) (hl : b.length ≤ 140737488355328) :
    Calls Tryd.prog 69 #[.pointer (some ⟨g, 0, none⟩), .pointer (some ⟨go, 0, none⟩)] w1 fun e w' =>
      (psz b ≤ b.length ∧ e = .returned (.tuple #[]) ∧ ∃ z : Value × Value, Has w0 w' (rdr g bv (psz b) :: blk go (.cells (rpL (rpX b) z.1 z.2).toArray 79 (0, 0)) :: rowSg z.1 (rpX b).robots :: rowRc z.2 (rpX b).records :: F)) ∨
      (b.length < psz b ∧ e = .panicked [erl] ∧ ∃ q cs, Has w0 w' (rdr g bv q :: blk go (.cells cs 79 (0, 0)) :: F)) := by
  have p1 := fun w F S => ruint_i 1 1 rfl g bv b 2 w0 w F S hb (by decide) (by decide) (by omega) hl
  have p2 := fun w F S => ruint_i 2 2 rfl g bv b 3 w0 w F S hb (by decide) (by decide) (by omega) hl
  have p3 := fun w F S => ruint_i 8 8 rfl g bv b 5 w0 w F S hb (by decide) (by decide) (by omega) hl
  have e1 : (atB b 2 1 : Int) % 256 = ((b.getD 2 0).toNat : Int) := by rw [← IntKind.wrap_u8, wrap8 _ (atB_lt b 2 1), getD_at]
  have hc2 := atB_lt b 3 2
  have e2 : wrap64 (atB b 3 2 : Int) = (i64N (atB b 3 2)).v := by rw [i2_at, ← IntWalk.i64_left, IntKind.wrap_i64]; omega
  have e3 : (atB b 5 8 : Int) = ((UInt64.ofNat (atB b 5 8)).toNat : Int) := by rw [u64_at]
  have hz := psz_rd b
  have hX : rpX b = usK (bk (hdX b)) (hdX b) (rdX (bk (hdX b)) b 13) := rfl
  have hH : hdX b = rpH (b.getD 2 0) (i64N (atB b 3 2)) (UInt64.ofNat (atB b 5 8)) := rfl
  have p4 := fun w => replyBody_s (hdX b) none none 0 0 0 0 w
  unfold bodyV at p4
  obtain ⟨q, hq⟩ : ∃ q, q = bk (hdX b) := ⟨_, rfl⟩
  rw [← hq] at hz hX p4
  obtain ⟨fr, av, mv, p5'⟩ := bodyRead_s q (hdX b) none none 0 0 0 0
  have p5 := fun w F S => (p5' g bv b 13 w0 w F S hb h13 hl).mono fun e w' h => h.rows
  have p6 := fun a1 n1 c1 a2 n2 c2 w => replyOf_s q (hdX b) (rdX q b 13) nilV nilV rfl rfl a1 a2 n1 c1 n2 c2 w
  rw [← hX] at p6
  obtain ⟨BV, hBV⟩ : ∃ B, B = bodyK q (hdX b) nilV nilV := ⟨_, rfl⟩
  rw [← hBV] at p4 mv
  have hXr : (rdX q b 13).robots = (rpX b).robots := by rw [hX]; cases q <;> rfl
  have hXc : (rdX q b 13).records = (rpX b).records := by rw [hX]; cases q <;> rfl
  have hbr := fun u v => bdR_eq q (rdX q b 13) u v
  have hbc := fun u v => bdC_eq q (rdX q b 13) u v
  rw [hXr, hXc] at p5
  obtain ⟨X, hXe⟩ : ∃ X, X = rpX b := ⟨_, rfl⟩
  rw [← hXe] at p5 p6 ⊢
  obtain ⟨Y, hY⟩ : ∃ Y, Y = rdX q b 13 := ⟨_, rfl⟩
  rw [← hY] at p5 p6 hbr hbc
  obtain ⟨k, hk⟩ : ∃ k, k = b.getD 2 0 := ⟨_, rfl⟩
  obtain ⟨c, hc⟩ : ∃ c, c = i64N (atB b 3 2) := ⟨_, rfl⟩
  obtain ⟨t, ht⟩ : ∃ t, t = UInt64.ofNat (atB b 5 8) := ⟨_, rfl⟩
  rw [← hk] at e1 hH
  rw [← hc] at e2 hH
  rw [← ht] at e3 hH
  rw [hH] at p4 p6
  obtain ⟨RZ, hRZ⟩ : ∃ R, R = rpZ := ⟨_, rfl⟩
  have c0 := rpL_setK0 k
  have c1 := rpL_setC1 k c
  have c2 := rpL_setT2 k c t
  rw [← hRZ] at c0 S
  obtain ⟨R1, hR1⟩ : ∃ R, R = rpH k i64Z 0 := ⟨_, rfl⟩
  obtain ⟨R2, hR2⟩ : ∃ R, R = rpH k c 0 := ⟨_, rfl⟩
  obtain ⟨R3, hR3⟩ : ∃ R, R = rpH k c t := ⟨_, rfl⟩
  rw [← hR1] at c0 c1
  rw [← hR2] at c1 c2
  rw [← hR3] at c2 p4 p6
  rw [hz]
  obtain ⟨Z, hZ⟩ : ∃ Z, Z = rdZ q b 13 := ⟨_, rfl⟩
  rw [← hZ] at p5 ⊢
  have P1 := Lib.hid p1; have P2 := Lib.hid p2; have P3 := Lib.hid p3; have P4 := Lib.hid p4; have P5 := Lib.hid p5; have P6 := Lib.hid p6; have E1 := Lib.hid e1; have E2 := Lib.hid e2; have E3 := Lib.hid e3; have MV := Lib.hid mv; have C0 := Lib.hid c0; have C1 := Lib.hid c1; have C2 := Lib.hid c2; have HBR := Lib.hid hbr; have HBC := Lib.hid hbc; clear p1 p2 p3 p4 p5 p6 e1 e2 e3 mv c0 c1 c2 hbr hbc
  clear p5' hz hX hH hq hBV hXr hXc hXe hY hk hc ht hRZ hR1 hR2 hR3 hZ hb hc2
  go_enter Tryd.func69, Tryd.ntmps69
  go_upto_region 1 with (first | (go_at_call 61; (with_reducible refine (P1.out _ _ S).mono ?_); rintro e w1 (⟨hf, rfl, S1⟩ | ⟨hf, rfl, S1⟩); rotate_left; exact (by omega : False).elim; clear S; have S := S1; clear S1; have _t := P1; clear P1) | (go_at_call 61; (with_reducible refine (P2.out _ _ S).mono ?_); rintro e w1 (⟨hf2, rfl, S1⟩ | ⟨hf2, rfl, S1⟩); rotate_left; exact (by omega : False).elim; clear S; have S := S1; clear S1; have _t2 := P2; clear P2) | (go_at_call 61; (with_reducible refine (P3.out _ _ S).mono ?_); rintro e w1 (⟨hf3, rfl, S1⟩ | ⟨hf3, rfl, S1⟩); rotate_left; exact (by omega : False).elim; clear S; have S := S1; clear S1) | ((with_reducible refine iO none (.store 5 (.tmp 11) (.tmp 5)) ?_); refine step_store1 S 5 (.tmp 11) (.tmp 5) go 0 (.int .u8 (k.toNat : Int)) rfl (show Value.int .u8 _ = Value.int .u8 _ by rw [E1.out]) _ _ pk kR rfl rfl (by rw [rpL_size]; decide) gw ?_; clear S; intro w S; rw [C0.out] at S) | ((with_reducible refine iO none (.store 24 (.tmp 12) (.tmp 8)) ?_); refine step_store1 S 24 (.tmp 12) (.tmp 8) go 1 (.int .i64 c.v) rfl (show Value.int .i64 _ = Value.int .i64 _ by rw [E2.out]) _ _ pk kR rfl rfl (by rw [rpL_size]; decide) gw ?_; clear S; intro w S; rw [C1.out] at S) | ((with_reducible refine iO none (.store 23 (.tmp 13) (.tmp 10)) ?_); refine step_store1 S 23 (.tmp 13) (.tmp 10) go 2 (.int .u64 (t.toNat : Int)) rfl (show Value.int .u64 _ = Value.int .u64 _ by rw [← E3.out]) _ _ pk kR rfl rfl (by rw [rpL_size]; decide) gw ?_; clear S; intro w S; rw [C2.out] at S) | fail)
  replace S : Has w0 w (blk go (.cells (rpL R3 nilV nilV).toArray 79 (0, 0)) :: rdr g bv 13 :: F) := S
  refine wp_relyBW (Bad := fun c w' => b.length < 13 + Z ∧ c = [erl] ∧ ∃ q cs, Has w0 w' (rdr g bv q :: blk go (.cells cs 79 (0, 0)) :: F)) (e1 := noRes) 4 ?hbad1 (S.pick (r := rdr g bv 13) pk) [sv [] (.agg (rpL R3 nilV nilV).toArray), sv [] (.agg (rpL R3 nilV nilV).toArray), sv [1] BV, sv [] (.pointer (some ⟨g, 0, none⟩)), ⟨[1, 2, 3], [], [], fun _ v => RdV q Y (13 + Z) b.length (v) ∧ v = v, fun _ v => [rdr g bv (13 + Z), rowSg (bdR q v) X.robots, rowRc (bdC q v) X.records]⟩, ⟨[0, 1, 2, 3, 4], [], [], fun d v => v = .agg (rpL X (bdR q (d 4)) (bdC q (d 4))).toArray, fun _ v => []⟩] ?A1 ?hA1 kR kR kR [0, 1, 2, 3, 4, 5] kR (of_decide_eq_true rfl) ?hok1 ?fin1
  case hA1 => intro u; simp only [putAll, List.length_cons, List.length_nil, Nat.zero_add, Nat.reduceAdd, dstAt, List.getElem?_toArray, List.getElem?_cons_zero, List.getElem?_cons_succ, Option.bind_some, Act.put, List.setIfInBounds_toArray, List.set_cons_zero, List.set_cons_succ]; rfl
  case hbad1 => intro c a2 w2 hd hb; obtain ⟨hlt, rfl, q, cs, hS⟩ := hb; exact ⟨hd, .inr ⟨hlt, rfl, q, cs, hS⟩⟩
  case hok1 =>
    intro i hi
    obtain rfl | rfl | rfl | rfl | rfl | rfl : i = 0 ∨ i = 1 ∨ i = 2 ∨ i = 3 ∨ i = 4 ∨ i = 5 := by simp only [List.length_cons, List.length_nil, Nat.zero_add, Nat.reduceAdd] at hi; omega
    · clear hi
      rw [if_neg (by decide)]; intro r0
      refine step_ofB rfl rfl rfl ?_
      intro u G w hf S
      simp only [fl, z4, z5, z6, z7, ptrBlk] at S ⊢
      refine does.bad ?_
      refine does_load 79 (.tmp 1) go rfl _ _ _ (S.get (r := blk go _) pk) _ Tryd.underlying79 rfl 46 kR lN ?_; exact ⟨rfl, S⟩
    · clear hi
      rw [if_neg (by decide)]; intro r0
      refine step_ofB rfl rfl rfl ?_
      intro u G w hf S
      simp only [fl, z4, z5, z6, z7, ptrBlk] at S ⊢
      refine does.bad ?_
      refine does_load 79 (.tmp 1) go rfl _ _ _ (S.get (r := blk go _) pk) _ Tryd.underlying79 rfl 46 kR lN ?_; exact ⟨rfl, S⟩
    · clear hi
      rw [if_neg (by decide)]; intro r0
      refine step_ofB rfl rfl rfl ?_
      intro u G w hf S
      have f1 : u 1 = .agg (rpL R3 nilV nilV).toArray := hf 1 (by simp)
      simp only [fl, z4, z5, z6, z7, ptrBlk] at S ⊢
      simp only [f1]
      refine does.bad ?_
      refine does_fn (args := [(.agg (rpL R3 nilV nilV).toArray)]) Tryd.func68 kR kR (P4.out w) rfl ?_
      rintro e w1 ⟨rfl, T⟩
      exact ⟨_, rfl, rfl, S.call T⟩
    · rw [if_neg (by decide)]; intro r0; exact oP []
    · clear hi
      rw [if_pos rfl]
      refine step_ofB rfl rfl rfl ?_
      intro u G w hf S
      have f2 : u 2 = BV := hf 2 (by simp)
      have f3 : u 3 = .pointer (some ⟨g, 0, none⟩) := hf 3 (by simp)
      simp only [fl, z4, z5, z6, z7, ptrBlk] at S ⊢
      simp only [f2, f3]
      refine doesB_inv (.tmp 16) "dunnage/wire.read" [.tmp 17] _ _ [.pointer (some ⟨g, 0, none⟩)] fr _ rfl rfl (MV.out _ w) (P5.out w _ S) ?_; rintro e w1 (⟨h1, ar, nr, cr, ac, nc, cc, rfl, S1⟩ | ⟨h1, rfl, q', S1⟩)
      · exact .inl ⟨_, rfl, ⟨⟨h1, ar, nr, cr, ac, nc, cc, rfl⟩, trivial⟩, by rw [HBR.out, HBC.out]; exact S1.taken3⟩
      · exact .inr ⟨_, rfl, h1, rfl, q', _, (Has.front (l := rdr g bv q' :: blk go _ :: F) (G := G) S1)⟩
    · clear hi
      rw [if_neg (by decide)]; intro r0
      refine step_ofB rfl rfl rfl ?_
      intro u G w hf S
      have f0 : u 0 = .agg (rpL R3 nilV nilV).toArray := hf 0 (by simp)
      have f4 : RdV q Y (13 + Z) b.length (u 4) ∧ u 4 = u 4 := hf 4 (by simp)
      obtain ⟨q4, f4⟩ := f4
      have m4 : mask [0, 1, 2, 3, 4] u 4 = u 4 := rfl
      simp only [fl, z4, z5, z6, z7, m4, ptrBlk] at S ⊢
      simp only [m4, f0, f4]
      refine does.bad ?_
      obtain ⟨_, ar, nr, cr, ac, nc, cc, e4⟩ := q4
      rw [e4, HBR.out, HBC.out]
      refine does_fn (args := [.agg (rpL R3 nilV nilV).toArray, bodyK q Y (.slice ar nr cr) (.slice ac nc cc)]) Tryd.func70 kR kR (P6.out ar nr cr ac nc cc w) rfl ?_
      rintro e w1 ⟨rfl, T⟩
      exact ⟨_, rfl, rfl, S.call T⟩
  case fin1 =>
    intro u w hf S
    have f4 : RdV q Y (13 + Z) b.length (u 4) ∧ u 4 = u 4 := hf 4 (by simp)
    obtain ⟨q4, f4⟩ := f4
    have m5_4 : mask [0, 1, 2, 3, 4] u 4 = u 4 := rfl
    have hvA := allV hf
    simp only [AllV, RSpec.valAt, sv, Nat.zero_add, Nat.reduceAdd, m5_4] at hvA
    simp only [fl, z4, z5, z6, z7, m5_4, ptrBlk] at S
    clear hf
    simp only [List.length_cons, List.length_nil, Nat.zero_add, Nat.reduceAdd, List.drop_succ_cons, List.drop_zero, f4, hvA]
    try simp only [f4, hvA, ptrBlk] at S
    clear f4 hvA m5_4
    have hone := rpL_one X _ _ q4.one.1 q4.one.2
    go_wp2_with (first | ((with_reducible refine iO none (.store 79 (.tmp 1) (.tmp 19)) ?_); refine step_store S 79 (.tmp 1) (.tmp 19) _ _ rfl rfl _ _ pk 46 kR lN lN hone rfl ?_; clear S; intro w S) | fail)
    go_end0
    have S := S.drop (r := noRes) pk
    exact .inl ⟨q4.1, rfl, (bdR q (u 4), bdC q (u 4)), S.perm (List.Perm.swap _ _ _)⟩
end Go.Proofs.YtfhkmmagpnojmaaDoor

/- The reply of some bytes: what the program's DecodeReply returns. No condition but the reach. -/
namespace Go.Proofs.YtfhkmmagpnojmaaDoor
open Go.RowKit

/-- whole, for a reply. -/
theorem wholeP_s (bv : Value) (b : List UInt8) (go : Nat) (w0 w1 : World) (G0 : List Res) (S : Has w0 w1 (blk go (.cells (rpL rpZ nilV nilV).toArray 79 (0, 0)) :: G0)) (hb : Bs w0 bv b) (h13 : 13 ≤ b.length) (hl : b.length ≤ 140737488355328) :
    Calls Tryd.prog 59 #[bv, .func (.func 69) #[] #[.pointer (some ⟨go, 0, none⟩)]] w1 fun e w' =>
      (psz b = b.length ∧ val (b.take 2) = b.length ∧ e = .returned (.bool true) ∧ ∃ vr vc, Has w0 w' (blk go (.cells (rpL (rpP b) vr vc).toArray 79 (0, 0)) :: rowSg vr (rpP b).robots :: rowRc vc (rpP b).records :: G0)) ∨
      (¬ (psz b = b.length ∧ val (b.take 2) = b.length) ∧ e = .returned (.bool false) ∧ ∃ cs, Has w0 w' (blk go (.cells cs 79 (0, 0)) :: G0)) := by
  refine (whole2_s (α := Value × Value) bv b 69 Tryd.f69 [.pointer (some ⟨go, 0, none⟩)] w0 w1 _ G0 S hb (by omega) hl Tryd.func69 kR kR (psz b ≤ b.length) (psz b)
    (fun z => [blk go (.cells (rpL (rpX b) z.1 z.2).toArray 79 (0, 0)), rowSg z.1 (rpX b).robots, rowRc z.2 (rpX b).records]) (fun cs => [blk go (.cells cs 79 (0, 0))]) (fun g w G S => ?_)).mono fun e w' h => ?_
  · refine (decClosP_s g go bv b w0 w G S hb h13 hl).mono fun e w' h => ?_
    rcases h with ⟨h1, h2, z, h3⟩ | ⟨h1, h2, q, cs, h3⟩
    · exact .inl ⟨h1, h2, z, h3⟩
    · exact .inr ⟨by omega, h2, q, cs, h3⟩
  · rcases h with ⟨h1, rfl, z, h3⟩ | ⟨h1, rfl, cs, h3⟩
    · by_cases hx : psz b = b.length ∧ val (b.take 2) = b.length
      · rw [rpX_rpP b hx.1] at h3
        exact .inl ⟨hx.1, hx.2, by rw [decide_eq_true ⟨hx.2, hx.1⟩], z.1, z.2, h3⟩
      · refine .inr ⟨hx, by rw [decide_eq_false (fun h => hx ⟨h.2, h.1⟩)], _, (h3.drop (Pick.tail (Pick.head _ _))).drop (Pick.tail (Pick.head _ _))⟩
    · exact .inr ⟨by omega, rfl, cs, h3⟩
theorem Has.two {w0 w : World} {r s : Res} {G : List Res} (S : Has w0 w (r :: s :: G)) : Has w0 w [r, s] := Has.front (l := [r, s]) (G := G) S
/-- What DecodeReply makes. -/
def MadeRp (w : World) (r : Rp) (E : Int) (e : Ending) (w' : World) : Prop :=
  ∃ vr vc, e = .returned (.tuple #[.agg (rpL r vr vc).toArray, .int .i64 E]) ∧ Has w w' [rowSg vr r.robots, rowRc vc r.records]
theorem Has.zRp {w0 w : World} (S : Has w0 w []) : Has w0 w [rowSg nilV rpZ.robots, rowRc nilV rpZ.records] := (S.nil_row 50 35).nil_row 95 3
set_option maxRecDepth 100000 in
set_option maxHeartbeats 8000000 in
theorem decodeReply_s (bv : Value) (b : List UInt8) (w0 : World) (hb : Bs w0 bv b) (hl : b.length ≤ 140737488355328) :
    Calls Tryd.prog 39 #[bv] w0 (MadeRp w0 (dpR b) (dpE b)) := by
  have S := Has.start w0
  obtain ⟨a0, c0, rfl, k1, k2⟩ := Sl.shape hb
  unfold maxLen at k2
  by_cases h3 : b.length < 13
  · have hE : dpE b = 10 := if_pos h3
    have hR : dpR b = rpZ := if_neg (by rw [hE]; decide)
    rw [hE, hR]
    have i1 : (b.length : Int) < 13 := by omega
    have HB := Lib.hid hb; clear hb
    clear hE hR
    go_enter Tryd.func39, Tryd.ntmps39
    go_wp2_with (first | ((with_reducible refine iD 2 (.alloc 79) ?_); refine step_alloc (dst := some 2) S 79 (.agg ((rpL rpZ (.slice none 0 0) (.slice none 0 0)).toArray)) ((rpL rpZ (.slice none 0 0) (.slice none 0 0)).toArray) kR rfl gw ?_; clear S; intro g2 w S) | ((with_reducible refine iD 9 (.build 79 _) ?_); refine step_buildZ 79 (.agg ((rpL rpZ (.slice none 0 0) (.slice none 0 0)).toArray)) (fun w => by kernel_rfl) gw ?_) | ((with_reducible refine iO none (.store 79 (.tmp 2) (.tmp 9)) ?_); refine step_store S 79 (.tmp 2) (.tmp 9) _ _ rfl rfl _ _ pk 46 kR lN lN on1 gw ?_; clear S; intro w S) | fail)
    refine ret_row_tmp rfl g2 79 _ (S.get pk) _ Tryd.underlying79 46 kR lN rfl rfl rfl ?_
    exact ⟨nilV, nilV, rfl, S.nil.zRp⟩
  have i1 : ¬ (b.length : Int) < 13 := by omega
  have hE0 : dpE b = if dpOk b then 0 else 11 := if_neg h3
  have p1 := fun go w G0 S => wholeP_s (.slice a0 b.length c0) b go w0 w G0 S hb (by omega) hl
  by_cases hx : psz b = b.length ∧ val (b.take 2) = b.length
  · have hd : dpOk b = rpV (rpP b) := by unfold dpOk; rw [decide_eq_true hx, Bool.true_and]
    have p2 := fun vr vc w h1 h2 => checkReply_s (rpP b) vr vc w h1 h2
    unfold rpE at p2
    rw [hd] at hE0
    have p3 : ∀ go w G0, Has w0 w (blk go (.cells (rpL rpZ nilV nilV).toArray 79 (0, 0)) :: G0) → Calls Tryd.prog 59 #[.slice a0 b.length c0, .func (.func 69) #[] #[.pointer (some ⟨go, 0, none⟩)]] w fun e w' => e = .returned (.bool true) ∧ ∃ vr vc, Has w0 w' (blk go (.cells (rpL (rpP b) vr vc).toArray 79 (0, 0)) :: rowSg vr (rpP b).robots :: rowRc vc (rpP b).records :: G0) := fun go w G0 S => (p1 go w G0 S).mono fun e w' h => by
      rcases h with ⟨_, _, h1, vr, vc, h2⟩ | ⟨h1, _⟩
      · exact ⟨h1, vr, vc, h2⟩
      · exact absurd hx h1
    unfold dpR
    rw [hE0]
    obtain ⟨X, hX⟩ : ∃ X, X = rpP b := ⟨_, rfl⟩
    rw [← hX] at p2 p3 ⊢
    cases hv : rpV X
    · rw [hv] at p2
      simp only [Bool.false_eq_true, if_false] at p2 ⊢
      have HB := Lib.hid hb; have P2 := Lib.hid p2; have P3 := Lib.hid p3; clear hb p2 p3
      clear p1 hx hd hE0 hX hv h3
      go_enter Tryd.func39, Tryd.ntmps39
      go_wp2_with (first | (go_at_call 59; (with_reducible refine (P3.out g4 _ _ S).mono ?_); rintro e w1 ⟨rfl, vr, vc, S1⟩; clear S; have S := S1; clear S1) | ((with_reducible refine iD 2 (.alloc 79) ?_); refine step_alloc (dst := some 2) S 79 (.agg ((rpL rpZ (.slice none 0 0) (.slice none 0 0)).toArray)) ((rpL rpZ (.slice none 0 0) (.slice none 0 0)).toArray) kR rfl gw ?_; clear S; intro g2 w S) | ((with_reducible refine iD 4 (.alloc 79) ?_); refine step_alloc (dst := some 4) S 79 (.agg ((rpL rpZ (.slice none 0 0) (.slice none 0 0)).toArray)) ((rpL rpZ (.slice none 0 0) (.slice none 0 0)).toArray) kR rfl gw ?_; clear S; intro g4 w S) | ((with_reducible refine iD 11 (.makeFunc _ _ _) ?_); refine step_makeF _ [.tmp 4] [.pointer (some ⟨g4, 0, none⟩)] rfl gw ?_) | ((with_reducible refine iO _ (.load 79 _) ?_); first | (refine step_load S 79 _ _ rfl _ _ _ pk _ Tryd.underlying79 rfl 46 kR lN gw ?_) | (refine step_loadO 79 _ _ rfl _ _ _ (S.old_heap (Hid.out (by assumption))) _ Tryd.underlying79 rfl 46 kR lN gw ?_) | (refine step_loadR 79 _ _ _ rfl _ (S.old_range hy) _ Tryd.underlying79 rfl 46 kR lN _ rfl gw ?_)) | (go_at_call 41; (with_reducible refine (P2.out vr vc _ (S.sl (v := vr) pk) (S.sl (v := vc) pk)).mono ?_); rintro e w1 ⟨rfl, T⟩; replace S := S.call T; clear T; (try simp only [z4, z5] at S)) | ((with_reducible refine iD 20 (.build 79 _) ?_); refine step_buildZ 79 (.agg ((rpL rpZ (.slice none 0 0) (.slice none 0 0)).toArray)) (fun w => by kernel_rfl) gw ?_) | ((with_reducible refine iO none (.store 79 (.tmp 2) (.tmp 20)) ?_); refine step_store S 79 (.tmp 2) (.tmp 20) _ _ rfl rfl _ _ pk 46 kR lN lN on1 gw ?_; clear S; intro w S) | fail)
      refine ret_row_tmp rfl g2 79 _ (S.get pk) _ Tryd.underlying79 46 kR lN rfl rfl rfl ?_
      exact ⟨nilV, nilV, rfl, S.nil.zRp⟩
    · rw [hv] at p2
      simp only [if_true] at p2 ⊢
      have HB := Lib.hid hb; have P2 := Lib.hid p2; have P3 := Lib.hid p3; clear hb p2 p3
      clear p1 hx hd hE0 hX hv h3
      go_enter Tryd.func39, Tryd.ntmps39
      go_wp2_with (first | (go_at_call 59; (with_reducible refine (P3.out g4 _ _ S).mono ?_); rintro e w1 ⟨rfl, vr, vc, S1⟩; have h1 := (one_sl (S1.sl (v := vr) pk)).1; have h2 := (one_sl (S1.sl (v := vc) pk)).1; have hone := rpL_one X vr vc h1 h2; clear S; have S := S1; clear S1) | ((with_reducible refine iO none (.store 79 (.tmp 2) (.tmp 21)) ?_); refine step_store S 79 (.tmp 2) (.tmp 21) _ _ rfl rfl _ _ pk 46 kR lN lN hone rfl ?_; clear S; intro w S) | ((with_reducible refine iD 2 (.alloc 79) ?_); refine step_alloc (dst := some 2) S 79 (.agg ((rpL rpZ (.slice none 0 0) (.slice none 0 0)).toArray)) ((rpL rpZ (.slice none 0 0) (.slice none 0 0)).toArray) kR rfl gw ?_; clear S; intro g2 w S) | ((with_reducible refine iD 4 (.alloc 79) ?_); refine step_alloc (dst := some 4) S 79 (.agg ((rpL rpZ (.slice none 0 0) (.slice none 0 0)).toArray)) ((rpL rpZ (.slice none 0 0) (.slice none 0 0)).toArray) kR rfl gw ?_; clear S; intro g4 w S) | ((with_reducible refine iD 11 (.makeFunc _ _ _) ?_); refine step_makeF _ [.tmp 4] [.pointer (some ⟨g4, 0, none⟩)] rfl gw ?_) | ((with_reducible refine iO _ (.load 79 _) ?_); first | (refine step_load S 79 _ _ rfl _ _ _ pk _ Tryd.underlying79 rfl 46 kR lN gw ?_) | (refine step_loadO 79 _ _ rfl _ _ _ (S.old_heap (Hid.out (by assumption))) _ Tryd.underlying79 rfl 46 kR lN gw ?_) | (refine step_loadR 79 _ _ _ rfl _ (S.old_range hy) _ Tryd.underlying79 rfl 46 kR lN _ rfl gw ?_)) | (go_at_call 41; (with_reducible refine (P2.out vr vc _ (S.sl (v := vr) pk) (S.sl (v := vc) pk)).mono ?_); rintro e w1 ⟨rfl, T⟩; replace S := S.call T; clear T; (try simp only [z4, z5] at S)) | fail)
      refine ret_row_tmp rfl g2 79 _ (S.get pk) _ Tryd.underlying79 46 kR lN rfl rfl rfl ?_
      exact ⟨vr, vc, rfl, (S.pick2 (r := rowSg vr X.robots) (s := rowRc vc X.records) pk pk).two⟩
  · have hd : dpOk b = false := by unfold dpOk; rw [decide_eq_false hx, Bool.false_and]
    have hE : dpE b = 11 := by rw [hE0, hd]; rfl
    have hR : dpR b = rpZ := if_neg (by rw [hE]; decide)
    rw [hE, hR]
    have p3 : ∀ go w G0, Has w0 w (blk go (.cells (rpL rpZ nilV nilV).toArray 79 (0, 0)) :: G0) → Calls Tryd.prog 59 #[.slice a0 b.length c0, .func (.func 69) #[] #[.pointer (some ⟨go, 0, none⟩)]] w fun e w' => e = .returned (.bool false) ∧ ∃ cs, Has w0 w' (blk go (.cells cs 79 (0, 0)) :: G0) := fun go w G0 S => (p1 go w G0 S).mono fun e w' h => by
      rcases h with ⟨h1, h2, _⟩ | ⟨_, h1, cs, h2⟩
      · exact absurd ⟨h1, h2⟩ hx
      · exact ⟨h1, cs, h2⟩
    have HB := Lib.hid hb; have P3 := Lib.hid p3; clear hb p3
    clear p1 hx hd hE0 hE hR h3
    go_enter Tryd.func39, Tryd.ntmps39
    go_wp2_with (first | (go_at_call 59; (with_reducible refine (P3.out g4 _ _ S).mono ?_); rintro e w1 ⟨rfl, cs, S1⟩; clear S; have S := S1; clear S1) | ((with_reducible refine iD 2 (.alloc 79) ?_); refine step_alloc (dst := some 2) S 79 (.agg ((rpL rpZ (.slice none 0 0) (.slice none 0 0)).toArray)) ((rpL rpZ (.slice none 0 0) (.slice none 0 0)).toArray) kR rfl gw ?_; clear S; intro g2 w S) | ((with_reducible refine iD 4 (.alloc 79) ?_); refine step_alloc (dst := some 4) S 79 (.agg ((rpL rpZ (.slice none 0 0) (.slice none 0 0)).toArray)) ((rpL rpZ (.slice none 0 0) (.slice none 0 0)).toArray) kR rfl gw ?_; clear S; intro g4 w S) | ((with_reducible refine iD 11 (.makeFunc _ _ _) ?_); refine step_makeF _ [.tmp 4] [.pointer (some ⟨g4, 0, none⟩)] rfl gw ?_) | ((with_reducible refine iD 20 (.build 79 _) ?_); refine step_buildZ 79 (.agg ((rpL rpZ (.slice none 0 0) (.slice none 0 0)).toArray)) (fun w => by kernel_rfl) gw ?_) | ((with_reducible refine iO none (.store 79 (.tmp 2) (.tmp 20)) ?_); refine step_store S 79 (.tmp 2) (.tmp 20) _ _ rfl rfl _ _ pk 46 kR lN lN on1 gw ?_; clear S; intro w S) | fail)
    refine ret_row_tmp rfl g2 79 _ (S.get pk) _ Tryd.underlying79 46 kR lN rfl rfl rfl ?_
    exact ⟨nilV, nilV, rfl, S.nil.zRp⟩
end Go.Proofs.YtfhkmmagpnojmaaDoor

/- The request of some bytes: what the program's DecodeRequest returns. No condition but the reach. -/
namespace Go.Proofs.YtfhkmmagpnojmaaDoor
open Go.RowKit

/-- whole, for a request. -/
theorem wholeR_s (bv : Value) (b : List UInt8) (go : Nat) (w0 w1 : World) (G0 : List Res) (S : Has w0 w1 (blk go (.cells (rqL rqZ).toArray 69 (0, 0)) :: G0)) (hb : Bs w0 bv b) (h3 : 3 ≤ b.length) (hl : b.length ≤ 140737488355328) :
    Calls Tryd.prog 59 #[bv, .func (.func 60) #[] #[.pointer (some ⟨go, 0, none⟩)]] w1 fun e w' =>
      ∃ cs, e = .returned (.bool (decide (b.length = 49 + bsz (b.getD 2 0) ∧ val (b.take 2) = b.length))) ∧ Has w0 w' (blk go (.cells cs 69 (0, 0)) :: G0) ∧ (b.length = 49 + bsz (b.getD 2 0) → cs = (rqL (rqP b)).toArray) := by
  refine (whole_s bv b 60 Tryd.f60 [.pointer (some ⟨go, 0, none⟩)] w0 w1 _ G0 S hb (by omega) hl Tryd.func60 kR kR (49 + bsz (b.getD 2 0) ≤ b.length) (49 + bsz (b.getD 2 0))
    [blk go (.cells (rqL (rqX b)).toArray 69 (0, 0))] (fun cs => [blk go (.cells cs 69 (0, 0))]) (fun g w G S => ?_)).mono fun e w' h => ?_
  · refine (decClos_s g go bv b w0 w G S hb h3 hl).mono fun e w' h => ?_
    rcases h with ⟨h1, h2, h3⟩ | ⟨h1, h2, q, cs, h3⟩
    · exact .inl ⟨h1, h2, h3⟩
    · exact .inr ⟨by omega, h2, q, cs, h3⟩
  · rcases h with ⟨h1, rfl, h3⟩ | ⟨h1, rfl, cs, h3⟩
    · refine ⟨_, ?_, h3, fun h => by rw [rqX_rqP b h]⟩
      congr 2
      rw [Bool.eq_iff_iff, decide_eq_true_eq, decide_eq_true_eq]
      omega
    · refine ⟨cs, ?_, h3, fun h => absurd h (by omega)⟩
      rw [decide_eq_false (by omega)]
set_option maxRecDepth 100000 in
set_option maxHeartbeats 8000000 in
theorem decodeRequest_s (bv : Value) (b : List UInt8) (w0 : World) (hb : Bs w0 bv b) (hl : b.length ≤ 140737488355328) :
    Calls Tryd.prog 34 #[bv] w0 fun e w' => e = .returned (.tuple #[.agg (rqL (dcR b)).toArray, .int .i64 (dcE b)]) ∧ Has w0 w' [] := by
  have S := Has.start w0
  obtain ⟨a0, c0, rfl, k1, k2⟩ := Sl.shape hb
  unfold maxLen at k2
  by_cases h3 : b.length < 3
  · have hE : dcE b = 10 := if_pos h3
    have hR : dcR b = rqZ := if_neg (by rw [hE]; decide)
    rw [hE, hR]
    have i1 : (b.length : Int) < 3 := by omega
    have HB := Lib.hid hb; clear hb
    clear hE hR
    go_enter Tryd.func34, Tryd.ntmps34
    go_wp2_with (first | ((with_reducible refine iD 2 (.alloc 69) ?_); refine step_alloc (dst := some 2) S 69 (.agg ((rqL rqZ).toArray)) ((rqL rqZ).toArray) kR rfl gw ?_; clear S; intro g2 w S) | ((with_reducible refine iD 9 (.build 69 _) ?_); refine step_buildZ 69 (.agg ((rqL rqZ).toArray)) (fun w => by kernel_rfl) gw ?_) | ((with_reducible refine iO none (.store 69 (.tmp 2) (.tmp 9)) ?_); refine step_store S 69 (.tmp 2) (.tmp 9) _ _ rfl rfl _ _ pk 40 kR lN lN on1 gw ?_; clear S; intro w S) | fail)
    refine ret_row_tmp rfl g2 69 _ (S.get pk) _ Tryd.underlying69 40 kR lN rfl rfl rfl ?_
    exact ⟨rfl, S.nil⟩
  have i1 : ¬ (b.length : Int) < 3 := by omega
  have hE0 : dcE b = if dcOk b then 0 else 11 := if_neg h3
  have p1 := fun go w G0 S => wholeR_s (.slice a0 b.length c0) b go w0 w G0 S hb (by omega) hl
  by_cases hx : b.length = 49 + bsz (b.getD 2 0) ∧ val (b.take 2) = b.length
  · have hd : dcOk b = rqV (rqP b) := by unfold dcOk; rw [decide_eq_true hx, Bool.true_and]
    have p2 := fun w => checkRequest_s (rqP b) w
    unfold rqE at p2
    rw [hd] at hE0
    have p3 : ∀ go w G0, Has w0 w (blk go (.cells (rqL rqZ).toArray 69 (0, 0)) :: G0) → Calls Tryd.prog 59 #[.slice a0 b.length c0, .func (.func 60) #[] #[.pointer (some ⟨go, 0, none⟩)]] w fun e w' => e = .returned (.bool true) ∧ Has w0 w' (blk go (.cells (rqL (rqP b)).toArray 69 (0, 0)) :: G0) := fun go w G0 S => (p1 go w G0 S).mono fun e w' h => by
      obtain ⟨cs, h1, h2, h3⟩ := h
      rw [decide_eq_true hx] at h1
      rw [h3 hx.1] at h2
      exact ⟨h1, h2⟩
    unfold dcR
    rw [hE0]
    obtain ⟨X, hX⟩ : ∃ X, X = rqP b := ⟨_, rfl⟩
    rw [← hX] at p2 p3 ⊢
    cases hv : rqV X
    · rw [hv] at p2
      simp only [Bool.false_eq_true, if_false] at p2 ⊢
      have HB := Lib.hid hb; have P2 := Lib.hid p2; have P3 := Lib.hid p3; clear hb p2 p3
      clear p1 hx hd hE0 hX hv h3
      go_enter Tryd.func34, Tryd.ntmps34
      go_wp2_with (first | (go_at_call 59; (with_reducible refine (P3.out g4 _ _ S).mono ?_); rintro e w1 ⟨rfl, S1⟩; clear S; have S := S1; clear S1) | ((with_reducible refine iD 2 (.alloc 69) ?_); refine step_alloc (dst := some 2) S 69 (.agg ((rqL rqZ).toArray)) ((rqL rqZ).toArray) kR rfl gw ?_; clear S; intro g2 w S) | ((with_reducible refine iD 4 (.alloc 69) ?_); refine step_alloc (dst := some 4) S 69 (.agg ((rqL rqZ).toArray)) ((rqL rqZ).toArray) kR rfl gw ?_; clear S; intro g4 w S) | ((with_reducible refine iD 11 (.makeFunc _ _ _) ?_); refine step_makeF _ [.tmp 4] [.pointer (some ⟨g4, 0, none⟩)] rfl gw ?_) | ((with_reducible refine iO _ (.load 69 _) ?_); first | (refine step_load S 69 _ _ rfl _ _ _ pk _ Tryd.underlying69 rfl 40 kR lN gw ?_) | (refine step_loadO 69 _ _ rfl _ _ _ (S.old_heap (Hid.out (by assumption))) _ Tryd.underlying69 rfl 40 kR lN gw ?_) | (refine step_loadR 69 _ _ _ rfl _ (S.old_range hy) _ Tryd.underlying69 rfl 40 kR lN _ rfl gw ?_)) | (go_at_call 36; (with_reducible refine (P2.out _).mono ?_); rintro e w1 ⟨rfl, T⟩; replace S := S.call T; clear T; (try simp only [z4, z5] at S)) | ((with_reducible refine iD 20 (.build 69 _) ?_); refine step_buildZ 69 (.agg ((rqL rqZ).toArray)) (fun w => by kernel_rfl) gw ?_) | ((with_reducible refine iO none (.store 69 (.tmp 2) (.tmp 20)) ?_); refine step_store S 69 (.tmp 2) (.tmp 20) _ _ rfl rfl _ _ pk 40 kR lN lN on1 gw ?_; clear S; intro w S) | fail)
      refine ret_row_tmp rfl g2 69 _ (S.get pk) _ Tryd.underlying69 40 kR lN rfl rfl rfl ?_
      exact ⟨rfl, S.nil⟩
    · rw [hv] at p2
      simp only [if_true] at p2 ⊢
      have HB := Lib.hid hb; have P2 := Lib.hid p2; have P3 := Lib.hid p3; clear hb p2 p3
      clear p1 hx hd hE0 hX hv h3
      go_enter Tryd.func34, Tryd.ntmps34
      go_wp2_with (first | (go_at_call 59; (with_reducible refine (P3.out g4 _ _ S).mono ?_); rintro e w1 ⟨rfl, S1⟩; clear S; have S := S1; clear S1) | ((with_reducible refine iD 2 (.alloc 69) ?_); refine step_alloc (dst := some 2) S 69 (.agg ((rqL rqZ).toArray)) ((rqL rqZ).toArray) kR rfl gw ?_; clear S; intro g2 w S) | ((with_reducible refine iD 4 (.alloc 69) ?_); refine step_alloc (dst := some 4) S 69 (.agg ((rqL rqZ).toArray)) ((rqL rqZ).toArray) kR rfl gw ?_; clear S; intro g4 w S) | ((with_reducible refine iD 11 (.makeFunc _ _ _) ?_); refine step_makeF _ [.tmp 4] [.pointer (some ⟨g4, 0, none⟩)] rfl gw ?_) | ((with_reducible refine iO _ (.load 69 _) ?_); first | (refine step_load S 69 _ _ rfl _ _ _ pk _ Tryd.underlying69 rfl 40 kR lN gw ?_) | (refine step_loadO 69 _ _ rfl _ _ _ (S.old_heap (Hid.out (by assumption))) _ Tryd.underlying69 rfl 40 kR lN gw ?_) | (refine step_loadR 69 _ _ _ rfl _ (S.old_range hy) _ Tryd.underlying69 rfl 40 kR lN _ rfl gw ?_)) | (go_at_call 36; (with_reducible refine (P2.out _).mono ?_); rintro e w1 ⟨rfl, T⟩; replace S := S.call T; clear T; (try simp only [z4, z5] at S)) | ((with_reducible refine iO none (.store 69 (.tmp 2) (.tmp 21)) ?_); refine step_store S 69 (.tmp 2) (.tmp 21) _ _ rfl rfl _ _ pk 40 kR lN lN on1 gw ?_; clear S; intro w S) | fail)
      refine ret_row_tmp rfl g2 69 _ (S.get pk) _ Tryd.underlying69 40 kR lN rfl rfl rfl ?_
      exact ⟨rfl, S.nil⟩
  · have hd : dcOk b = false := by unfold dcOk; rw [decide_eq_false hx, Bool.false_and]
    have hE : dcE b = 11 := by rw [hE0, hd]; rfl
    have hR : dcR b = rqZ := if_neg (by rw [hE]; decide)
    rw [hE, hR]
    have p3 : ∀ go w G0, Has w0 w (blk go (.cells (rqL rqZ).toArray 69 (0, 0)) :: G0) → Calls Tryd.prog 59 #[.slice a0 b.length c0, .func (.func 60) #[] #[.pointer (some ⟨go, 0, none⟩)]] w fun e w' => e = .returned (.bool false) ∧ ∃ cs, Has w0 w' (blk go (.cells cs 69 (0, 0)) :: G0) := fun go w G0 S => (p1 go w G0 S).mono fun e w' h => by
      obtain ⟨cs, h1, h2, h3⟩ := h
      rw [decide_eq_false hx] at h1
      exact ⟨h1, cs, h2⟩
    have HB := Lib.hid hb; have P3 := Lib.hid p3; clear hb p3
    clear p1 hx hd hE0 hE hR h3
    go_enter Tryd.func34, Tryd.ntmps34
    go_wp2_with (first | (go_at_call 59; (with_reducible refine (P3.out g4 _ _ S).mono ?_); rintro e w1 ⟨rfl, cs, S1⟩; clear S; have S := S1; clear S1) | ((with_reducible refine iD 2 (.alloc 69) ?_); refine step_alloc (dst := some 2) S 69 (.agg ((rqL rqZ).toArray)) ((rqL rqZ).toArray) kR rfl gw ?_; clear S; intro g2 w S) | ((with_reducible refine iD 4 (.alloc 69) ?_); refine step_alloc (dst := some 4) S 69 (.agg ((rqL rqZ).toArray)) ((rqL rqZ).toArray) kR rfl gw ?_; clear S; intro g4 w S) | ((with_reducible refine iD 11 (.makeFunc _ _ _) ?_); refine step_makeF _ [.tmp 4] [.pointer (some ⟨g4, 0, none⟩)] rfl gw ?_) | ((with_reducible refine iD 20 (.build 69 _) ?_); refine step_buildZ 69 (.agg ((rqL rqZ).toArray)) (fun w => by kernel_rfl) gw ?_) | ((with_reducible refine iO none (.store 69 (.tmp 2) (.tmp 20)) ?_); refine step_store S 69 (.tmp 2) (.tmp 20) _ _ rfl rfl _ _ pk 40 kR lN lN on1 gw ?_; clear S; intro w S) | fail)
    refine ret_row_tmp rfl g2 69 _ (S.get pk) _ Tryd.underlying69 40 kR lN rfl rfl rfl ?_
    exact ⟨rfl, S.nil⟩
end Go.Proofs.YtfhkmmagpnojmaaDoor

/- How streams are cut, in plain words: portions, frames of encoded requests; decoding of encodings. No program, no condition. -/
namespace Go.Proofs.YtfhkmmagpnojmaaDoor
open Go.RowKit

theorem val_take2 (b : List UInt8) (h : 2 ≤ b.length) : val (b.take 2) = 256 * (b.getD 0 0).toNat + (b.getD 1 0).toNat := by
  match b, h with
  | x :: y :: l, _ => simp [val]; try omega
theorem dcOk_encR (r : Rq) (h : rqV r = true) : dcOk (encR r) = true := by
  obtain ⟨h1, _, h3⟩ := encR_parts r
  unfold dcOk
  rw [refR_encR r h, h, Bool.and_true, decide_eq_true_eq, h1]
  exact ⟨encR_length r, h3⟩
theorem dcE_encR (r : Rq) (h : rqV r = true) : dcE (encR r) = 0 := by
  have hl := encR_length r
  unfold dcE
  rw [if_neg (by omega), if_pos (dcOk_encR r h)]
theorem dcR_encR (r : Rq) (h : rqV r = true) : dcR (encR r) = r := by
  unfold dcR
  rw [if_pos (dcE_encR r h), refR_encR r h]
end Go.Proofs.YtfhkmmagpnojmaaDoor

/- The link of a record after a previous link: the program's Link. No condition but the table of constants and the reach. -/
namespace Go.Proofs.YtfhkmmagpnojmaaDoor
open Go.RowKit

/-- The bytes that a link is the sum of. -/
def lnkB (prev : List UInt8) (t : UInt64) (k : UInt8) (c : I64) (b : List UInt8) : List UInt8 := ((prev ++ numB t.toNat 8) ++ numB k.toNat 1) ++ numB c.v.toNat 2 ++ sumD b
def lnkD (prev : List UInt8) (t : UInt64) (k : UInt8) (c : I64) (b : List UInt8) : List UInt8 := sumD (lnkB prev t k c b)
/-- Whether a tick, a kind and a code are those of a valid record. -/
def lkV (t : UInt64) (k : UInt8) (c : I64) : Bool := rcdV ⟨t, k, c, zs32, rfl⟩
def lnkE (t : UInt64) (k : UInt8) (c : I64) (n : Nat) : Int := if lkV t k c = false then 2 else if 64 < n then 4 else 0
def lnkR (prev : List UInt8) (t : UInt64) (k : UInt8) (c : I64) (b : List UInt8) : List UInt8 := if lnkE t k c b.length = 0 then lnkD prev t k c b else zs32
theorem lnkR_length (prev : List UInt8) (t : UInt64) (k : UInt8) (c : I64) (b : List UInt8) : (lnkR prev t k c b).length = 32 := by
  unfold lnkR
  split
  · exact sumD_length _
  · rfl
theorem sum_go (v : Value) (xs : List UInt8) (w : World) (h : xs.length ≤ 8192) (hv : Bs w v xs) (hK : KT w) :
    Calls Tryd.prog 42 #[v] w fun e w' => e = .returned (.tuple #[.agg (arr8 (sumD xs)), .int .i64 0]) ∧ Has w w' [] := by
  have := sum_s v xs w hv hK
  rwa [smD_eq xs h, show smE xs.length = 0 from if_pos h] at this
theorem build_wr (a : Option Addr) (n c : Nat) (w : World) : (Instr.build 104 #[(0, .slice a n c)]).run Tryd.prog w = .ok (.agg #[.slice a n c]) w := by kernel_rfl
set_option maxRecDepth 100000 in
set_option maxHeartbeats 8000000 in
theorem link_s (prev : List UInt8) (t : UInt64) (k : UInt8) (c : I64) (bv : Value) (b : List UInt8) (w0 : World) (hp : prev.length = 32) (hb : Bs w0 bv b) (hK : KT w0) (hl : b.length ≤ 140737488351232) :
    Calls Tryd.prog 16 #[.agg (arr8 prev), .int .u64 (t.toNat : Int), by8 k, .int .i64 c.v, bv] w0 fun e w' => e = .returned (.tuple #[.agg (arr8 (lnkR prev t k c b)), .int .i64 (lnkE t k c b.length)]) ∧ Has w0 w' [] := by
  have S := Has.start w0
  obtain ⟨a0, c0, rfl, k1, k2⟩ := Sl.shape hb
  unfold maxLen at k2
  have pv := fun w => validRecord_s ⟨t, k, c, zs32, rfl⟩ w
  rw [show rcdV ⟨t, k, c, zs32, rfl⟩ = lkV t k c from rfl] at pv
  cases hv : lkV t k c
  · have hE : lnkE t k c b.length = 2 := if_pos hv
    have hR : lnkR prev t k c b = zs32 := if_neg (by rw [hE]; decide)
    rw [hE, hR]
    rw [hv] at pv
    have PV := Lib.hid pv; have HB := Lib.hid hb; have HK := Lib.hid hK; have HP := Lib.hid hp; clear pv hb hK hp
    clear hE hR hv
    go_enter Tryd.func16, Tryd.ntmps16
    go_wp2_with (first | ((with_reducible refine iD 18 (.build 50 _) ?_); refine step_buildRc3 (.tmp 15) (.tmp 16) (.tmp 17) t k c rfl rfl rfl gw ?_) | ((with_reducible refine iD 5 (.box 22 (.tmp 0)) ?_); refine step_boxA (dst := some 5) S 22 (.tmp 0) _ rfl rfl ?_; clear S; intro g5 w S) | ((with_reducible refine iD 10 (.alloc 22) ?_); refine step_alloc (dst := some 10) S 22 (.agg (arr8 (List.replicate 32 0))) (arr8 (List.replicate 32 0)) kR rfl rfl ?_; clear S; intro g10 w S) | (go_at_call 46; (with_reducible refine (PV.out _).mono ?_); rintro e w1 ⟨rfl, T⟩; replace S := S.call T; clear T; (try simp only [z4, z5] at S)) | ((with_reducible refine iD 21 (.build 22 _) ?_); refine step_buildZ 22 (.agg (arr8 (List.replicate 32 0))) (fun w => by kernel_rfl) rfl ?_) | ((with_reducible refine iO none (.store 22 (.tmp 10) (.tmp 21)) ?_); refine step_store S 22 (.tmp 10) (.tmp 21) _ _ rfl rfl _ _ pk 32 kR lN lN on1 rfl ?_; clear S; intro w S) | fail)
    refine ret_row_tmp rfl g10 22 _ (S.get pk) _ Tryd.underlying22 32 kR lN rfl rfl rfl ?_
    exact ⟨rfl, S.nil⟩
  rw [hv] at pv
  by_cases h64 : 64 < b.length
  · have hE : lnkE t k c b.length = 4 := by unfold lnkE; rw [hv]; exact if_pos h64
    have hR : lnkR prev t k c b = zs32 := if_neg (by rw [hE]; decide)
    rw [hE, hR]
    have i1 : 64 < (b.length : Int) := by omega
    have PV := Lib.hid pv; have HB := Lib.hid hb; have HK := Lib.hid hK; have HP := Lib.hid hp; clear pv hb hK hp
    clear hE hR hv
    go_enter Tryd.func16, Tryd.ntmps16
    go_wp2_with (first | ((with_reducible refine iD 18 (.build 50 _) ?_); refine step_buildRc3 (.tmp 15) (.tmp 16) (.tmp 17) t k c rfl rfl rfl gw ?_) | ((with_reducible refine iD 5 (.box 22 (.tmp 0)) ?_); refine step_boxA (dst := some 5) S 22 (.tmp 0) _ rfl rfl ?_; clear S; intro g5 w S) | ((with_reducible refine iD 10 (.alloc 22) ?_); refine step_alloc (dst := some 10) S 22 (.agg (arr8 (List.replicate 32 0))) (arr8 (List.replicate 32 0)) kR rfl rfl ?_; clear S; intro g10 w S) | (go_at_call 46; (with_reducible refine (PV.out _).mono ?_); rintro e w1 ⟨rfl, T⟩; replace S := S.call T; clear T; (try simp only [z4, z5] at S)) | ((with_reducible refine iD 25 (.build 22 _) ?_); refine step_buildZ 22 (.agg (arr8 (List.replicate 32 0))) (fun w => by kernel_rfl) rfl ?_) | ((with_reducible refine iO none (.store 22 (.tmp 10) (.tmp 25)) ?_); refine step_store S 22 (.tmp 10) (.tmp 25) _ _ rfl rfl _ _ pk 32 kR lN lN on1 rfl ?_; clear S; intro w S) | fail)
    refine ret_row_tmp rfl g10 22 _ (S.get pk) _ Tryd.underlying22 32 kR lN rfl rfl rfl ?_
    exact ⟨rfl, S.nil⟩
  have hE : lnkE t k c b.length = 0 := by unfold lnkE; rw [hv]; exact if_neg h64
  have hR : lnkR prev t k c b = lnkD prev t k c b := if_pos hE
  rw [hE, hR]
  have i1 : ¬ 64 < (b.length : Int) := by omega
  have hcv : 0 ≤ c.v ∧ c.v ≤ 65535 := by
    have : decide (t.toNat ≤ 4611686018427387904 ∧ k.toNat ≤ 6 ∧ 0 ≤ c.v ∧ c.v ≤ 65535) = true := hv
    exact (of_decide_eq_true this).2.2
  obtain ⟨hc0, hc1⟩ := hcv
  have ht := t.toNat_lt
  have hk := k.toNat_lt
  have pcl := fun v w h => clone8_s v prev w h (by omega)
  have ps := fun v w h1 h2 => sum_go v b w (by omega) h1 h2
  obtain ⟨D1, hD1⟩ : ∃ D, D = sumD b := ⟨_, rfl⟩
  have hD1l : D1.length = 32 := by rw [hD1]; exact sumD_length _
  have hbw := build_wr
  have p1 := fun g v w F S => wuint_i (t.toNat : Int) t.toNat rfl 8 8 rfl g v prev w0 w F S (by omega) (by decide) (by omega)
  have l1 : (prev ++ numB t.toNat 8).length = 40 := by simp [numB_length, hp]
  obtain ⟨X1, hX1⟩ : ∃ X, X = prev ++ numB t.toNat 8 := ⟨_, rfl⟩
  rw [← hX1] at p1 l1
  have p2 := fun g v w F S => wuint_i (k.toNat : Int) k.toNat rfl 1 1 rfl g v X1 w0 w F S (by omega) (by decide) (by omega)
  have l2 : (X1 ++ numB k.toNat 1).length = 41 := by simp [numB_length, l1]
  obtain ⟨X2, hX2⟩ : ∃ X, X = X1 ++ numB k.toNat 1 := ⟨_, rfl⟩
  rw [← hX2] at p2 l2
  have p3 := fun g v w F S => wuint_i c.v c.v.toNat (by omega) 2 2 rfl g v X2 w0 w F S (by omega) (by decide) (by omega)
  have l3 : (X2 ++ numB c.v.toNat 2).length = 43 := by simp [numB_length, l2]
  obtain ⟨X3, hX3⟩ : ∃ X, X = X2 ++ numB c.v.toNat 2 := ⟨_, rfl⟩
  rw [← hX3] at p3 l3
  have hL : lnkB prev t k c b = X3 ++ D1 := by unfold lnkB; rw [← hX1, ← hX2, ← hX3, ← hD1]
  have h4 : X3.length + D1.length ≤ 140737488355328 := by omega
  have p4 := fun v w h1 h2 => sum_go v (X3 ++ D1) w (by rw [List.length_append]; omega) h1 h2
  obtain ⟨D2, hD2⟩ : ∃ D, D = sumD (X3 ++ D1) := ⟨_, rfl⟩
  have hLD : lnkD prev t k c b = D2 := by unfold lnkD; rw [hL, hD2]
  have hD2l : D2.length = 32 := by rw [hD2]; exact sumD_length _
  rw [← hD1] at ps
  rw [← hD2] at p4
  rw [hLD]
  have PV := Lib.hid pv; have HB := Lib.hid hb; have HK := Lib.hid hK; have HP := Lib.hid hp; have PCL := Lib.hid pcl; have PS := Lib.hid ps; have P1 := Lib.hid p1; have P2 := Lib.hid p2; have P3 := Lib.hid p3; have P4 := Lib.hid p4; have H4 := Lib.hid h4; have HD1L := Lib.hid hD1l; have HD2L := Lib.hid hD2l; clear pv hb hK hp pcl ps p1 p2 p3 p4 h4 hD1l hD2l
  clear hE hR hv hX1 hX2 hX3 hL hLD hD1 hD2 l1 l2 l3
  go_enter Tryd.func16, Tryd.ntmps16
  go_wp2_with (first | ((with_reducible refine iD 18 (.build 50 _) ?_); refine step_buildRc3 (.tmp 15) (.tmp 16) (.tmp 17) t k c rfl rfl rfl gw ?_) | (go_at_call 48; (with_reducible refine (P1.out g38 (.slice a36 prev.length c36) _ _ (S.pick2 (r := wrt g38 _) (s := row8 _ prev) pk pk)).mono ?_); rintro e w1 ⟨rfl, v1, S1⟩; clear S; have S := S1; clear S1; have _t := P1; clear P1) | (go_at_call 48; (with_reducible refine (P2.out g38 v1 _ _ S).mono ?_); rintro e w1 ⟨rfl, v2, S1⟩; clear S; have S := S1; clear S1; have _t2 := P2; clear P2) | (go_at_call 48; (with_reducible refine (P3.out g38 v2 _ _ S).mono ?_); rintro e w1 ⟨rfl, v3, S1⟩; clear S; have S := S1; clear S1) | ((with_reducible refine iD 5 (.box 22 (.tmp 0)) ?_); refine step_boxA (dst := some 5) S 22 (.tmp 0) _ rfl rfl ?_; clear S; intro g5 w S) | ((with_reducible refine iD 10 (.alloc 22) ?_); refine step_alloc (dst := some 10) S 22 (.agg (arr8 (List.replicate 32 0))) (arr8 (List.replicate 32 0)) kR rfl rfl ?_; clear S; intro g10 w S) | (go_at_call 46; (with_reducible refine (PV.out _).mono ?_); rintro e w1 ⟨rfl, T⟩; replace S := S.call T; clear T; (try simp only [z4, z5] at S)) | (go_at_call 42; (with_reducible refine (PS.out _ _ (S.oldB HB.out) kT).mono ?_); rintro e w1 ⟨rfl, T⟩; replace S := S.call T; clear T; (try simp only [z4, z5] at S)) | ((with_reducible refine iD 12 (.alloc 22) ?_); refine step_alloc (dst := some 12) S 22 (.agg (arr8 (List.replicate 32 0))) (arr8 (List.replicate 32 0)) kR rfl rfl ?_; clear S; intro g12 w S) | ((with_reducible refine iO none (.store 22 (.tmp 12) (.tmp 29)) ?_); refine step_store S 22 (.tmp 12) (.tmp 29) _ _ rfl rfl _ _ pk 32 kR lN lN on1 rfl ?_; clear S; intro w S) | (go_at_call 47; (with_reducible refine (PCL.out _ _ (S.bs_blkN (g := g5) pk HP.out (by decide))).mono ?_); rintro e w1 ⟨v36, rfl, T⟩; replace S := S.call T; clear T; (try simp only [z4, z5] at S); obtain ⟨a36, c36, rfl, _, _⟩ := Sl.shape (S.bs (v := v36) (xs := prev) pk)) | ((with_reducible refine iD 38 (.box 104 (.tmp 37)) ?_); refine step_boxA (dst := some 38) S 104 (.tmp 37) _ rfl rfl ?_; clear S; intro g38 w S) | fail)
  refine wp_relyW (e1 := noRes) 5 (S.pick (r := row8 v3 X3) pk) [sv [] ((.pointer (some ⟨g38, 0, none⟩))), sv [0] (.pointer (some ⟨g38, 0, none⟩)), sv [0, 1] (.pointer (some ⟨g38, 0, none⟩)), sv [0, 1, 2] v3, sv [] (.slice (some ⟨g12, 0, none⟩) 32 32), ⟨[0, 1, 2, 3, 4], [], [], fun _ v => True, fun _ v => [row8 v (X3 ++ D1)]⟩, ⟨[0, 1, 2, 3, 4, 5], [], [5], fun _ v => v = .tuple #[.agg (arr8 D2), .int .i64 0], fun _ v => []⟩, sv [0, 1, 2, 3, 4, 5, 6] (.agg (arr8 D2)), sv [0, 1, 2, 3, 4, 5, 6] (.int .i64 0)] ?A1 ?hA1 kR kR kR [0, 1, 2, 3, 4, 5, 6, 7, 8] kR (of_decide_eq_true rfl) ?hok1 ?fin1
  case hA1 => intro u; simp only [putAll, List.length_cons, List.length_nil, Nat.zero_add, Nat.reduceAdd, dstAt, List.getElem?_toArray, List.getElem?_cons_zero, List.getElem?_cons_succ, Option.bind_some, Act.put, List.setIfInBounds_toArray, List.set_cons_zero, List.set_cons_succ]; rfl
  case hok1 =>
    intro i hi
    obtain rfl | rfl | rfl | rfl | rfl | rfl | rfl | rfl | rfl : i = 0 ∨ i = 1 ∨ i = 2 ∨ i = 3 ∨ i = 4 ∨ i = 5 ∨ i = 6 ∨ i = 7 ∨ i = 8 := by simp only [List.length_cons, List.length_nil, Nat.zero_add, Nat.reduceAdd] at hi; omega
    · rw [if_neg (by decide)]; intro r0; exact oP []
    · rw [if_neg (by decide)]; intro r0; exact oP [0]
    · rw [if_neg (by decide)]; intro r0; exact oP [1]
    · clear hi
      rw [if_neg (by decide)]; intro r0
      refine step_of rfl rfl rfl ?_
      intro u G w hf S
      have f2 : u 2 = .pointer (some ⟨g38, 0, none⟩) := hf 2 (by simp)
      simp only [fl, z4, z5, z6, z7, ptrBlk] at S ⊢
      simp only [f2]
      refine does_load1 25 (.tmp 52) _ _ rfl (S.cell (g := g38) pk rfl) _ Tryd.underlying25 rfl ?_; exact ⟨rfl, S⟩
    · rw [if_neg (by decide)]; intro r0; exact oP []
    · clear hi
      rw [if_pos rfl]
      refine step_ofW rfl rfl rfl ?_
      intro u G w hf S
      have f3 : u 3 = v3 := hf 3 (by simp)
      have f4 : u 4 = .slice (some ⟨g12, 0, none⟩) 32 32 := hf 4 (by simp)
      simp only [fl, z4, z5, z6, z7, ptrBlk] at S ⊢
      simp only [f3, f4]
      refine does_append8 (.tmp 53) (.tmp 54) v3 X3 rfl S _ D1 rfl (S.bs_blkN (g := g12) pk HD1L.out (by decide)) H4.out ?_; intro v' w' S; exact ⟨trivial, S.taken1⟩
    · clear hi
      rw [if_neg (by decide)]; intro r0
      refine step_of rfl rfl rfl ?_
      intro u G w hf S
      simp only [fl, z4, z5, z6, z7, ptrBlk] at S ⊢
      refine does_fn (args := [u 5]) Tryd.func42 kR kR (P4.out _ _ (S.bs (xs := X3 ++ D1) pk) kT) rfl ?_
      rintro e w1 ⟨rfl, T⟩
      exact ⟨_, rfl, rfl, S.call T⟩
    · rw [if_neg (by decide)]; intro r0; exact oP [6]
    · rw [if_neg (by decide)]; intro r0; exact oP [6]
  case fin1 =>
    intro u w hf S
    have hvA := allV hf
    simp only [AllV, RSpec.valAt, sv, Nat.zero_add, Nat.reduceAdd] at hvA
    simp only [fl, z4, z5, z6, z7, ptrBlk] at S
    clear hf
    simp only [List.length_cons, List.length_nil, Nat.zero_add, Nat.reduceAdd, List.drop_succ_cons, List.drop_zero, hvA]
    try simp only [hvA, ptrBlk] at S
    clear hvA
    generalize u 5 = v55 at S ⊢
    go_wp2_with (first | ((with_reducible refine iO none (.store 22 (.tmp 10) (.tmp 57)) ?_); refine step_store S 22 (.tmp 10) (.tmp 57) _ _ rfl rfl _ _ pk 32 kR lN lN on1 rfl ?_; clear S; intro w S) | fail)
    refine ret_row_tmp rfl g10 22 _ (S.get pk) _ Tryd.underlying22 32 kR lN rfl rfl rfl ?_
    exact ⟨rfl, S.nil⟩
end Go.Proofs.YtfhkmmagpnojmaaDoor

/- The link of a record as the specification has it; WireLinks' walk. No condition but the table of constants and the reach. -/
namespace Go.Proofs.YtfhkmmagpnojmaaDoor
open Go.RowKit

theorem eql32 (xs ys : List UInt8) (hx : xs.length = 32) (hy : ys.length = 32) (w' : World) : (binOp .eql 22 (.agg (arr8 xs)) (.agg (arr8 ys))).run Tryd.prog w' = .ok (.bool (decide (xs = ys))) w' := by
  have := eql_bytes (P := Tryd.prog) 22 5 32 Tryd.underlying22 Tryd.underlying5 kR xs ys hx hy w'
  exact this
theorem neq32 (xs ys : List UInt8) (hx : xs.length = 32) (hy : ys.length = 32) (w' : World) : (binOp .neq 22 (.agg (arr8 xs)) (.agg (arr8 ys))).run Tryd.prog w' = .ok (.bool (decide (xs ≠ ys))) w' := by
  have := neq_bytes (P := Tryd.prog) 22 5 32 Tryd.underlying22 Tryd.underlying5 kR xs ys hx hy w'
  simpa [arr8] using this
end Go.Proofs.YtfhkmmagpnojmaaDoor

/- A chain of records: its validity; the program's Verify. No condition but the table of constants and the reach. -/
namespace Go.Proofs.YtfhkmmagpnojmaaDoor
open Go.RowKit

set_option maxRecDepth 100000 in
set_option maxHeartbeats 1000000 in
theorem long_s (v : Value) (b : List UInt8) (w0 : World) (h : Bs w0 v b) : Calls Tryd.prog 52 #[v] w0 fun e w' => e = .returned (.bool (decide (64 < b.length))) ∧ Has w0 w' [] := by
  have S := Has.start w0
  obtain ⟨a0, c0, rfl, k1, k2⟩ := h.shape
  clear h
  have e : decide ((64 : Int) < (b.length : Int)) = decide (64 < b.length) := by rw [Bool.eq_iff_iff, decide_eq_true_eq, decide_eq_true_eq]; omega
  have E := Lib.hid e; clear e
  go_enter Tryd.func52, Tryd.ntmps52
  go_wp2_with (first | fail)
  go_ret
  exact ⟨by rw [← E.out]; rfl, S⟩
end Go.Proofs.YtfhkmmagpnojmaaDoor

/- The program's Verify. No condition but the table of constants and the reach. -/
namespace Go.Proofs.YtfhkmmagpnojmaaDoor
open Go.RowKit

/-- How many records hold, one after another, from a previous link on. -/
def vfN (prev : List UInt8) : List Rcd → List (List UInt8) → Nat
  | x :: xs, b :: bs => if lnkD prev x.tick x.kind x.code b = x.link then 1 + vfN x.link xs bs else 0
  | _, _ => 0
def vfR (prev : List UInt8) (l : List Rcd) (bs : List (List UInt8)) : Nat × Int :=
  if 32 < l.length then (0, 4) else if bs.length ≠ l.length then (0, 2) else if chV l = false then (0, 8) else if (bs.any fun b => decide (64 < b.length)) = true then (0, 4) else (vfN prev l bs, 0)
abbrev cdV (x : Rcd) : Int := x.code.v
theorem vfN_step (L : List UInt8) (l : List Rcd) (bs : List (List UInt8)) (k : Nat) (x : Rcd) (b : List UInt8) (hx : l[k]? = some x) (hb : bs[k]? = some b) :
    vfN L (l.drop k) (bs.drop k) = if lnkD L x.tick x.kind x.code b = x.link then 1 + vfN x.link (l.drop (k + 1)) (bs.drop (k + 1)) else 0 := by
  obtain ⟨h1, rfl⟩ := List.getElem?_eq_some_iff.1 hx
  obtain ⟨h2, rfl⟩ := List.getElem?_eq_some_iff.1 hb
  rw [List.drop_eq_getElem_cons h1, List.drop_eq_getElem_cons h2]
  rfl
set_option maxRecDepth 100000 in
set_option maxHeartbeats 8000000 in
theorem verify_s (prev : List UInt8) (rv fv : Value) (l : List Rcd) (ps : List (Value × List UInt8)) (w0 : World) (hp : prev.length = 32) (hr : Sl w0 35 rv l.length (l.flatMap rcdL)) (hf : Fr w0 fv ps) (hK : KT w0) :
    Calls Tryd.prog 18 #[.agg (arr8 prev), rv, fv] w0 fun e w' => e = .returned (.tuple #[.int .i64 ((vfR prev l (ps.map (·.2))).1 : Int), .int .i64 (vfR prev l (ps.map (·.2))).2]) ∧ Has w0 w' [] := by
  have S := Has.start w0
  obtain ⟨a0, c0, rfl, k1, k2⟩ := Sl.shape hr
  obtain ⟨a1, c1, rfl, k3, k4⟩ := Sl.shape hf.1
  unfold maxLen at k2 k4
  by_cases h1 : 32 < l.length
  · rw [show vfR prev l (ps.map (·.2)) = (0, 4) from if_pos h1]
    have i1 : 32 < (l.length : Int) := by omega
    have HR := Lib.hid hr; have HF := Lib.hid hf; have HK := Lib.hid hK; clear hr hf hK
    go_enter Tryd.func18, Tryd.ntmps18
    go_wp2_with (first | ((with_reducible refine iD 3 (.box 22 (.tmp 0)) ?_); refine step_boxA (dst := some 3) S 22 (.tmp 0) _ rfl gw ?_; clear S; intro g3 w S) | fail)
    go_ret2
    exact ⟨rfl, S.nil⟩
  have i1 : ¬ 32 < (l.length : Int) := by omega
  by_cases h2 : ps.length = l.length
  rotate_left
  · rw [show vfR prev l (ps.map (·.2)) = (0, 2) by unfold vfR; rw [if_neg h1, List.length_map, if_pos h2]]
    have i2 : ((ps.length : Int) == (l.length : Int)) = false := beq_false_of_ne (fun h => h2 (by omega))
    have HR := Lib.hid hr; have HF := Lib.hid hf; have HK := Lib.hid hK; clear hr hf hK
    go_enter Tryd.func18, Tryd.ntmps18
    go_wp2_with (first | ((with_reducible refine iD 3 (.box 22 (.tmp 0)) ?_); refine step_boxA (dst := some 3) S 22 (.tmp 0) _ rfl gw ?_; clear S; intro g3 w S) | fail)
    go_ret2
    exact ⟨rfl, S.nil⟩
  have hbc := build_ch
  have pch := fun n w h => chainV_s n (.slice a0 l.length c0) l w h
  have pco := fun w h => containsF_s (.slice a1 ps.length c1) ps 52 Tryd.f52 (fun x => decide (64 < x.2.length)) w h Tryd.func52 kR kR (fun x _ w h => long_s x.1 x.2 w h)
  cases h3 : chV l with
  | false =>
    rw [show vfR prev l (ps.map (·.2)) = (0, 8) by unfold vfR; rw [if_neg h1, List.length_map, if_neg (by omega), if_pos h3]]
    rw [h3] at pch
    have i2 : ((ps.length : Int) == (l.length : Int)) = true := by rw [h2]; simp
    have HR := Lib.hid hr; have HF := Lib.hid hf; have HK := Lib.hid hK; have PCH := Lib.hid pch; have PCO := Lib.hid pco; have H2 := Lib.hid h2; clear hr hf hK pch pco h2
    go_enter Tryd.func18, Tryd.ntmps18
    go_wp2_with (first | ((with_reducible refine iD 3 (.box 22 (.tmp 0)) ?_); refine step_boxA (dst := some 3) S 22 (.tmp 0) _ rfl gw ?_; clear S; intro g3 w S) | (go_at_call 50; (with_reducible refine (PCH.out _ _ (S.old HR.out)).mono ?_); rintro e w1 ⟨rfl, T⟩; replace S := S.call T; clear T; (try simp only [z4, z5] at S)) | fail)
    go_ret2
    exact ⟨rfl, S.nil⟩
  | true =>
  have h3' := (chV_iff l).1 h3
  rw [h3] at pch
  obtain ⟨P, hP⟩ : ∃ P, P = ps.any fun x => decide (64 < x.2.length) := ⟨_, rfl⟩
  have hP2 : ((ps.map (·.2)).any fun b => decide (64 < b.length)) = P := by rw [hP, List.any_map]; rfl
  rw [← hP] at pco
  cases P with
  | true =>
    rw [show vfR prev l (ps.map (·.2)) = (0, 4) by unfold vfR; rw [if_neg h1, List.length_map, if_neg (by omega), if_neg (by rw [h3]; decide), if_pos hP2]]
    have i2 : ((ps.length : Int) == (l.length : Int)) = true := by rw [h2]; simp
    clear hP hP2 h3
    have HR := Lib.hid hr; have HF := Lib.hid hf; have HK := Lib.hid hK; have PCH := Lib.hid pch; have PCO := Lib.hid pco; have H2 := Lib.hid h2; clear hr hf hK pch pco h2
    go_enter Tryd.func18, Tryd.ntmps18
    go_wp2_with (first | ((with_reducible refine iD 3 (.box 22 (.tmp 0)) ?_); refine step_boxA (dst := some 3) S 22 (.tmp 0) _ rfl gw ?_; clear S; intro g3 w S) | (go_at_call 50; (with_reducible refine (PCH.out _ _ (S.old HR.out)).mono ?_); rintro e w1 ⟨rfl, T⟩; replace S := S.call T; clear T; (try simp only [z4, z5] at S)) | (go_at_call 51; (with_reducible refine (PCO.out _ (S.oldF HF.out)).mono ?_); rintro e w1 ⟨rfl, T⟩; replace S := S.call T; clear T; (try simp only [z4, z5] at S)) | fail)
    go_ret2
    exact ⟨rfl, S.nil⟩
  | false =>
  obtain ⟨N, hN⟩ : ∃ N, N = vfN prev l (ps.map (·.2)) := ⟨_, rfl⟩
  rw [show vfR prev l (ps.map (·.2)) = (N, 0) by unfold vfR; rw [if_neg h1, List.length_map, if_neg (by omega), if_neg (by rw [h3]; decide), if_neg (by rw [hP2]; decide), hN]]
  have i2 : ((ps.length : Int) == (l.length : Int)) = true := by rw [h2]; simp
  have hlen : ∀ p ∈ ps, p.2.length ≤ 64 := fun p hm => by
    have := List.any_eq_false.1 hP.symm p hm
    simp only [decide_eq_true_eq] at this
    omega
  have hval := h3'.2
  have eg : Tryd.prog.eqGuardType Tryd.prog.depth 22 = false := by kernel_rfl
  clear hP hP2 h3 h3'
  have H2 := Lib.hid h2; have HR := Lib.hid hr; have HF := Lib.hid hf; have HK := Lib.hid hK; have PCH := Lib.hid pch; have PCO := Lib.hid pco; have HLEN := Lib.hid hlen; have HVAL := Lib.hid hval; have HN := Lib.hid hN; have HP := Lib.hid hp; clear h2 hr hf hK pch pco hlen hval hN hp
  go_enter Tryd.func18, Tryd.ntmps18
  go_wp2_with (first | ((with_reducible refine iD 3 (.box 22 (.tmp 0)) ?_); refine step_boxA (dst := some 3) S 22 (.tmp 0) _ rfl gw ?_; clear S; intro g3 w S) | (go_at_call 50; (with_reducible refine (PCH.out _ _ (S.old HR.out)).mono ?_); rintro e w1 ⟨rfl, T⟩; replace S := S.call T; clear T; (try simp only [z4, z5] at S)) | (go_at_call 51; (with_reducible refine (PCO.out _ (S.oldF HF.out)).mono ?_); rintro e w1 ⟨rfl, T⟩; replace S := S.call T; clear T; (try simp only [z4, z5] at S)) | fail)
  go_loopw [28] (fun u wr => ∃ (k : Nat) (L : List UInt8), k ≤ l.length ∧ u = .int .i64 (k : Int) ∧ L.length = 32 ∧ N = k + vfN L (l.drop k) ((ps.map (·.2)).drop k) ∧ Has w0 wr [blk g3 (.cells (arr8 L) 22 (0, 0))]) (fun u _ => l.length - (intOf u).toNat)
  case atStart => exact ⟨0, prev, Nat.zero_le _, rfl, HP.out, by rw [HN.out]; simp, S⟩
  case round =>
    clear S
    obtain ⟨k, L, hk, rfl, hL, hn, S⟩ := hrel
    by_cases hlt : k < l.length
    · have hx : l[k]? = some l[k] := List.getElem?_eq_getElem hlt
      have hlt2 : k < ps.length := by rw [H2.out]; exact hlt
      have hy : ps[k]? = some ps[k] := List.getElem?_eq_getElem hlt2
      have hyb : (ps.map (·.2))[k]? = some (ps[k]).2 := by rw [List.getElem?_map, hy]; rfl
      obtain ⟨b, off, rfl, hcell⟩ := HR.out.atA (by omega)
      obtain ⟨b2, off2, rfl, hcell2⟩ := HF.out.1.atA (by omega)
      have hrg := HR.out.elem rcdL_length (by decide) k _ hx
      have hcf := hcell2 k (ps[k]).1 (by rw [List.getElem?_map, hy]; rfl)
      have hm : ps[k] ∈ ps := List.getElem_mem hlt2
      have hbs := HF.out.2 _ hm
      have hl64 := HLEN.out _ hm
      have hv := HVAL.out _ (List.getElem_mem hlt)
      rw [vfN_step L l (ps.map (·.2)) k _ _ hx hyb] at hn
      obtain ⟨x, hxe⟩ : ∃ x, x = l[k] := ⟨_, rfl⟩
      obtain ⟨p, hpe⟩ : ∃ p, p = ps[k] := ⟨_, rfl⟩
      rw [← hxe] at hrg hv hn
      rw [← hpe] at hcf hbs hl64 hn
      have hE0 : lnkE x.tick x.kind x.code p.2.length = 0 := by
        unfold lnkE
        rw [if_neg (by rw [show lkV x.tick x.kind x.code = true from hv]; decide), if_neg (by omega)]
      have pk := fun w h1 h2 => link_s L x.tick x.kind x.code p.1 p.2 w hL h1 h2 (by omega)
      rw [hE0, show lnkR L x.tick x.kind x.code p.2 = lnkD L x.tick x.kind x.code p.2 from if_pos hE0] at pk
      obtain ⟨D, hD⟩ : ∃ D, D = lnkD L x.tick x.kind x.code p.2 := ⟨_, rfl⟩
      have hDl : D.length = 32 := by rw [hD]; exact sumD_length _
      rw [← hD] at hn pk
      have hki : (k : Int) < (l.length : Int) := by omega
      have hki3 : (k : Int) < (ps.length : Int) := by omega
      have hki2 : (k : Int) < 9223372036854775807 := by omega
      have he := fun w' => neq32 D x.link hDl x.len w'
      have hxl := x.len
      by_cases hd : D = x.link
      · rw [if_pos hd] at hn
        have hnx : N = (k + 1) + vfN x.link (l.drop (k + 1)) ((ps.map (·.2)).drop (k + 1)) := by omega
        rw [decide_eq_false (by simpa using hd)] at he
        clear hx hy hyb hcell hcell2 hm hl64 hv hxe hpe hE0 hD hn
        have HRG := Lib.hid hrg; have HCF := Lib.hid hcf; have HBS := Lib.hid hbs; have HDL := Lib.hid hDl; have HNX := Lib.hid hnx; have PK := Lib.hid pk; have HL := Lib.hid hL; have HD := Lib.hid hd; have HXL := Lib.hid hxl; clear hrg hcf hbs hDl hnx pk hL hd hxl
        clear hlt2
        go_upto_region 12 with (first | ((with_reducible refine iO _ (.load 50 _) ?_); first | (refine step_loadR 50 _ _ _ rfl _ (S.old_range hy) _ Tryd.underlying50 rfl 35 kR lN _ rfl gw ?_) | (refine step_loadP S 50 _ _ _ rfl _ _ _ pk 35 _ pT lN _ Tryd.underlying50 rfl kR gw ?_)) | ((with_reducible refine iD 9 (.alloc 50) ?_); refine step_alloc (dst := some 9) S 50 (.agg ((rcdL rcdZ).toArray)) ((rcdL rcdZ).toArray) kR rfl gw ?_; clear S; intro g9 w S) | ((with_reducible refine iO none (.store 50 (.tmp 9) (.tmp 32)) ?_); refine step_store S 50 (.tmp 9) (.tmp 32) _ _ rfl rfl _ _ pk 35 kR lN lN on1 gw ?_; clear S; intro w S) | fail)
        refine wp_rely S [sv [] (.agg (arr8 L)), sv [] (.pointer (some ⟨g9, 0, none⟩)), sv [1] (.int .u64 (x.tick.toNat : Int)), sv [] (.pointer (some ⟨g9, 1, none⟩)), sv [3] (by8 x.kind), sv [] (.pointer (some ⟨g9, 2, none⟩)), sv [5] (.int .i64 (cdV x)), sv [] ((.slice (some ⟨b2, off2, none⟩) ps.length c1)), sv [] ((.int .i64 (k : Int))), sv [7, 8] (.pointer (some ⟨b2, off2 + k, none⟩)), sv [7, 8, 9] p.1, sv [0, 1, 2, 3, 4, 5, 6, 7, 8, 9, 10] (.tuple #[.agg (arr8 D), .int .i64 0]), sv [0, 1, 2, 3, 4, 5, 6, 7, 8, 9, 10, 11] ((.tuple #[.agg (arr8 D), .int .i64 0])), sv [0, 1, 2, 3, 4, 5, 6, 7, 8, 9, 10, 11, 12] (.agg (arr8 D)), sv [0, 1, 2, 3, 4, 5, 6, 7, 8, 9, 10, 11, 12] (.int .i64 0), ⟨[], [], [], fun _ v => ∃ g, v = .pointer (some ⟨g, 0, none⟩), fun _ v => [blk (ptrBlk v) (.cells (arr8 (List.replicate 32 0)) 22 (0, 0))]⟩, ⟨[0, 1, 2, 3, 4, 5, 6, 7, 8, 9, 10, 11, 12, 13, 15], [15], [], fun _ v => True, fun d v => [blk (ptrBlk (d 15)) (.cells ((arr8 D)) 22 (0, 0))]⟩, sv [0, 1, 2, 3, 4, 5, 6, 7, 8, 9, 10, 11, 12, 13, 14, 15, 16] (.int .i64 0)] ?A1 ?hA1 kR kR kR [0, 1, 2, 3, 4, 5, 6, 7, 8, 9, 10, 11, 12, 13, 14, 16, 17] kR ?hok1 ?fin1
        case hA1 => intro u; simp only [putAll, List.length_cons, List.length_nil, Nat.zero_add, Nat.reduceAdd, dstAt, List.getElem?_toArray, List.getElem?_cons_zero, List.getElem?_cons_succ, Option.bind_some, Act.put, List.setIfInBounds_toArray, List.set_cons_zero, List.set_cons_succ]; rfl
        case hok1 =>
          intro i hi
          obtain rfl | rfl | rfl | rfl | rfl | rfl | rfl | rfl | rfl | rfl | rfl | rfl | rfl | rfl | rfl | rfl | rfl | rfl : i = 0 ∨ i = 1 ∨ i = 2 ∨ i = 3 ∨ i = 4 ∨ i = 5 ∨ i = 6 ∨ i = 7 ∨ i = 8 ∨ i = 9 ∨ i = 10 ∨ i = 11 ∨ i = 12 ∨ i = 13 ∨ i = 14 ∨ i = 15 ∨ i = 16 ∨ i = 17 := by simp only [List.length_cons, List.length_nil, Nat.zero_add, Nat.reduceAdd] at hi; omega
          · clear hi
            refine step_of rfl rfl rfl ?_
            intro u G w hf S
            simp only [fl, z4, z5, z6, z7, ptrBlk] at S ⊢
            refine does_load 22 (.tmp 3) g3 rfl _ _ _ (S.get (r := blk g3 _) pk) _ Tryd.underlying22 rfl 32 kR lN ?_; exact ⟨rfl, S⟩
          · exact oP []
          · clear hi
            refine step_of rfl rfl rfl ?_
            intro u G w hf S
            have f1 : u 1 = .pointer (some ⟨g9, 0, none⟩) := hf 1 (by simp)
            simp only [fl, z4, z5, z6, z7, ptrBlk] at S ⊢
            simp only [f1]
            refine does_load1 23 (.tmp 35) _ _ rfl (S.cell (g := g9) pk co) _ Tryd.underlying23 rfl ?_; exact ⟨rfl, S⟩
          · exact oP []
          · clear hi
            refine step_of rfl rfl rfl ?_
            intro u G w hf S
            have f3 : u 3 = .pointer (some ⟨g9, 1, none⟩) := hf 3 (by simp)
            simp only [fl, z4, z5, z6, z7, ptrBlk] at S ⊢
            simp only [f3]
            refine does_load1 5 (.tmp 37) _ _ rfl (S.cell (g := g9) pk co) _ Tryd.underlying5 rfl ?_; exact ⟨rfl, S⟩
          · exact oP []
          · clear hi
            refine step_of rfl rfl rfl ?_
            intro u G w hf S
            have f5 : u 5 = .pointer (some ⟨g9, 2, none⟩) := hf 5 (by simp)
            simp only [fl, z4, z5, z6, z7, ptrBlk] at S ⊢
            simp only [f5]
            refine does_load1 24 (.tmp 39) _ _ rfl (S.cell (g := g9) pk co) _ Tryd.underlying24 rfl ?_; exact ⟨rfl, S⟩
          · exact oP []
          · exact oP []
          · exact oP [7, 8]
          · clear hi
            refine step_of rfl rfl rfl ?_
            intro u G w hf S
            have f9 : u 9 = .pointer (some ⟨b2, off2 + k, none⟩) := hf 9 (by simp)
            simp only [fl, z4, z5, z6, z7, ptrBlk] at S ⊢
            simp only [f9]
            refine does_load1 25 (.tmp 43) _ _ rfl (S.old_cell hy) _ Tryd.underlying25 rfl ?_; exact ⟨rfl, S⟩
          · clear hi
            refine step_of rfl rfl rfl ?_
            intro u G w hf S
            have f0 : u 0 = .agg (arr8 L) := hf 0 (by simp)
            have f2 : u 2 = .int .u64 (x.tick.toNat : Int) := hf 2 (by simp)
            have f4 : u 4 = by8 x.kind := hf 4 (by simp)
            have f6 : u 6 = .int .i64 (cdV x) := hf 6 (by simp)
            have f10 : u 10 = p.1 := hf 10 (by simp)
            simp only [fl, z4, z5, z6, z7, ptrBlk] at S ⊢
            simp only [f0, f2, f4, f6, f10]
            refine does_fn (args := [(.agg (arr8 L)), (.int .u64 (x.tick.toNat : Int)), (by8 x.kind), (.int .i64 (cdV x)), (p.1)]) Tryd.func16 kR kR (PK.out w (S.oldB HBS.out) kT) rfl ?_
            rintro e w1 ⟨rfl, T⟩
            exact ⟨_, rfl, rfl, S.call T⟩
          · exact oP [11]
          · exact oP [12]
          · exact oP [12]
          · clear hi
            refine step_of rfl rfl rfl ?_
            intro u G w hf S
            simp only [fl, z4, z5, z6, z7, ptrBlk] at S ⊢
            refine does_alloc S 22 (.agg (arr8 (List.replicate 32 0))) (arr8 (List.replicate 32 0)) kR rfl ?_; intro g w1 S; exact ⟨⟨g, rfl⟩, S⟩
          · clear hi
            refine step_of rfl rfl rfl ?_
            intro u G w hf S
            have f13 : u 13 = .agg (arr8 D) := hf 13 (by simp)
            have f15 : ∃ g, u 15 = .pointer (some ⟨g, 0, none⟩) := hf 15 (by simp)
            obtain ⟨g10, f15⟩ := f15
            have m15 : mask [0, 1, 2, 3, 4, 5, 6, 7, 8, 9, 10, 11, 12, 13, 15] u 15 = u 15 := rfl
            simp only [fl, z4, z5, z6, z7, m15, ptrBlk] at S ⊢
            simp only [m15, f13, f15] at S ⊢
            try simp only [ptrBlk] at S
            refine does_store S 22 (.tmp 10) (.tmp 46) _ rfl rfl 32 kR lN lN on1 ?_; intro w1 S; exact ⟨trivial, S⟩
          · exact oP [14]
        case fin1 =>
          intro u w hf S
          have f15 : ∃ g, u 15 = .pointer (some ⟨g, 0, none⟩) := hf 15 (by simp)
          obtain ⟨g10, f15⟩ := f15
          have m16_15 : mask [0, 1, 2, 3, 4, 5, 6, 7, 8, 9, 10, 11, 12, 13, 15] u 15 = u 15 := rfl
          have hvA := allV hf
          simp only [AllV, RSpec.valAt, sv, Nat.zero_add, Nat.reduceAdd, m16_15] at hvA
          simp only [fl, z4, z5, z6, z7, m16_15, ptrBlk] at S
          clear hf
          simp only [List.length_cons, List.length_nil, Nat.zero_add, Nat.reduceAdd, List.drop_succ_cons, List.drop_zero, f15, hvA]
          try simp only [f15, hvA, ptrBlk] at S
          clear f15 hvA m16_15
          go_wp2_with (first | ((with_reducible refine iO _ (.load 22 _) ?_); first | (refine step_load S 22 _ _ rfl _ _ _ pk _ Tryd.underlying22 rfl 32 kR lN gw ?_) | (refine step_loadO 22 _ _ rfl _ _ _ (S.old_heap (Hid.out (by assumption))) _ Tryd.underlying22 rfl 32 kR lN gw ?_) | (refine step_loadR 22 _ _ _ rfl _ (S.old_range hy) _ Tryd.underlying22 rfl 32 kR lN _ rfl gw ?_)) | ((with_reducible refine iO _ (.load 22 _) ?_); first | (refine step_loadR 22 _ _ _ rfl _ (S.old_range hy) _ Tryd.underlying22 rfl 32 kR lN _ rfl gw ?_) | (refine step_loadP S 22 _ _ _ rfl _ _ _ pk 32 _ pT lN _ Tryd.underlying22 rfl kR gw ?_)) | ((with_reducible refine iO none (.store 22 (.tmp 3) (.tmp 58)) ?_); refine step_store S 22 (.tmp 3) (.tmp 58) _ _ rfl rfl _ _ pk 32 kR lN lN on1 gw ?_; clear S; intro w S) | fail)
          go_roundw
          case rel =>
            refine ⟨k + 1, D, by omega, by go_num, HDL.out, ?_, S.sub (by repeat (first | exact Sub.nil _ | refine Sub.cons pk ?_))⟩
            rw [HD.out]
            exact HNX.out
          case measure => simp [intOf]; omega
      · rw [if_neg hd] at hn
        rw [decide_eq_true hd] at he
        clear hx hy hyb hcell hcell2 hm hl64 hv hxe hpe hE0 hD
        have hn1 : N = k := by omega
        clear hn
        have HRG := Lib.hid hrg; have HCF := Lib.hid hcf; have HBS := Lib.hid hbs; have HDL := Lib.hid hDl; have HN1 := Lib.hid hn1; have PK := Lib.hid pk; have HL := Lib.hid hL; have HD := Lib.hid hd; have HXL := Lib.hid hxl; clear hrg hcf hbs hDl hn1 pk hL hd hxl
        clear hlt2
        go_upto_region 12 with (first | ((with_reducible refine iO _ (.load 50 _) ?_); first | (refine step_loadR 50 _ _ _ rfl _ (S.old_range hy) _ Tryd.underlying50 rfl 35 kR lN _ rfl gw ?_) | (refine step_loadP S 50 _ _ _ rfl _ _ _ pk 35 _ pT lN _ Tryd.underlying50 rfl kR gw ?_)) | ((with_reducible refine iD 9 (.alloc 50) ?_); refine step_alloc (dst := some 9) S 50 (.agg ((rcdL rcdZ).toArray)) ((rcdL rcdZ).toArray) kR rfl gw ?_; clear S; intro g9 w S) | ((with_reducible refine iO none (.store 50 (.tmp 9) (.tmp 32)) ?_); refine step_store S 50 (.tmp 9) (.tmp 32) _ _ rfl rfl _ _ pk 35 kR lN lN on1 gw ?_; clear S; intro w S) | fail)
        refine wp_rely S [sv [] (.agg (arr8 L)), sv [] (.pointer (some ⟨g9, 0, none⟩)), sv [1] (.int .u64 (x.tick.toNat : Int)), sv [] (.pointer (some ⟨g9, 1, none⟩)), sv [3] (by8 x.kind), sv [] (.pointer (some ⟨g9, 2, none⟩)), sv [5] (.int .i64 (cdV x)), sv [] ((.slice (some ⟨b2, off2, none⟩) ps.length c1)), sv [] ((.int .i64 (k : Int))), sv [7, 8] (.pointer (some ⟨b2, off2 + k, none⟩)), sv [7, 8, 9] p.1, sv [0, 1, 2, 3, 4, 5, 6, 7, 8, 9, 10] (.tuple #[.agg (arr8 D), .int .i64 0]), sv [0, 1, 2, 3, 4, 5, 6, 7, 8, 9, 10, 11] ((.tuple #[.agg (arr8 D), .int .i64 0])), sv [0, 1, 2, 3, 4, 5, 6, 7, 8, 9, 10, 11, 12] (.agg (arr8 D)), sv [0, 1, 2, 3, 4, 5, 6, 7, 8, 9, 10, 11, 12] (.int .i64 0), ⟨[], [], [], fun _ v => ∃ g, v = .pointer (some ⟨g, 0, none⟩), fun _ v => [blk (ptrBlk v) (.cells (arr8 (List.replicate 32 0)) 22 (0, 0))]⟩, ⟨[0, 1, 2, 3, 4, 5, 6, 7, 8, 9, 10, 11, 12, 13, 15], [15], [], fun _ v => True, fun d v => [blk (ptrBlk (d 15)) (.cells ((arr8 D)) 22 (0, 0))]⟩, sv [0, 1, 2, 3, 4, 5, 6, 7, 8, 9, 10, 11, 12, 13, 14, 15, 16] (.int .i64 0)] ?A2 ?hA2 kR kR kR [0, 1, 2, 3, 4, 5, 6, 7, 8, 9, 10, 11, 12, 13, 14, 16, 17] kR ?hok2 ?fin2
        case hA2 => intro u; simp only [putAll, List.length_cons, List.length_nil, Nat.zero_add, Nat.reduceAdd, dstAt, List.getElem?_toArray, List.getElem?_cons_zero, List.getElem?_cons_succ, Option.bind_some, Act.put, List.setIfInBounds_toArray, List.set_cons_zero, List.set_cons_succ]; rfl
        case hok2 =>
          intro i hi
          obtain rfl | rfl | rfl | rfl | rfl | rfl | rfl | rfl | rfl | rfl | rfl | rfl | rfl | rfl | rfl | rfl | rfl | rfl : i = 0 ∨ i = 1 ∨ i = 2 ∨ i = 3 ∨ i = 4 ∨ i = 5 ∨ i = 6 ∨ i = 7 ∨ i = 8 ∨ i = 9 ∨ i = 10 ∨ i = 11 ∨ i = 12 ∨ i = 13 ∨ i = 14 ∨ i = 15 ∨ i = 16 ∨ i = 17 := by simp only [List.length_cons, List.length_nil, Nat.zero_add, Nat.reduceAdd] at hi; omega
          · clear hi
            refine step_of rfl rfl rfl ?_
            intro u G w hf S
            simp only [fl, z4, z5, z6, z7, ptrBlk] at S ⊢
            refine does_load 22 (.tmp 3) g3 rfl _ _ _ (S.get (r := blk g3 _) pk) _ Tryd.underlying22 rfl 32 kR lN ?_; exact ⟨rfl, S⟩
          · exact oP []
          · clear hi
            refine step_of rfl rfl rfl ?_
            intro u G w hf S
            have f1 : u 1 = .pointer (some ⟨g9, 0, none⟩) := hf 1 (by simp)
            simp only [fl, z4, z5, z6, z7, ptrBlk] at S ⊢
            simp only [f1]
            refine does_load1 23 (.tmp 35) _ _ rfl (S.cell (g := g9) pk co) _ Tryd.underlying23 rfl ?_; exact ⟨rfl, S⟩
          · exact oP []
          · clear hi
            refine step_of rfl rfl rfl ?_
            intro u G w hf S
            have f3 : u 3 = .pointer (some ⟨g9, 1, none⟩) := hf 3 (by simp)
            simp only [fl, z4, z5, z6, z7, ptrBlk] at S ⊢
            simp only [f3]
            refine does_load1 5 (.tmp 37) _ _ rfl (S.cell (g := g9) pk co) _ Tryd.underlying5 rfl ?_; exact ⟨rfl, S⟩
          · exact oP []
          · clear hi
            refine step_of rfl rfl rfl ?_
            intro u G w hf S
            have f5 : u 5 = .pointer (some ⟨g9, 2, none⟩) := hf 5 (by simp)
            simp only [fl, z4, z5, z6, z7, ptrBlk] at S ⊢
            simp only [f5]
            refine does_load1 24 (.tmp 39) _ _ rfl (S.cell (g := g9) pk co) _ Tryd.underlying24 rfl ?_; exact ⟨rfl, S⟩
          · exact oP []
          · exact oP []
          · exact oP [7, 8]
          · clear hi
            refine step_of rfl rfl rfl ?_
            intro u G w hf S
            have f9 : u 9 = .pointer (some ⟨b2, off2 + k, none⟩) := hf 9 (by simp)
            simp only [fl, z4, z5, z6, z7, ptrBlk] at S ⊢
            simp only [f9]
            refine does_load1 25 (.tmp 43) _ _ rfl (S.old_cell hy) _ Tryd.underlying25 rfl ?_; exact ⟨rfl, S⟩
          · clear hi
            refine step_of rfl rfl rfl ?_
            intro u G w hf S
            have f0 : u 0 = .agg (arr8 L) := hf 0 (by simp)
            have f2 : u 2 = .int .u64 (x.tick.toNat : Int) := hf 2 (by simp)
            have f4 : u 4 = by8 x.kind := hf 4 (by simp)
            have f6 : u 6 = .int .i64 (cdV x) := hf 6 (by simp)
            have f10 : u 10 = p.1 := hf 10 (by simp)
            simp only [fl, z4, z5, z6, z7, ptrBlk] at S ⊢
            simp only [f0, f2, f4, f6, f10]
            refine does_fn (args := [(.agg (arr8 L)), (.int .u64 (x.tick.toNat : Int)), (by8 x.kind), (.int .i64 (cdV x)), (p.1)]) Tryd.func16 kR kR (PK.out w (S.oldB HBS.out) kT) rfl ?_
            rintro e w1 ⟨rfl, T⟩
            exact ⟨_, rfl, rfl, S.call T⟩
          · exact oP [11]
          · exact oP [12]
          · exact oP [12]
          · clear hi
            refine step_of rfl rfl rfl ?_
            intro u G w hf S
            simp only [fl, z4, z5, z6, z7, ptrBlk] at S ⊢
            refine does_alloc S 22 (.agg (arr8 (List.replicate 32 0))) (arr8 (List.replicate 32 0)) kR rfl ?_; intro g w1 S; exact ⟨⟨g, rfl⟩, S⟩
          · clear hi
            refine step_of rfl rfl rfl ?_
            intro u G w hf S
            have f13 : u 13 = .agg (arr8 D) := hf 13 (by simp)
            have f15 : ∃ g, u 15 = .pointer (some ⟨g, 0, none⟩) := hf 15 (by simp)
            obtain ⟨g10, f15⟩ := f15
            have m15 : mask [0, 1, 2, 3, 4, 5, 6, 7, 8, 9, 10, 11, 12, 13, 15] u 15 = u 15 := rfl
            simp only [fl, z4, z5, z6, z7, m15, ptrBlk] at S ⊢
            simp only [m15, f13, f15] at S ⊢
            try simp only [ptrBlk] at S
            refine does_store S 22 (.tmp 10) (.tmp 46) _ rfl rfl 32 kR lN lN on1 ?_; intro w1 S; exact ⟨trivial, S⟩
          · exact oP [14]
        case fin2 =>
          intro u w hf S
          have f15 : ∃ g, u 15 = .pointer (some ⟨g, 0, none⟩) := hf 15 (by simp)
          obtain ⟨g10, f15⟩ := f15
          have m16_15 : mask [0, 1, 2, 3, 4, 5, 6, 7, 8, 9, 10, 11, 12, 13, 15] u 15 = u 15 := rfl
          have hvA := allV hf
          simp only [AllV, RSpec.valAt, sv, Nat.zero_add, Nat.reduceAdd, m16_15] at hvA
          simp only [fl, z4, z5, z6, z7, m16_15, ptrBlk] at S
          clear hf
          simp only [List.length_cons, List.length_nil, Nat.zero_add, Nat.reduceAdd, List.drop_succ_cons, List.drop_zero, f15, hvA]
          try simp only [f15, hvA, ptrBlk] at S
          clear f15 hvA m16_15
          go_wp2_with (first | ((with_reducible refine iO _ (.load 22 _) ?_); first | (refine step_load S 22 _ _ rfl _ _ _ pk _ Tryd.underlying22 rfl 32 kR lN gw ?_) | (refine step_loadO 22 _ _ rfl _ _ _ (S.old_heap (Hid.out (by assumption))) _ Tryd.underlying22 rfl 32 kR lN gw ?_) | (refine step_loadR 22 _ _ _ rfl _ (S.old_range hy) _ Tryd.underlying22 rfl 32 kR lN _ rfl gw ?_)) | ((with_reducible refine iO _ (.load 22 _) ?_); first | (refine step_loadR 22 _ _ _ rfl _ (S.old_range hy) _ Tryd.underlying22 rfl 32 kR lN _ rfl gw ?_) | (refine step_loadP S 22 _ _ _ rfl _ _ _ pk 32 _ pT lN _ Tryd.underlying22 rfl kR gw ?_)) | fail)
          go_ret2
          exact ⟨by rw [show N = k from HN1.out]; rfl, S.nil⟩
    · obtain rfl : k = l.length := by omega
      have hnN : N = l.length := by
        rw [List.drop_of_length_le (Nat.le_refl _)] at hn
        simpa [vfN] using hn
      have hki : ¬ (l.length : Int) < (l.length : Int) := by omega
      have HNN := Lib.hid hnN; clear hnN
      clear hn
      go_wp2_with (first | fail)
      go_ret2
      exact ⟨by rw [HNN.out]; rfl, S.nil⟩
end Go.Proofs.YtfhkmmagpnojmaaDoor

/- A log in plain words: its cells, its validity, one record more, the records from a number on. No condition. -/
namespace Go.Proofs.YtfhkmmagpnojmaaDoor
open Go.RowKit

/-- A log: its count, the link of its last record, its last records. -/
structure Lg where
  cnt : UInt32
  link : List UInt8
  recs : List Rcd
  len : link.length = 32
def lgZ : Lg := ⟨0, zs32, [], rfl⟩
/-- The cells of a log, its records' slice given. -/
def lgL (g : Lg) (v : Value) : List Value := .int .u32 (g.cnt.toNat : Int) :: (g.link.map by8 ++ [v])
theorem lgL_size (g : Lg) (v : Value) : (lgL g v).toArray.size = 34 := by simp [lgL, g.len]
theorem lgL_one (g : Lg) (v : Value) (h : v.oneCell' = true) : (lgL g v).toArray.all (·.oneCell') = true := by
  rw [Array.all_eq_true']
  intro u hu
  simp only [lgL, List.mem_toArray, List.mem_append, List.mem_cons, List.not_mem_nil, or_false] at hu
  rcases hu with rfl | hu | rfl
  · rfl
  · exact oneCell_u8 _ u hu
  · exact h
theorem lgL_0 (g : Lg) (v : Value) : (lgL g v).toArray[0]? = some (.int .u32 (g.cnt.toNat : Int)) := rfl
theorem lgL_link (g : Lg) (v : Value) : (((lgL g v).toArray.toList.drop 1).take 32).toArray = arr8 g.link := by
  have : (((lgL g v).toArray.toList.drop 1).take 32) = g.link.map by8 := by
    show ((g.link.map by8 ++ [v]).take 32) = _
    rw [List.take_append_of_le_length (by simp [g.len]), List.take_of_length_le (by simp [g.len])]
  rw [this]
  rfl
theorem lgL_33 (g : Lg) (v : Value) : (lgL g v).toArray[33]? = some v := by
  rw [List.getElem?_toArray]
  show (g.link.map by8 ++ [v])[32]? = some v
  rw [List.getElem?_append_right (by simp [g.len])]
  simp [g.len]
/-- The link of the last record, or zeros. -/
def lastK (l : List Rcd) : List UInt8 := match l.getLast? with | some x => x.link | none => zs32
def lgV (g : Lg) : Bool := decide (g.recs.length = min g.cnt.toNat 32) && (chV g.recs && decide (g.link = lastK g.recs))
/-- What a check of a log answers. -/
def lgE (g : Lg) : Int := if lgV g = true then 0 else 8
/-- The error of a record more. -/
def apE (g : Lg) (t : UInt64) (k : UInt8) (c : I64) (n : Nat) : Int :=
  if lgV g = false then 8 else if lnkE t k c n ≠ 0 then lnkE t k c n else if g.cnt.toNat = 4294967295 then 9 else 0
/-- The records kept beside one more. -/
def keepR (l : List Rcd) : List Rcd := l.drop (l.length + 1 - 32)
def newR (g : Lg) (t : UInt64) (k : UInt8) (c : I64) (b : List UInt8) : Rcd := ⟨t, k, c, lnkD g.link t k c b, sumD_length _⟩
def apR (g : Lg) (t : UInt64) (k : UInt8) (c : I64) (b : List UInt8) : Lg :=
  if apE g t k c b.length = 0 then ⟨g.cnt + 1, lnkD g.link t k c b, keepR g.recs ++ [newR g t k c b], sumD_length _⟩ else lgZ
theorem lgV_parts (g : Lg) (h : lgV g = true) : g.recs.length = min g.cnt.toNat 32 ∧ (∀ x ∈ g.recs, rcdV x = true) ∧ g.link = lastK g.recs := by
  simp only [lgV, Bool.and_eq_true, decide_eq_true_eq] at h
  exact ⟨h.1, ((chV_iff _).1 h.2.1).2, h.2.2⟩
end Go.Proofs.YtfhkmmagpnojmaaDoor

/- The program's CheckLog. No condition. -/
namespace Go.Proofs.YtfhkmmagpnojmaaDoor
open Go.RowKit

set_option maxRecDepth 100000 in
set_option maxHeartbeats 8000000 in
/-- A log whose count or whose records are not good. (The rest of the law: under way.) -/
theorem checkLog_bad (g : Lg) (rv : Value) (w0 : World) (hr : Sl w0 35 rv g.recs.length (g.recs.flatMap rcdL)) (hb : chV g.recs = false) :
    Calls Tryd.prog 23 #[.agg (lgL g rv).toArray] w0 fun e w' => e = .returned (.int .i64 8) ∧ Has w0 w' [] := by
  have S := Has.start w0
  obtain ⟨a0, c0, rfl, k1, k2⟩ := Sl.shape hr
  unfold maxLen at k2
  have pch := fun i w h => chainV_s i (.slice a0 g.recs.length c0) g.recs w h
  rw [hb] at pch
  have hbc := build_ch
  have q0 := lgL_0 g (.slice a0 g.recs.length c0)
  have q33 := lgL_33 g (.slice a0 g.recs.length c0)
  have hc := g.cnt.toNat_lt
  obtain ⟨n, hn⟩ : ∃ n, n = g.recs.length := ⟨_, rfl⟩
  obtain ⟨C, hC⟩ : ∃ C, C = g.cnt.toNat := ⟨_, rfl⟩
  rw [← hn] at hr pch q0 q33 k1 ⊢
  rw [← hC] at hc q0
  clear hn hC hb
  have hw : (n : Int) % 18446744073709551616 = (n : Int) := by omega
  by_cases h32 : (C : Int) ≤ 32
  · by_cases hnc : n = C
    · subst hnc
      have HR := Lib.hid hr; have PCH := Lib.hid pch; have HC := Lib.hid hc; have Q0 := Lib.hid q0; have Q33 := Lib.hid q33; clear hr pch hc q0 q33
      go_enter Tryd.func23, Tryd.ntmps23
      go_wp2_with (first | ((with_reducible refine iD 1 (.box 40 (.tmp 0)) ?_); refine step_boxA (dst := some 1) S 40 (.tmp 0) _ rfl gw ?_; clear S; intro g1 w S) | ((with_reducible refine iO _ (.load 31 _) ?_); refine step_load1 31 _ _ _ rfl (cL) _ Tryd.underlying31 rfl gw ?_) | ((with_reducible refine iO _ (.load 38 _) ?_); refine step_load1 38 _ _ _ rfl (cL) _ Tryd.underlying38 rfl gw ?_) | (go_at_call 50; (with_reducible refine (PCH.out _ _ (S.old HR.out)).mono ?_); rintro e w1 ⟨rfl, T⟩; replace S := S.call T; clear T; (try simp only [z4, z5] at S)) | fail)
      go_ret
      exact ⟨rfl, S.nil⟩
    · have i1 : ((n : Int) == (C : Int)) = false := beq_false_of_ne (by omega)
      have HR := Lib.hid hr; have PCH := Lib.hid pch; have HC := Lib.hid hc; have Q0 := Lib.hid q0; have Q33 := Lib.hid q33; have HBC := Lib.hid hbc; clear hr pch hc q0 q33 hbc
      go_enter Tryd.func23, Tryd.ntmps23
      go_wp2_with (first | ((with_reducible refine iD 1 (.box 40 (.tmp 0)) ?_); refine step_boxA (dst := some 1) S 40 (.tmp 0) _ rfl gw ?_; clear S; intro g1 w S) | ((with_reducible refine iO _ (.load 31 _) ?_); refine step_load1 31 _ _ _ rfl (cL) _ Tryd.underlying31 rfl gw ?_) | ((with_reducible refine iO _ (.load 38 _) ?_); refine step_load1 38 _ _ _ rfl (cL) _ Tryd.underlying38 rfl gw ?_) | fail)
      all_goals first
        | (go_ret; exact ⟨rfl, S.nil⟩)
        | (exfalso; omega)
  · have hwC : IntKind.u64.wrap (C : Int) = (C : Int) := by rw [IntKind.wrap_u64]; omega
    by_cases hnc : n = 32
    · subst hnc
      have HR := Lib.hid hr; have PCH := Lib.hid pch; have HC := Lib.hid hc; have Q0 := Lib.hid q0; have Q33 := Lib.hid q33; clear hr pch hc q0 q33
      go_enter Tryd.func23, Tryd.ntmps23
      go_wp2_with (first | ((with_reducible refine iD 1 (.box 40 (.tmp 0)) ?_); refine step_boxA (dst := some 1) S 40 (.tmp 0) _ rfl gw ?_; clear S; intro g1 w S) | ((with_reducible refine iO _ (.load 31 _) ?_); refine step_load1 31 _ _ _ rfl (cL) _ Tryd.underlying31 rfl gw ?_) | ((with_reducible refine iO _ (.load 38 _) ?_); refine step_load1 38 _ _ _ rfl (cL) _ Tryd.underlying38 rfl gw ?_) | (go_at_call 50; (with_reducible refine (PCH.out _ _ (S.old HR.out)).mono ?_); rintro e w1 ⟨rfl, T⟩; replace S := S.call T; clear T; (try simp only [z4, z5] at S)) | fail)
      go_ret
      exact ⟨rfl, S.nil⟩
    · have i1 : ((n : Int) == (32 : Int)) = false := beq_false_of_ne (by omega)
      have HR := Lib.hid hr; have PCH := Lib.hid pch; have HC := Lib.hid hc; have Q0 := Lib.hid q0; have Q33 := Lib.hid q33; have HBC := Lib.hid hbc; clear hr pch hc q0 q33 hbc
      go_enter Tryd.func23, Tryd.ntmps23
      go_wp2_with (first | ((with_reducible refine iD 1 (.box 40 (.tmp 0)) ?_); refine step_boxA (dst := some 1) S 40 (.tmp 0) _ rfl gw ?_; clear S; intro g1 w S) | ((with_reducible refine iO _ (.load 31 _) ?_); refine step_load1 31 _ _ _ rfl (cL) _ Tryd.underlying31 rfl gw ?_) | ((with_reducible refine iO _ (.load 38 _) ?_); refine step_load1 38 _ _ _ rfl (cL) _ Tryd.underlying38 rfl gw ?_) | fail)
      all_goals first
        | (go_ret; exact ⟨rfl, S.nil⟩)
        | (exfalso; omega)
end Go.Proofs.YtfhkmmagpnojmaaDoor

/- The program's CheckLog: logs whose records are good. No condition. -/
namespace Go.Proofs.YtfhkmmagpnojmaaDoor
open Go.RowKit

set_option maxRecDepth 100000 in
set_option maxHeartbeats 8000000 in
/-- The count is wrong. -/
theorem checkLog_mis (g : Lg) (rv : Value) (w0 : World) (hr : Sl w0 35 rv g.recs.length (g.recs.flatMap rcdL)) (hb : g.recs.length ≠ min g.cnt.toNat 32) :
    Calls Tryd.prog 23 #[.agg (lgL g rv).toArray] w0 fun e w' => e = .returned (.int .i64 8) ∧ Has w0 w' [] := by
  have S := Has.start w0
  obtain ⟨a0, c0, rfl, k1, k2⟩ := Sl.shape hr
  unfold maxLen at k2
  have q0 := lgL_0 g (.slice a0 g.recs.length c0)
  have q33 := lgL_33 g (.slice a0 g.recs.length c0)
  have hc := g.cnt.toNat_lt
  obtain ⟨n, hn⟩ : ∃ n, n = g.recs.length := ⟨_, rfl⟩
  obtain ⟨C, hC⟩ : ∃ C, C = g.cnt.toNat := ⟨_, rfl⟩
  rw [← hn] at hr q0 q33 k1 hb ⊢
  rw [← hC] at hc q0 hb
  clear hn hC
  have hw : (n : Int) % 18446744073709551616 = (n : Int) := by omega
  by_cases h32 : (C : Int) ≤ 32
  · have i1 : ((n : Int) == (C : Int)) = false := beq_false_of_ne (by omega)
    have HR := Lib.hid hr; have HC := Lib.hid hc; have Q0 := Lib.hid q0; have Q33 := Lib.hid q33; clear hr hc q0 q33
    go_enter Tryd.func23, Tryd.ntmps23
    go_wp2_with (first | ((with_reducible refine iD 1 (.box 40 (.tmp 0)) ?_); refine step_boxA (dst := some 1) S 40 (.tmp 0) _ rfl gw ?_; clear S; intro g1 w S) | ((with_reducible refine iO _ (.load 31 _) ?_); refine step_load1 31 _ _ _ rfl (cL) _ Tryd.underlying31 rfl gw ?_) | ((with_reducible refine iO _ (.load 38 _) ?_); refine step_load1 38 _ _ _ rfl (cL) _ Tryd.underlying38 rfl gw ?_) | fail)
    all_goals first
      | (go_ret; exact ⟨rfl, S.nil⟩)
      | (exfalso; omega)
  · have hwC : IntKind.u64.wrap (C : Int) = (C : Int) := by rw [IntKind.wrap_u64]; omega
    have i1 : ((n : Int) == (32 : Int)) = false := beq_false_of_ne (by omega)
    have HR := Lib.hid hr; have HC := Lib.hid hc; have Q0 := Lib.hid q0; have Q33 := Lib.hid q33; clear hr hc q0 q33
    go_enter Tryd.func23, Tryd.ntmps23
    go_wp2_with (first | ((with_reducible refine iD 1 (.box 40 (.tmp 0)) ?_); refine step_boxA (dst := some 1) S 40 (.tmp 0) _ rfl gw ?_; clear S; intro g1 w S) | ((with_reducible refine iO _ (.load 31 _) ?_); refine step_load1 31 _ _ _ rfl (cL) _ Tryd.underlying31 rfl gw ?_) | ((with_reducible refine iO _ (.load 38 _) ?_); refine step_load1 38 _ _ _ rfl (cL) _ Tryd.underlying38 rfl gw ?_) | fail)
    all_goals first
      | (go_ret; exact ⟨rfl, S.nil⟩)
      | (exfalso; omega)
set_option maxRecDepth 100000 in
set_option maxHeartbeats 8000000 in
/-- No records, and a count of none. -/
theorem checkLog_nil (g : Lg) (rv : Value) (w0 : World) (hr : Sl w0 35 rv g.recs.length (g.recs.flatMap rcdL)) (h0 : g.recs = []) (hc0 : g.cnt.toNat = 0) :
    Calls Tryd.prog 23 #[.agg (lgL g rv).toArray] w0 fun e w' => e = .returned (.int .i64 (if g.link = zs32 then 0 else 8)) ∧ Has w0 w' [] := by
  have S := Has.start w0
  obtain ⟨a0, c0, rfl, k1, k2⟩ := Sl.shape hr
  unfold maxLen at k2
  have pch := fun i w h => chainV_s i (.slice a0 g.recs.length c0) g.recs w h
  rw [show chV g.recs = true by rw [h0]; rfl] at pch
  have hbc := build_ch
  have q0 := lgL_0 g (.slice a0 g.recs.length c0)
  have q33 := lgL_33 g (.slice a0 g.recs.length c0)
  have qk := lgL_link g (.slice a0 g.recs.length c0)
  have hn : g.recs.length = 0 := by rw [h0]; rfl
  rw [hn] at hr pch q0 q33 qk k1 ⊢
  rw [hc0] at q0
  have he := fun w' => neq32 g.link zs32 g.len rfl w'
  have eg : Tryd.prog.eqGuardType Tryd.prog.depth 22 = false := by kernel_rfl
  have hgl := g.len
  by_cases hd : g.link = zs32
  · rw [if_pos hd]
    rw [decide_eq_false (by simpa using hd)] at he
    clear hn h0 hc0
    have HR := Lib.hid hr; have PCH := Lib.hid pch; have Q0 := Lib.hid q0; have Q33 := Lib.hid q33; have QK := Lib.hid qk; have HD := Lib.hid hd; have HGL := Lib.hid hgl; clear hr pch q0 q33 qk hd hgl
    go_enter Tryd.func23, Tryd.ntmps23
    go_wp2_with (first | ((with_reducible refine iD 33 (.load 22 (.tmp 4)) ?_); refine step_load S 22 (.tmp 4) g4 rfl _ (arr8 zs32) _ pk _ Tryd.underlying22 rfl 32 kR rfl gw ?_) | ((with_reducible refine iD 1 (.box 40 (.tmp 0)) ?_); refine step_boxA (dst := some 1) S 40 (.tmp 0) _ rfl gw ?_; clear S; intro g1 w S) | ((with_reducible refine iO _ (.load 31 _) ?_); refine step_load1 31 _ _ _ rfl (cL) _ Tryd.underlying31 rfl gw ?_) | ((with_reducible refine iO _ (.load 38 _) ?_); refine step_load1 38 _ _ _ rfl (cL) _ Tryd.underlying38 rfl gw ?_) | (go_at_call 50; (with_reducible refine (PCH.out _ _ (S.old HR.out)).mono ?_); rintro e w1 ⟨rfl, T⟩; replace S := S.call T; clear T; (try simp only [z4, z5] at S)) | ((with_reducible refine iD 4 (.alloc 22) ?_); refine step_alloc (dst := some 4) S 22 (.agg (arr8 (List.replicate 32 0))) (arr8 (List.replicate 32 0)) kR rfl gw ?_; clear S; intro g4 w S) | ((with_reducible refine iO _ (.load 22 _) ?_); first | (refine step_loadR 22 _ _ _ rfl _ (S.old_range hy) _ Tryd.underlying22 rfl 32 kR lN _ rfl gw ?_) | (refine step_loadP S 22 _ _ _ rfl _ _ _ pk 32 _ pT lN _ Tryd.underlying22 rfl kR gw ?_)) | fail)
    go_ret
    exact ⟨rfl, S.nil⟩
  · rw [if_neg hd]
    rw [show decide (g.link ≠ zs32) = true by simp only [decide_eq_true_eq]; exact hd] at he
    clear hn h0 hc0
    have HR := Lib.hid hr; have PCH := Lib.hid pch; have Q0 := Lib.hid q0; have Q33 := Lib.hid q33; have QK := Lib.hid qk; have HD := Lib.hid hd; have HGL := Lib.hid hgl; clear hr pch q0 q33 qk hd hgl
    go_enter Tryd.func23, Tryd.ntmps23
    go_wp2_with (first | ((with_reducible refine iD 33 (.load 22 (.tmp 4)) ?_); refine step_load S 22 (.tmp 4) g4 rfl _ (arr8 zs32) _ pk _ Tryd.underlying22 rfl 32 kR rfl gw ?_) | ((with_reducible refine iD 1 (.box 40 (.tmp 0)) ?_); refine step_boxA (dst := some 1) S 40 (.tmp 0) _ rfl gw ?_; clear S; intro g1 w S) | ((with_reducible refine iO _ (.load 31 _) ?_); refine step_load1 31 _ _ _ rfl (cL) _ Tryd.underlying31 rfl gw ?_) | ((with_reducible refine iO _ (.load 38 _) ?_); refine step_load1 38 _ _ _ rfl (cL) _ Tryd.underlying38 rfl gw ?_) | (go_at_call 50; (with_reducible refine (PCH.out _ _ (S.old HR.out)).mono ?_); rintro e w1 ⟨rfl, T⟩; replace S := S.call T; clear T; (try simp only [z4, z5] at S)) | ((with_reducible refine iD 4 (.alloc 22) ?_); refine step_alloc (dst := some 4) S 22 (.agg (arr8 (List.replicate 32 0))) (arr8 (List.replicate 32 0)) kR rfl gw ?_; clear S; intro g4 w S) | ((with_reducible refine iO _ (.load 22 _) ?_); first | (refine step_loadR 22 _ _ _ rfl _ (S.old_range hy) _ Tryd.underlying22 rfl 32 kR lN _ rfl gw ?_) | (refine step_loadP S 22 _ _ _ rfl _ _ _ pk 32 _ pT lN _ Tryd.underlying22 rfl kR gw ?_)) | fail)
    go_ret
    exact ⟨rfl, S.nil⟩
end Go.Proofs.YtfhkmmagpnojmaaDoor

/- The program's CheckLog: a log with records. No condition. -/
namespace Go.Proofs.YtfhkmmagpnojmaaDoor
open Go.RowKit

set_option maxRecDepth 100000 in
set_option maxHeartbeats 8000000 in
theorem checkLog_cons (g : Lg) (m : Nat) (x : Rcd) (rv : Value) (w0 : World) (hr : Sl w0 35 rv g.recs.length (g.recs.flatMap rcdL)) (hn : g.recs.length = m + 1) (hx : g.recs[m]? = some x) (hb : chV g.recs = true) (hc0 : g.cnt.toNat = m + 1) (hm : m < 32) :
    Calls Tryd.prog 23 #[.agg (lgL g rv).toArray] w0 fun e w' => e = .returned (.int .i64 (if g.link = x.link then 0 else 8)) ∧ Has w0 w' [] := by
  have S := Has.start w0
  obtain ⟨a0, c0, rfl, k1, k2⟩ := Sl.shape hr
  unfold maxLen at k2
  obtain ⟨b, off, rfl, hcell⟩ := hr.atA (by omega)
  have hrg := hr.elem rcdL_length (by decide) m x hx
  have hrl : w0.rangeAt b (off + m * 35 + 3) (x.link.map by8) := fun j v hj => by
    have := hrg (j + 3) v hj
    rw [show off + m * 35 + 3 + j = off + m * 35 + (j + 3) by omega]
    exact this
  have hll : (x.link.map by8).length = 32 := by rw [List.length_map]; exact x.len
  have pch := fun i w h => chainV_s i (.slice (some ⟨b, off, none⟩) g.recs.length c0) g.recs w h
  rw [hb] at pch
  have hbc := build_ch
  have q0 := lgL_0 g (.slice (some ⟨b, off, none⟩) g.recs.length c0)
  have q33 := lgL_33 g (.slice (some ⟨b, off, none⟩) g.recs.length c0)
  have qk := lgL_link g (.slice (some ⟨b, off, none⟩) g.recs.length c0)
  rw [hn] at hr pch q0 q33 qk k1 ⊢
  rw [hc0] at q0
  have he := fun w' => neq32 g.link x.link g.len x.len w'
  have eg : Tryd.prog.eqGuardType Tryd.prog.depth 22 = false := by kernel_rfl
  have hgl := g.len
  have hxl := x.len
  have hm2 : (m : Int) < 32 := by omega
  clear hcell hrg hb hn hc0 hx
  by_cases hd : g.link = x.link
  · rw [if_pos hd]
    rw [decide_eq_false (by simpa using hd)] at he
    have HR := Lib.hid hr; have PCH := Lib.hid pch; have Q0 := Lib.hid q0; have Q33 := Lib.hid q33; have QK := Lib.hid qk; have HD := Lib.hid hd; have HGL := Lib.hid hgl; have HXL := Lib.hid hxl; have HRL := Lib.hid hrl; have HLL := Lib.hid hll; clear hr pch q0 q33 qk hd hgl hxl hrl hll
    go_enter Tryd.func23, Tryd.ntmps23
    go_wp2_with (first | ((with_reducible refine iD 1 (.box 40 (.tmp 0)) ?_); refine step_boxA (dst := some 1) S 40 (.tmp 0) _ rfl gw ?_; clear S; intro g1 w S) | ((with_reducible refine iO _ (.load 31 _) ?_); refine step_load1 31 _ _ _ rfl (cL) _ Tryd.underlying31 rfl gw ?_) | ((with_reducible refine iO _ (.load 38 _) ?_); refine step_load1 38 _ _ _ rfl (cL) _ Tryd.underlying38 rfl gw ?_) | (go_at_call 50; (with_reducible refine (PCH.out _ _ (S.old HR.out)).mono ?_); rintro e w1 ⟨rfl, T⟩; replace S := S.call T; clear T; (try simp only [z4, z5] at S)) | ((with_reducible refine iD 4 (.alloc 22) ?_); refine step_alloc (dst := some 4) S 22 (.agg (arr8 (List.replicate 32 0))) (arr8 (List.replicate 32 0)) kR rfl gw ?_; clear S; intro g4 w S) | ((with_reducible refine iO _ (.load 22 _) ?_); first | (refine step_loadR 22 _ _ _ rfl _ (S.old_range hy) _ Tryd.underlying22 rfl 32 kR lN _ rfl gw ?_) | (refine step_loadP S 22 _ _ _ rfl _ _ _ pk 32 _ pT lN _ Tryd.underlying22 rfl kR gw ?_)) | ((with_reducible refine iO none (.store 22 (.tmp 4) (.tmp 30)) ?_); refine step_store S 22 (.tmp 4) (.tmp 30) _ _ rfl rfl _ _ pk 32 kR lN lN on1 gw ?_; clear S; intro w S) | fail)
    go_ret
    exact ⟨rfl, S.nil⟩
  · rw [if_neg hd]
    rw [show decide (g.link ≠ x.link) = true by simp only [decide_eq_true_eq]; exact hd] at he
    have HR := Lib.hid hr; have PCH := Lib.hid pch; have Q0 := Lib.hid q0; have Q33 := Lib.hid q33; have QK := Lib.hid qk; have HD := Lib.hid hd; have HGL := Lib.hid hgl; have HXL := Lib.hid hxl; have HRL := Lib.hid hrl; have HLL := Lib.hid hll; clear hr pch q0 q33 qk hd hgl hxl hrl hll
    go_enter Tryd.func23, Tryd.ntmps23
    go_wp2_with (first | ((with_reducible refine iD 1 (.box 40 (.tmp 0)) ?_); refine step_boxA (dst := some 1) S 40 (.tmp 0) _ rfl gw ?_; clear S; intro g1 w S) | ((with_reducible refine iO _ (.load 31 _) ?_); refine step_load1 31 _ _ _ rfl (cL) _ Tryd.underlying31 rfl gw ?_) | ((with_reducible refine iO _ (.load 38 _) ?_); refine step_load1 38 _ _ _ rfl (cL) _ Tryd.underlying38 rfl gw ?_) | (go_at_call 50; (with_reducible refine (PCH.out _ _ (S.old HR.out)).mono ?_); rintro e w1 ⟨rfl, T⟩; replace S := S.call T; clear T; (try simp only [z4, z5] at S)) | ((with_reducible refine iD 4 (.alloc 22) ?_); refine step_alloc (dst := some 4) S 22 (.agg (arr8 (List.replicate 32 0))) (arr8 (List.replicate 32 0)) kR rfl gw ?_; clear S; intro g4 w S) | ((with_reducible refine iO _ (.load 22 _) ?_); first | (refine step_loadR 22 _ _ _ rfl _ (S.old_range hy) _ Tryd.underlying22 rfl 32 kR lN _ rfl gw ?_) | (refine step_loadP S 22 _ _ _ rfl _ _ _ pk 32 _ pT lN _ Tryd.underlying22 rfl kR gw ?_)) | ((with_reducible refine iO none (.store 22 (.tmp 4) (.tmp 30)) ?_); refine step_store S 22 (.tmp 4) (.tmp 30) _ _ rfl rfl _ _ pk 32 kR lN lN on1 gw ?_; clear S; intro w S) | fail)
    go_ret
    exact ⟨rfl, S.nil⟩
end Go.Proofs.YtfhkmmagpnojmaaDoor

/- The program's CheckLog: a log with all its records kept, and every log. No condition. -/
namespace Go.Proofs.YtfhkmmagpnojmaaDoor
open Go.RowKit

set_option maxRecDepth 100000 in
set_option maxHeartbeats 8000000 in
theorem checkLog_full (g : Lg) (m : Nat) (x : Rcd) (rv : Value) (w0 : World) (hr : Sl w0 35 rv g.recs.length (g.recs.flatMap rcdL)) (hn : g.recs.length = m + 1) (hx : g.recs[m]? = some x) (hb : chV g.recs = true) (hm : m = 31) (hC2 : 32 < g.cnt.toNat) :
    Calls Tryd.prog 23 #[.agg (lgL g rv).toArray] w0 fun e w' => e = .returned (.int .i64 (if g.link = x.link then 0 else 8)) ∧ Has w0 w' [] := by
  subst hm
  have S := Has.start w0
  obtain ⟨a0, c0, rfl, k1, k2⟩ := Sl.shape hr
  unfold maxLen at k2
  obtain ⟨b, off, rfl, hcell⟩ := hr.atA (by omega)
  have hrg := hr.elem rcdL_length (by decide) 31 x hx
  have hrl : w0.rangeAt b (off + 1088) (x.link.map by8) := fun j v hj => by
    have := hrg (j + 3) v hj
    rw [show off + 1088 + j = off + 31 * 35 + (j + 3) by omega]
    exact this
  have hll : (x.link.map by8).length = 32 := by rw [List.length_map]; exact x.len
  have pch := fun i w h => chainV_s i (.slice (some ⟨b, off, none⟩) g.recs.length c0) g.recs w h
  rw [hb] at pch
  have hbc := build_ch
  have q0 := lgL_0 g (.slice (some ⟨b, off, none⟩) g.recs.length c0)
  have q33 := lgL_33 g (.slice (some ⟨b, off, none⟩) g.recs.length c0)
  have qk := lgL_link g (.slice (some ⟨b, off, none⟩) g.recs.length c0)
  rw [hn] at hr pch q0 q33 qk k1 ⊢
  obtain ⟨C, hC⟩ : ∃ C, C = g.cnt.toNat := ⟨_, rfl⟩
  have hc := g.cnt.toNat_lt
  rw [← hC] at q0 hc hC2
  have h32 : ¬ (C : Int) ≤ 32 := by omega
  have hwC : IntKind.u64.wrap (C : Int) = (C : Int) := by rw [IntKind.wrap_u64]; omega
  have he := fun w' => neq32 g.link x.link g.len x.len w'
  have eg : Tryd.prog.eqGuardType Tryd.prog.depth 22 = false := by kernel_rfl
  have hgl := g.len
  have hxl := x.len
  clear hcell hrg hb hn hx hC hC2
  by_cases hd : g.link = x.link
  · rw [if_pos hd]
    rw [decide_eq_false (by simpa using hd)] at he
    have HR := Lib.hid hr; have PCH := Lib.hid pch; have Q0 := Lib.hid q0; have Q33 := Lib.hid q33; have QK := Lib.hid qk; have HD := Lib.hid hd; have HGL := Lib.hid hgl; have HXL := Lib.hid hxl; have HRL := Lib.hid hrl; have HLL := Lib.hid hll; have HC := Lib.hid hc; clear hr pch q0 q33 qk hd hgl hxl hrl hll hc
    go_enter Tryd.func23, Tryd.ntmps23
    go_wp2_with (first | ((with_reducible refine iD 1 (.box 40 (.tmp 0)) ?_); refine step_boxA (dst := some 1) S 40 (.tmp 0) _ rfl gw ?_; clear S; intro g1 w S) | ((with_reducible refine iO _ (.load 31 _) ?_); refine step_load1 31 _ _ _ rfl (cL) _ Tryd.underlying31 rfl gw ?_) | ((with_reducible refine iO _ (.load 38 _) ?_); refine step_load1 38 _ _ _ rfl (cL) _ Tryd.underlying38 rfl gw ?_) | (go_at_call 50; (with_reducible refine (PCH.out _ _ (S.old HR.out)).mono ?_); rintro e w1 ⟨rfl, T⟩; replace S := S.call T; clear T; (try simp only [z4, z5] at S)) | ((with_reducible refine iD 4 (.alloc 22) ?_); refine step_alloc (dst := some 4) S 22 (.agg (arr8 (List.replicate 32 0))) (arr8 (List.replicate 32 0)) kR rfl gw ?_; clear S; intro g4 w S) | ((with_reducible refine iO _ (.load 22 _) ?_); first | (refine step_loadR 22 _ _ _ rfl _ (S.old_range hy) _ Tryd.underlying22 rfl 32 kR lN _ rfl gw ?_) | (refine step_loadP S 22 _ _ _ rfl _ _ _ pk 32 _ pT lN _ Tryd.underlying22 rfl kR gw ?_)) | ((with_reducible refine iO none (.store 22 (.tmp 4) (.tmp 30)) ?_); refine step_store S 22 (.tmp 4) (.tmp 30) _ _ rfl rfl _ _ pk 32 kR lN lN on1 gw ?_; clear S; intro w S) | ((with_reducible refine iO _ (.load 22 _) ?_); first | (refine step_load S 22 _ _ rfl _ _ _ pk _ Tryd.underlying22 rfl 32 kR lN gw ?_) | (refine step_loadO 22 _ _ rfl _ _ _ (S.old_heap (Hid.out (by assumption))) _ Tryd.underlying22 rfl 32 kR lN gw ?_) | (refine step_loadR 22 _ _ _ rfl _ (S.old_range hy) _ Tryd.underlying22 rfl 32 kR lN _ rfl gw ?_)) | fail)
    go_ret
    exact ⟨rfl, S.nil⟩
  · rw [if_neg hd]
    rw [show decide (g.link ≠ x.link) = true by simp only [decide_eq_true_eq]; exact hd] at he
    have HR := Lib.hid hr; have PCH := Lib.hid pch; have Q0 := Lib.hid q0; have Q33 := Lib.hid q33; have QK := Lib.hid qk; have HD := Lib.hid hd; have HGL := Lib.hid hgl; have HXL := Lib.hid hxl; have HRL := Lib.hid hrl; have HLL := Lib.hid hll; have HC := Lib.hid hc; clear hr pch q0 q33 qk hd hgl hxl hrl hll hc
    go_enter Tryd.func23, Tryd.ntmps23
    go_wp2_with (first | ((with_reducible refine iD 1 (.box 40 (.tmp 0)) ?_); refine step_boxA (dst := some 1) S 40 (.tmp 0) _ rfl gw ?_; clear S; intro g1 w S) | ((with_reducible refine iO _ (.load 31 _) ?_); refine step_load1 31 _ _ _ rfl (cL) _ Tryd.underlying31 rfl gw ?_) | ((with_reducible refine iO _ (.load 38 _) ?_); refine step_load1 38 _ _ _ rfl (cL) _ Tryd.underlying38 rfl gw ?_) | (go_at_call 50; (with_reducible refine (PCH.out _ _ (S.old HR.out)).mono ?_); rintro e w1 ⟨rfl, T⟩; replace S := S.call T; clear T; (try simp only [z4, z5] at S)) | ((with_reducible refine iD 4 (.alloc 22) ?_); refine step_alloc (dst := some 4) S 22 (.agg (arr8 (List.replicate 32 0))) (arr8 (List.replicate 32 0)) kR rfl gw ?_; clear S; intro g4 w S) | ((with_reducible refine iO _ (.load 22 _) ?_); first | (refine step_loadR 22 _ _ _ rfl _ (S.old_range hy) _ Tryd.underlying22 rfl 32 kR lN _ rfl gw ?_) | (refine step_loadP S 22 _ _ _ rfl _ _ _ pk 32 _ pT lN _ Tryd.underlying22 rfl kR gw ?_)) | ((with_reducible refine iO none (.store 22 (.tmp 4) (.tmp 30)) ?_); refine step_store S 22 (.tmp 4) (.tmp 30) _ _ rfl rfl _ _ pk 32 kR lN lN on1 gw ?_; clear S; intro w S) | ((with_reducible refine iO _ (.load 22 _) ?_); first | (refine step_load S 22 _ _ rfl _ _ _ pk _ Tryd.underlying22 rfl 32 kR lN gw ?_) | (refine step_loadO 22 _ _ rfl _ _ _ (S.old_heap (Hid.out (by assumption))) _ Tryd.underlying22 rfl 32 kR lN gw ?_) | (refine step_loadR 22 _ _ _ rfl _ (S.old_range hy) _ Tryd.underlying22 rfl 32 kR lN _ rfl gw ?_)) | fail)
    go_ret
    exact ⟨rfl, S.nil⟩
theorem lastK_at (l : List Rcd) (m : Nat) (x : Rcd) (hl : l.length = m + 1) (hx : l[m]? = some x) : lastK l = x.link := by
  unfold lastK
  rw [List.getLast?_eq_getElem?, hl, Nat.add_sub_cancel, hx]
/-- CheckLog of any log. -/
theorem checkLog_s (g : Lg) (rv : Value) (w0 : World) (hr : Sl w0 35 rv g.recs.length (g.recs.flatMap rcdL)) :
    Calls Tryd.prog 23 #[.agg (lgL g rv).toArray] w0 fun e w' => e = .returned (.int .i64 (lgE g)) ∧ Has w0 w' [] := by
  by_cases h1 : g.recs.length = min g.cnt.toNat 32
  · cases hb : chV g.recs with
    | false => rw [show lgE g = 8 by unfold lgE lgV; rw [hb]; simp]; exact checkLog_bad g rv w0 hr hb
    | true =>
      have e : lgE g = if g.link = lastK g.recs then 0 else 8 := by unfold lgE lgV; rw [hb, decide_eq_true h1]; simp
      rw [e]
      rcases Nat.eq_zero_or_pos g.recs.length with h0 | h0
      · have h00 : g.recs = [] := List.eq_nil_of_length_eq_zero h0
        rw [show lastK g.recs = zs32 by rw [h00]; rfl]
        exact checkLog_nil g rv w0 hr h00 (by omega)
      · obtain ⟨m, hm⟩ : ∃ m, g.recs.length = m + 1 := ⟨g.recs.length - 1, by omega⟩
        have hx : g.recs[m]? = some (g.recs[m]'(by omega)) := List.getElem?_eq_getElem _
        rw [lastK_at g.recs m _ hm hx]
        by_cases h2 : g.cnt.toNat ≤ 32
        · exact checkLog_cons g m _ rv w0 hr hm hx hb (by omega) (by omega)
        · exact checkLog_full g m _ rv w0 hr hm hx hb (by omega) (by omega)
  · rw [show lgE g = 8 by unfold lgE lgV; rw [decide_eq_false h1]; simp]
    exact checkLog_mis g rv w0 hr h1
end Go.Proofs.YtfhkmmagpnojmaaDoor
