/- Several texts under one header: what the claim needs of Alv8, LgR, LgS, LgT, LgU. No condition but those that each names. -/
import Derived.Test.YtfhkmmagpnojmaaDoorYE1
import Derived.Test.YtfhkmmagpnojmaaDoorYE6
import Derived.Test.YtfhkmmagpnojmaaDoorYE16
import Derived.Test.YtfhkmmagpnojmaaDoorYE17
import Derived.Test.YtfhkmmagpnojmaaDoorYE9
import Derived.Test.YtfhkmmagpnojmaaDoorYE18
import Derived.Test.YtfhkmmagpnojmaaDoorYE10
set_option linter.unusedSimpArgs false
set_option linter.unusedVariables false

/- The examples that every outright row of wire asks first. No condition but the tables. -/
namespace Go.Proofs.YtfhkmmagpnojmaaDoor
open Go.RowKit

theorem build_rqK (k p q : Int) (w : World) : (Instr.build 69 #[(0, .int .u8 k), (2, .int .u8 p), (3, .int .u8 q)]).run Tryd.prog w = .ok (.agg ([Value.int .u8 k] ++ ([Value.int .u8 0, .int .u8 0, .int .u64 0, .int .u32 0] ++ zs32.map by8) ++ [Value.int .u8 p, .int .u8 q, .int .u32 0]).toArray) w := by kernel_rfl
set_option maxRecDepth 100000 in
/-- A request with a kind, a place and a count. -/
theorem step_buildRqK {ops : Array Oper} {rest : List Oper} {a : Act} {w : World} {Q : Exit → Act → World → Prop} {dst : Option Tmp} {ty : TypeId} {pos : String} {after : Array Edge} {gd : Option (Nat × Bool)} (x y z : Operand) (k p q : UInt8)
    (hx : a.eval x = by8 k) (hy : a.eval y = by8 p) (hz : a.eval z = by8 q)
    (hw : Region.wanted ⟨dst, .build 69 #[(0, x), (2, y), (3, z)], ty, pos, after, gd⟩ (yielded ops a.tmps) = true)
    (h : wpList Tryd.prog ops Q rest (a.put dst (.agg (rqL ⟨k, tokZ, p, q, 0⟩).toArray)) w) : wpList Tryd.prog ops Q (⟨dst, .build 69 #[(0, x), (2, y), (3, z)], ty, pos, after, gd⟩ :: rest) a w := by
  refine step_val (v := .agg (rqL ⟨k, tokZ, p, q, 0⟩).toArray) hw ?_ h
  have hp : (#[(0, x), (2, y), (3, z)].map fun (i, x) => (i, a.eval x)) = #[(0, .int .u8 (k.toNat : Int)), (2, .int .u8 (p.toNat : Int)), (3, .int .u8 (q.toNat : Int))] := by simp [hx, hy, hz]
  have := build_rqK k.toNat p.toNat q.toNat w
  simp only [execOp, hp, Sem.run_bind, this, Result.andThen_ok, Sem.run_pure]
  rfl
theorem build_rpK (k t n : Int) (w : World) : (Instr.build 79 #[(0, .int .u8 k), (2, .int .u64 t), (3, .int .i64 n)]).run Tryd.prog w = .ok (.agg ([Value.int .u8 k, .int .i64 0, .int .u64 t, .int .i64 n, .int .u8 0, .int .u64 0, .slice none 0 0, .int .i64 0, .int .u32 0, .slice none 0 0] ++ ([Value.int .u8 0, .int .u8 0, .int .u64 0, .int .u32 0] ++ zs32.map by8)).toArray) w := by kernel_rfl
def n5 : I64 := ⟨5, by omega⟩
def rp5 : Rp := { rpH 1 i64Z 3 with order := n5 }
theorem build_rp5 (w : World) : (Instr.build 79 #[(0, .int .u8 1), (2, .int .u64 3), (3, .int .i64 5)]).run Tryd.prog w = .ok (.agg (rpL rp5 nilV nilV).toArray) w := build_rpK 1 3 5 w
theorem build_lgZ (w : World) : (Instr.build 40 #[]).run Tryd.prog w = .ok (.agg (lgL lgZ nilV).toArray) w := by kernel_rfl
theorem build_ar32 (w : World) : (Instr.build 22 #[]).run Tryd.prog w = .ok (.agg (arr8 zs32)) w := by kernel_rfl
theorem step_buildRp5 {ops : Array Oper} {rest : List Oper} {a : Act} {w : World} {Q : Exit → Act → World → Prop} {dst : Option Tmp} {ty : TypeId} {pos : String} {after : Array Edge} {gd : Option (Nat × Bool)} (R : Rp) (hr : ∀ w, (Instr.build 79 #[(0, .int .u8 1), (2, .int .u64 3), (3, .int .i64 5)]).run Tryd.prog w = .ok (.agg (rpL R nilV nilV).toArray) w)
    (hw : Region.wanted ⟨dst, .build 79 #[(0, .const (.int .u8 1)), (2, .const (.int .u64 3)), (3, .const (.int .i64 5))], ty, pos, after, gd⟩ (yielded ops a.tmps) = true)
    (h : wpList Tryd.prog ops Q rest (a.put dst (.agg (rpL R nilV nilV).toArray)) w) : wpList Tryd.prog ops Q (⟨dst, .build 79 #[(0, .const (.int .u8 1)), (2, .const (.int .u64 3)), (3, .const (.int .i64 5))], ty, pos, after, gd⟩ :: rest) a w := by
  refine step_val (v := .agg (rpL R nilV nilV).toArray) hw ?_ h
  have hp : (#[(0, Operand.const (.int .u8 1)), (2, Operand.const (.int .u64 3)), (3, Operand.const (.int .i64 5))].map fun (i, x) => (i, a.eval x)) = #[(0, .int .u8 1), (2, .int .u64 3), (3, .int .i64 5)] := by simp [Act.eval]
  simp only [execOp, hp, Sem.run_bind, hr, Result.andThen_ok, Sem.run_pure]
def rq11 : Rq := ⟨1, tokZ, 2, 1, 0⟩
theorem rq11_v : rqV rq11 = true := rfl
theorem newR_all (g : Lg) (t : UInt64) (k : UInt8) (c : I64) (b : List UInt8) : (newR g t k c b).tick = t ∧ (newR g t k c b).kind = k ∧ (newR g t k c b).code = c ∧ (newR g t k c b).link = lnkD g.link t k c b := ⟨rfl, rfl, rfl, rfl⟩
theorem apR_all (g : Lg) (t : UInt64) (k : UInt8) (c : I64) (b : List UInt8) (h : apE g t k c b.length = 0) : (apR g t k c b).cnt = g.cnt + 1 ∧ (apR g t k c b).link = lnkD g.link t k c b ∧ (apR g t k c b).recs = keepR g.recs ++ [newR g t k c b] := by
  unfold apR
  rw [if_pos h]
  exact ⟨rfl, rfl, rfl⟩
theorem vfR_one (L : List UInt8) (x : Rcd) (b : List UInt8) (hv : rcdV x = true) (hb : b.length ≤ 64) (hl : lnkD L x.tick x.kind x.code b = x.link) : vfR L [x] [b] = (1, 0) := by
  have hc : chV [x] = true := by simp [chV, hv]
  have ha : ([b].any fun b => decide (64 < b.length)) = false := by simp; omega
  unfold vfR
  rw [if_neg (by simp), if_neg (by simp), hc, if_neg (by decide), ha, if_neg (by decide)]
  unfold vfN
  rw [hl, if_pos rfl]
  rfl
def fr02 : List UInt8 := [0, 2]
def d02 : List UInt8 := lnkD zs32 4 1 i64Z fr02
theorem d02_len : d02.length = 32 := sumD_length _
theorem d02_ne : d02 ≠ zs32 := by decide +kernel
theorem ap02 : apE lgZ 4 1 i64Z 2 = 0 := by decide
/-- The first record of a log, and the log. -/
structure Log02 (g : Lg) (x : Rcd) : Prop where
  cnt : g.cnt = 1
  link : g.link = d02
  recs : g.recs = [x]
  tick : x.tick = 4
  kind : x.kind = 1
  code : x.code = i64Z
  xl : x.link = d02
  vf : vfR zs32 [x] [fr02] = (1, 0)
theorem log02 : ∃ g x, apR lgZ 4 1 i64Z fr02 = g ∧ Log02 g x := by
  obtain ⟨h1, h2, h3⟩ := apR_all lgZ 4 1 i64Z fr02 ap02
  obtain ⟨g1, g2, g3, g4⟩ := newR_all lgZ 4 1 i64Z fr02
  have hz : lgZ.link = zs32 := rfl
  have hd : lnkD zs32 4 1 i64Z fr02 = d02 := by unfold d02; exact Eq.refl _
  rw [hz, hd] at h2 g4
  rw [show keepR lgZ.recs = [] from rfl, List.nil_append] at h3
  have hv : rcdV (newR lgZ 4 1 i64Z fr02) = true := by unfold rcdV; rw [g1, g2, g3]; decide
  have hl : lnkD zs32 (newR lgZ 4 1 i64Z fr02).tick (newR lgZ 4 1 i64Z fr02).kind (newR lgZ 4 1 i64Z fr02).code fr02 = (newR lgZ 4 1 i64Z fr02).link := by rw [g1, g2, g3, g4, hd]
  exact ⟨_, _, rfl, h1.trans (by decide), h2, h3, g1, g2, g3, g4, vfR_one _ _ _ hv (by decide) hl⟩
set_option maxRecDepth 100000 in
/-- A new slice of three byte slices. -/
theorem step_buildF3 {ops : Array Oper} {rest : List Oper} {a : Act} {w0 w : World} {l : List Res} {Q : Exit → Act → World → Prop} {dst : Option Tmp} {ty : TypeId} {pos : String} {after : Array Edge} {gd : Option (Nat × Bool)} (S : Has w0 w l) (x y z : Operand) (v1 v2 v3 : Value)
    (hx : a.eval x = v1) (hy : a.eval y = v2) (hz : a.eval z = v3) (h1 : v1.cells = #[v1]) (h2 : v2.cells = #[v2]) (h3 : v3.cells = #[v3])
    (hw : Region.wanted ⟨dst, .buildSlice 32 3 #[(0, x), (1, y), (2, z)], ty, pos, after, gd⟩ (yielded ops a.tmps) = true)
    (h : ∀ v' w', Has w0 w' (row v' 25 1 3 [v1, v2, v3] :: l) → wpList Tryd.prog ops Q rest (a.put dst v') w') : wpList Tryd.prog ops Q (⟨dst, .buildSlice 32 3 #[(0, x), (1, y), (2, z)], ty, pos, after, gd⟩ :: rest) a w :=
  step_buildL S 32 25 3 #[(0, x), (1, y), (2, z)] [v1, v2, v3] (.slice none 0 0) Tryd.underlying32 infoF2 rfl (by simp [hx, hy, hz]) rfl (fun u hu => by
    simp only [List.mem_cons, List.not_mem_nil, or_false] at hu
    rcases hu with rfl | rfl | rfl <;> assumption) (by decide) hw h
theorem Sl.rcd0 {w : World} {gr cr : Nat} {x : Rcd} (h : Sl w 35 (.slice (some ⟨gr, 0, none⟩) 1 cr) 1 ([x].flatMap rcdL)) : w.rangeAt gr 0 (rcdL x) := fun j v hj => by
  have := h.cellsAt j v (by simpa using hj)
  by_cases h0 : j = 0
  · subst h0; simpa [Addr.add] using this
  · simpa [Addr.add, h0] using this
theorem rcd_link {w : World} {gr : Nat} {x : Rcd} (h : w.rangeAt gr 0 (rcdL x)) : w.rangeAt gr 3 (x.link.map by8) := fun j v hj => by
  have := h (3 + j) v (by unfold rcdL; rw [List.getElem?_append_right (by simp)]; simpa using hj)
  rw [Nat.zero_add] at this
  exact this
theorem Has.frA {w0 w : World} {l F G : List Res} {v : Value} {ps : List (Value × List UInt8)} (S : Has w0 w l) (h : Pick l (rowF v ps) F) (h2 : Pick l (allF ps) G) : Fr w v ps := ⟨S.sl h, fun p hp => S.piece h2 p hp⟩
theorem fr3 {w : World} {v p q s : Value} {x y z : List UInt8} (h : Sl w 1 v 3 [p, q, s]) (h1 : Bs w p x) (h2 : Bs w q y) (h3 : Bs w s z) : Fr w v [(p, x), (q, y), (s, z)] := by
  refine ⟨h, fun u hu => ?_⟩
  simp only [List.mem_cons, List.not_mem_nil, or_false] at hu
  rcases hu with rfl | rfl | rfl <;> assumption
theorem fr1 {w : World} {v p : Value} {x : List UInt8} (h : Sl w 1 v 1 [p]) (h1 : Bs w p x) : Fr w v [(p, x)] := by
  refine ⟨h, fun u hu => ?_⟩
  simp only [List.mem_cons, List.not_mem_nil, or_false] at hu
  subst hu
  exact h1
theorem split10 : splitB [0, 3, 7, 0, 2, 0, 0, 0, 5, 1] = ([[0, 3, 7], [0, 2], [0, 0]], [0, 5, 1]) := by decide
theorem enc_rq11 : encRE rq11 = encR rq11 := if_pos rq11_v
theorem e_rq11 : rqE rq11 = 0 := if_pos rq11_v
theorem l_rq11 : (encR rq11).length = 51 := by decide
theorem h_rq11 : (encR rq11).take 3 = [0, 51, 1] := by decide
theorem t_rq11 : (encR rq11).drop 49 = [2, 1] := by decide
theorem enc_rp5 : encRp rp5 = [0, 15, 1, 0, 0, 0, 0, 0, 0, 0, 0, 0, 3, 0, 5] := by decide +kernel
theorem e_rp5 : rpE rp5 = 0 := by decide +kernel
theorem dE_rp5 : dpE [0, 15, 1, 0, 0, 0, 0, 0, 0, 0, 0, 0, 3, 0, 5] = 0 := by decide +kernel
theorem dR_rp5 : dpR [0, 15, 1, 0, 0, 0, 0, 0, 0, 0, 0, 0, 3, 0, 5] = rp5 := by decide +kernel
set_option maxRecDepth 100000 in
set_option maxHeartbeats 8000000 in
theorem alive_s (w0 : World) (hK : KT w0) : Calls Tryd.prog 29 #[] w0 fun e w' => e = .returned (.bool true) ∧ Has w0 w' [] := by
  have S := Has.start w0
  have p1 : ∀ v w, Bs w v [0, 3, 7, 0, 2, 0, 0, 0, 5, 1] → Calls Tryd.prog 30 #[v] w (MadeA3 w ([[0, 3, 7], [0, 2], [0, 0]], [0, 5, 1]) 0) := fun v w h => by
    have := split_a v _ w h (by decide)
    rw [split10] at this
    exact this
  have p2 : ∀ w, Calls Tryd.prog 32 #[.agg (rqL rq11).toArray] w (MadeE w (encR rq11) 0) := fun w => by
    have := encodeRequest_s rq11 w
    rw [enc_rq11, e_rq11] at this
    exact this
  have p3 : ∀ v w, Bs w v (encR rq11) → Calls Tryd.prog 34 #[v] w fun e w' => e = .returned (.tuple #[.agg (rqL rq11).toArray, .int .i64 0]) ∧ Has w w' [] := fun v w h => by
    have := decodeRequest_s v (encR rq11) w h (by rw [l_rq11]; decide)
    rw [dcR_encR rq11 rq11_v, dcE_encR rq11 rq11_v] at this
    exact this
  have p4 : ∀ w, Calls Tryd.prog 38 #[.agg (rpL rp5 nilV nilV).toArray] w (MadeE w [0, 15, 1, 0, 0, 0, 0, 0, 0, 0, 0, 0, 3, 0, 5] 0) := fun w => by
    have := encodeReply_s rp5 nilV nilV w (Sl.nil0 w 3) (Sl.nil0 w 35)
    rw [enc_rp5, e_rp5] at this
    exact this
  have p5 : ∀ v w, Bs w v [0, 15, 1, 0, 0, 0, 0, 0, 0, 0, 0, 0, 3, 0, 5] → Calls Tryd.prog 39 #[v] w fun e w' => ∃ vr vc, e = .returned (.tuple #[.agg (rpL rp5 vr vc).toArray, .int .i64 0]) ∧ Has w w' [rowSg vr rp5.robots, rowRc vc rp5.records] := fun v w h => by
    have := decodeReply_s v _ w h (by decide)
    rw [dE_rp5, dR_rp5] at this
    exact this
  obtain ⟨g, x, hg, hL⟩ := log02
  have p6 : ∀ bv w, Bs w bv [0, 2] → KT w → Calls Tryd.prog 21 #[.agg (lgL lgZ nilV).toArray, .int .u64 4, .int .u8 1, .int .i64 0, bv] w (MadeLg w g 0) := fun bv w h hk => by
    have := append_s lgZ nilV 4 1 i64Z bv fr02 w ⟨rfl, .inl ⟨none, rfl, rfl⟩⟩ h hk (by decide)
    rw [hg, show apE lgZ 4 1 i64Z fr02.length = 0 from ap02] at this
    exact this
  have p7 : ∀ rv fv pv w, Sl w 35 rv [x].length ([x].flatMap rcdL) → Fr w fv [(pv, [0, 2])] → KT w → Calls Tryd.prog 18 #[.agg (arr8 zs32), rv, fv] w fun e w' => e = .returned (.tuple #[.int .i64 1, .int .i64 0]) ∧ Has w w' [] := fun rv fv pv w h1 h2 h3 => by
    have := verify_s zs32 rv fv [x] [(pv, [0, 2])] w rfl h1 h2 h3
    rw [show ([(pv, [0, 2])].map (·.2) : List (List UInt8)) = [fr02] from rfl, hL.vf] at this
    exact this
  have q0 : (rqL rq11).toArray[0]? = some (.int .u8 1) := rfl
  have q2 : (rqL rq11).toArray[37]? = some (.int .u8 2) := rfl
  have q3 : (rqL rq11).toArray[38]? = some (.int .u8 1) := rfl
  have r2 : ∀ vr vc, (rpL rp5 vr vc).toArray[2]? = some (.int .u64 3) := fun _ _ => rfl
  have r3 : ∀ vr vc, (rpL rp5 vr vc).toArray[3]? = some (.int .i64 5) := fun _ _ => rfl
  have bz := build_rp5
  have lz := build_lgZ
  have az := build_ar32
  have j1 : ((encR rq11).length : Int) = 51 := by rw [l_rq11]; rfl
  have j2 : 3 ≤ (encR rq11).length := by rw [l_rq11]; decide
  have j3 : 49 ≤ (encR rq11).length := by rw [l_rq11]; decide
  have s1 : ((strB [0, 5, 1]).toList == [0, 5, 1]) = true := by rw [ByteArray.toList_eq, strB_list]; rfl
  have s2 : ((strB ((encR rq11).take 3)).toList == [0, 51, 1]) = true := by rw [ByteArray.toList_eq, strB_list, h_rq11]; rfl
  have s3 : ((strB ((encR rq11).drop 49)).toList == [2, 1]) = true := by rw [ByteArray.toList_eq, strB_list, t_rq11]; rfl
  have s4 : ((strB [0, 15, 1, 0, 0, 0, 0, 0, 0, 0, 0, 0, 3, 0, 5]).toList == [0, 15, 1, 0, 0, 0, 0, 0, 0, 0, 0, 0, 3, 0, 5]) = true := by rw [ByteArray.toList_eq, strB_list]; rfl
  generalize encR rq11 = X at p2 p3 j1 j2 j3 s2 s3
  obtain ⟨Q, hQ⟩ : ∃ Q, Q = rq11 := ⟨_, rfl⟩
  have hQ2 : (rqL ⟨1, tokZ, 2, 1, 0⟩).toArray = (rqL Q).toArray := by rw [hQ]; rfl
  rw [← hQ] at p2 p3 q0 q2 q3
  generalize rp5 = R at p4 p5 r2 r3 bz
  have HK := Lib.hid hK; have P1 := Lib.hid p1; have P2 := Lib.hid p2; have P3 := Lib.hid p3; have P4 := Lib.hid p4; have P5 := Lib.hid p5; have P6 := Lib.hid p6; have P7 := Lib.hid p7; have Q0 := Lib.hid q0; have Q2 := Lib.hid q2; have Q3 := Lib.hid q3; have R2 := Lib.hid r2; have R3 := Lib.hid r3; have J2 := Lib.hid j2; have J3 := Lib.hid j3; have HQ2 := Lib.hid hQ2; have HL := Lib.hid hL; have BZ := Lib.hid bz; have LZ := Lib.hid lz; have AZ := Lib.hid az; clear hK p1 p2 p3 p4 p5 p6 p7 q0 q2 q3 r2 r3 j2 j3 hQ2 hL bz lz az
  clear hg hQ
  go_enter Tryd.func29, Tryd.ntmps29
  go_upto_region 4 with (first | ((with_reducible refine iD 24 (.buildSlice 32 _ _) ?_); refine step_buildF3 S (.tmp 21) (.tmp 22) (.tmp 23) v21 v22 v23 rfl rfl rfl (one_sl (S.sl (v := v21) pk)).2 (one_sl (S.sl (v := v22) pk)).2 (one_sl (S.sl (v := v23) pk)).2 gw ?_; clear S; intro v24 w S) | ((with_reducible refine iD 12 (.buildSlice 25 _ _) ?_); refine step_build8 S 10 _ [0, 3, 7, 0, 2, 0, 0, 0, 5, 1] (by first | rfl | kernel_rfl) rfl (by decide) gw ?_; clear S; intro v12 w S) | (go_at_call 30; (with_reducible refine (P1.out _ _ (S.bs (v := v12) pk)).mono ?_); rintro e w1 ⟨v1, v2, ps, rfl, hps, T⟩; replace S := S.call T; clear T; (try simp only [z4, z5] at S); have HPS := Lib.hid hps; clear hps) | ((with_reducible refine iD 21 (.buildSlice 25 _ _) ?_); refine step_build8 S 3 _ [0, 3, 7] (by first | rfl | kernel_rfl) rfl (by decide) gw ?_; clear S; intro v21 w S) | ((with_reducible refine iD 22 (.buildSlice 25 _ _) ?_); refine step_build8 S 2 _ [0, 2] (by first | rfl | kernel_rfl) rfl (by decide) gw ?_; clear S; intro v22 w S) | ((with_reducible refine iD 23 (.buildSlice 25 _ _) ?_); refine step_build8 S 2 _ [0, 0] (by first | rfl | kernel_rfl) rfl (by decide) gw ?_; clear S; intro v23 w S) | (go_at_call 31; (with_reducible refine (sameF_s _ _ ps [(v21, [0, 3, 7]), (v22, [0, 2]), (v23, [0, 0])] _ (S.frA (v := v1) (ps := ps) pk pk) (fr3 (S.sl (v := v24) pk) (S.bs (v := v21) pk) (S.bs (v := v22) pk) (S.bs (v := v23) pk))).mono ?_); rintro e w1 ⟨rfl, T⟩; replace S := S.call T; clear T; (try simp only [z4, z5] at S); rw [show decide (List.map (fun x => x.snd) ps = List.map (fun x => x.snd) ([(v21, [0, 3, 7]), (v22, [0, 2]), (v23, [0, 0])] : List (Value × List UInt8))) = true from decide_eq_true HPS.out]) | ((with_reducible refine iO _ (.convert 25 9 _) ?_); refine step_conv 25 9 5 _ _ _ rfl Tryd.underlying25 Tryd.underlying5 Tryd.underlying9 bS gw ?_) | fail)
  have S := S.nil
  go_upto_region 8 with (first | ((with_reducible refine iD 34 (.build 69 _) ?_); refine step_buildRqK _ _ _ 1 2 1 rfl rfl rfl gw ?_; rw [HQ2.out]) | ((with_reducible refine iD 53 (.convert 25 9 _) ?_); refine step_conv 25 9 5 (.tmp 52) _ (X.take 3) rfl Tryd.underlying25 Tryd.underlying5 Tryd.underlying9 (Bs.cutH (S.bs (v := .slice a4 X.length c4) pk) 3 J2.out rfl) gw ?_) | ((with_reducible refine iD 59 (.convert 25 9 _) ?_); refine step_conv 25 9 5 (.tmp 58) _ (X.drop 49) rfl Tryd.underlying25 Tryd.underlying5 Tryd.underlying9 (Bs.cutL (S.bs (v := .slice a4 X.length c4) pk) 49 J3.out rfl) gw ?_) | (go_at_call 32; (with_reducible refine (P2.out _).mono ?_); rintro e w1 ⟨v4, rfl, T⟩; replace S := S.call T; clear T; (try simp only [z4, z5] at S); obtain ⟨a4, c4, rfl, _, _⟩ := Sl.shape (S.bs (v := v4) pk)) | (go_at_call 34; (with_reducible refine (P3.out _ _ (S.bs (v := .slice a4 X.length c4) pk)).mono ?_); rintro e w1 ⟨rfl, T⟩; replace S := S.call T; clear T; (try simp only [z4, z5] at S)) | ((with_reducible refine iD 5 (.alloc 69) ?_); refine step_alloc (dst := some 5) S 69 (.agg ((rqL rqZ).toArray)) ((rqL rqZ).toArray) kR rfl gw ?_; clear S; intro g5 w S) | ((with_reducible refine iO none (.store 69 (.tmp 5) (.tmp 41)) ?_); refine step_store S 69 (.tmp 5) (.tmp 41) _ _ rfl rfl _ _ pk 40 kR lN lN on1 gw ?_; clear S; intro w S) | ((with_reducible refine iO _ (.slice 25 _ _ _ _) ?_); refine step_cutH 25 5 1 _ _ _ _ _ _ _ 3 rfl rfl (by first | rfl | omega) (by first | (first | omega | assumption | (exact Hid.out (by assumption)) | (simp only [List.length_append, List.length_cons, List.length_nil]; omega)) | decide) Tryd.underlying25 kR gw ?_) | ((with_reducible refine iO _ (.slice 25 _ _ _ _) ?_); refine step_cutL 25 5 1 _ _ _ _ _ _ _ 49 rfl rfl (by first | rfl | omega) (by first | (first | omega | assumption | (exact Hid.out (by assumption)) | (simp only [List.length_append, List.length_cons, List.length_nil]; omega)) | decide) Tryd.underlying25 kR gw ?_) | ((with_reducible refine iO _ (.load 5 _) ?_); refine step_load1 5 _ _ _ rfl (cL) _ Tryd.underlying5 rfl gw ?_) | fail)
  have S := S.nil
  go_upto_region 12 with (first | ((with_reducible refine iD 82 (.build 79 _) ?_); refine step_buildRp5 R BZ.out gw ?_) | (go_at_call 39; (with_reducible refine (P5.out _ _ (S.bs (v := v7) pk)).mono ?_); rintro e w1 ⟨xr, xc, rfl, T⟩; replace S := S.call T; clear T; (try simp only [z4, z5] at S); have OX := Lib.hid (rpL_one R xr xc (one_sl (S.sl (v := xr) pk)).1 (one_sl (S.sl (v := xc) pk)).1); have R2X := Lib.hid (R2.out xr xc); have R3X := Lib.hid (R3.out xr xc)) | ((with_reducible refine iO none (.store 79 (.tmp 8) (.tmp 89)) ?_); refine step_store S 79 (.tmp 8) (.tmp 89) g8 _ rfl rfl _ _ pk 46 kR (rpL_size _ _ _) (rpL_size _ _ _) OX.out gw ?_; clear S; intro w S) | ((with_reducible refine iO _ (.convert 25 9 _) ?_); refine step_conv 25 9 5 _ _ _ rfl Tryd.underlying25 Tryd.underlying5 Tryd.underlying9 bS gw ?_) | (go_at_call 38; (with_reducible refine (P4.out _).mono ?_); rintro e w1 ⟨v7, rfl, T⟩; replace S := S.call T; clear T; (try simp only [z4, z5] at S)) | ((with_reducible refine iD 8 (.alloc 79) ?_); refine step_alloc (dst := some 8) S 79 (.agg ((rpL rpZ (.slice none 0 0) (.slice none 0 0)).toArray)) ((rpL rpZ (.slice none 0 0) (.slice none 0 0)).toArray) kR rfl gw ?_; clear S; intro g8 w S) | ((with_reducible refine iO _ (.load 3 _) ?_); refine step_load1 3 _ _ _ rfl (cL) _ Tryd.underlying3 rfl gw ?_) | ((with_reducible refine iO _ (.load 23 _) ?_); refine step_load1 23 _ _ _ rfl (cL) _ Tryd.underlying23 rfl gw ?_) | fail)
  have S := S.nil
  obtain ⟨e1, e2, e3, k1, k2, k3, k4, _⟩ := HL.out
  have l0 : ∀ rv, (lgL g rv).toArray[0]? = some (.int .u32 1) := fun rv => by rw [lgL_0, e1]; rfl
  have l33 : ∀ rv, (lgL g rv).toArray[33]? = some rv := lgL_33 g
  have lk : ∀ rv, (((lgL g rv).toArray.toList.drop 1).take 32).toArray = arr8 d02 := fun rv => by rw [lgL_link, e2]
  have L0 := Lib.hid l0; have L33 := Lib.hid l33; have LK := Lib.hid lk; have E3 := Lib.hid e3; have K1 := Lib.hid k1; have K2 := Lib.hid k2; have K3 := Lib.hid k3; have K4 := Lib.hid k4; clear l0 l33 lk e3 k1 k2 k3 k4
  clear e1 e2
  go_upto_region 14 with (first | ((with_reducible refine iO none (.store 40 (.tmp 9) (.tmp 116)) ?_); refine step_store S 40 (.tmp 9) (.tmp 116) _ _ rfl rfl _ _ pk 34 kR (lgL_size _ _) (lgL_size _ _) (lgL_one _ _ (one_sl (S.sl (v := rv) pk)).1) gw ?_; clear S; intro w S) | ((with_reducible refine iD 113 (.build 40 _) ?_); refine step_buildZ 40 _ LZ.out gw ?_) | ((with_reducible refine iD 119 (.build 22 _) ?_); refine step_buildZ 22 _ AZ.out gw ?_) | ((with_reducible refine iD 123 (.buildSlice 32 _ _) ?_); refine step_buildF1 S (.tmp 122) v122 rfl (one_sl (S.sl (v := v122) pk)).2 gw ?_; clear S; intro v123 w S) | ((with_reducible refine iD 121 (.load 31 _) ?_); refine step_load1 31 (.tmp 120) _ rv rfl (S.cell (g := g9) pk (L33.out rv)) _ Tryd.underlying31 rfl gw ?_) | ((with_reducible refine iD 114 (.buildSlice 25 _ _) ?_); refine step_build8 S 2 _ [0, 2] (by first | rfl | kernel_rfl) rfl (by decide) gw ?_; clear S; intro v114 w S) | (go_at_call 21; (with_reducible refine (P6.out _ _ (S.bs (v := v114) pk) kT).mono ?_); rintro e w1 ⟨rv, rfl, T⟩; replace S := S.call T; clear T; (try simp only [z4, z5] at S); rw [E3.out] at S) | ((with_reducible refine iD 9 (.alloc 40) ?_); refine step_alloc (dst := some 9) S 40 (.agg ((lgL lgZ (.slice none 0 0)).toArray)) ((lgL lgZ (.slice none 0 0)).toArray) kR rfl gw ?_; clear S; intro g9 w S) | ((with_reducible refine iD 122 (.buildSlice 25 _ _) ?_); refine step_build8 S 2 _ [0, 2] (by first | rfl | kernel_rfl) rfl (by decide) gw ?_; clear S; intro v122 w S) | (go_at_call 18; (with_reducible refine (P7.out rv v123 v122 _ (S.sl (v := rv) pk) (fr1 (S.sl (v := v123) pk) (S.bs (v := v122) pk)) kT).mono ?_); rintro e w1 ⟨rfl, T⟩; replace S := S.call T; clear T; (try simp only [z4, z5] at S)) | fail)
  have S := S.sub (show Sub _ [blk g9 (.cells (lgL g rv).toArray 40 (0, 0)), rowRc rv [x]] from (by repeat (first | exact Sub.nil _ | refine Sub.cons pk ?_)))
  obtain ⟨gr, cr, rfl, _⟩ := S.row_at (v := rv) pk (by simp)
  have S : Has w0 w1 [blk g9 (.cells (lgL g (.slice (some ⟨gr, 0, none⟩) 1 cr)).toArray 40 (0, 0)), rowRc (.slice (some ⟨gr, 0, none⟩) 1 cr) [x]] := S
  have k0 : ∀ w, Sl w 35 (.slice (some ⟨gr, 0, none⟩) 1 cr) 1 ([x].flatMap rcdL) → w.cell? ⟨gr, 0, none⟩ = some (.int .u64 4) := fun w h => by
    have := h.rcd0 0 _ (rcdL_0 x)
    rw [K1.out] at this
    exact this
  have k1 : ∀ w, Sl w 35 (.slice (some ⟨gr, 0, none⟩) 1 cr) 1 ([x].flatMap rcdL) → w.cell? ⟨gr, 1, none⟩ = some (.int .u8 1) := fun w h => by
    have := h.rcd0 1 _ (rcdL_1 x)
    rw [K2.out] at this
    exact this
  have k3 : ∀ w, Sl w 35 (.slice (some ⟨gr, 0, none⟩) 1 cr) 1 ([x].flatMap rcdL) → w.rangeAt gr 3 (d02.map by8) := fun w h => by
    have := rcd_link h.rcd0
    rw [K4.out] at this
    exact this
  have q1 : ∀ w, (binOp .eql 22 (.agg (arr8 d02)) (.agg (arr8 d02))).run Tryd.prog w = .ok (.bool true) w := fun w => by rw [eql32 _ _ d02_len d02_len, decide_eq_true rfl]
  have q4 : ∀ w, (binOp .neq 22 (.agg (arr8 d02)) (.agg (arr8 zs32))).run Tryd.prog w = .ok (.bool true) w := fun w => by rw [neq32 _ _ d02_len rfl, decide_eq_true d02_ne]
  have eg : Tryd.prog.eqGuardType Tryd.prog.depth 22 = false := by kernel_rfl
  have az := AZ.out
  have m0 := L0.out (.slice (some ⟨gr, 0, none⟩) 1 cr)
  have m33 := L33.out (.slice (some ⟨gr, 0, none⟩) 1 cr)
  have ms := lgL_size g (.slice (some ⟨gr, 0, none⟩) 1 cr)
  obtain ⟨C, hC⟩ : ∃ C, C = (lgL g (.slice (some ⟨gr, 0, none⟩) 1 cr)).toArray := ⟨_, rfl⟩
  have mk : ((C.toList.drop 1).take 32).toArray = arr8 d02 := by rw [hC]; exact LK.out _
  rw [← hC] at S m0 m33 ms
  clear hC
  have hdl := d02_len
  have K0 := Lib.hid k0; have K1 := Lib.hid k1; have K3 := Lib.hid k3; have M0 := Lib.hid m0; have M33 := Lib.hid m33; have MK := Lib.hid mk; have MS := Lib.hid ms; have HDL := Lib.hid hdl; clear k0 k1 k3 m0 m33 mk ms hdl
  refine wp_rely S [sv [] (.int .i64 0), sv [0] (.bool true), sv [0, 1] (.bool true), sv [0, 1, 2] (.pointer (some ⟨g9, 0, none⟩)), sv [0, 1, 2, 3] (.int .u32 1), sv [0, 1, 2, 3, 4] (.bool true), sv [0, 1, 2, 3, 4, 5] (.bool true), sv [0, 1, 2, 3, 4, 5, 6] (.bool true), sv [0, 1, 2, 3, 4, 5, 6, 7] (.pointer (some ⟨g9, 33, none⟩)), sv [0, 1, 2, 3, 4, 5, 6, 7, 8] (.slice (some ⟨gr, 0, none⟩) 1 cr), sv [0, 1, 2, 3, 4, 5, 6, 7, 8, 9] (.int .i64 1), sv [0, 1, 2, 3, 4, 5, 6, 7, 8, 9, 10] (.bool true), sv [0, 1, 2, 3, 4, 5, 6, 7, 8, 9, 10, 11] (.bool true), sv [0, 1, 2, 3, 4, 5, 6, 7, 8, 9, 10, 11, 12] (.bool true), sv [0, 1, 2, 3, 4, 5, 6, 7, 8, 9, 10, 11, 12, 13] (.pointer (some ⟨g9, 33, none⟩)), sv [0, 1, 2, 3, 4, 5, 6, 7, 8, 9, 10, 11, 12, 13, 14] (.slice (some ⟨gr, 0, none⟩) 1 cr), sv [0, 1, 2, 3, 4, 5, 6, 7, 8, 9, 10, 11, 12, 13, 14, 15] (.pointer (some ⟨gr, 0, none⟩)), sv [0, 1, 2, 3, 4, 5, 6, 7, 8, 9, 10, 11, 12, 13, 14, 15, 16] (.pointer (some ⟨gr, 0, none⟩)), sv [0, 1, 2, 3, 4, 5, 6, 7, 8, 9, 10, 11, 12, 13, 14, 15, 16, 17] (.int .u64 4), sv [0, 1, 2, 3, 4, 5, 6, 7, 8, 9, 10, 11, 12, 13, 14, 15, 16, 17, 18] (.bool true), sv [0, 1, 2, 3, 4, 5, 6, 7, 8, 9, 10, 11, 12, 13, 14, 15, 16, 17, 18, 19] (.bool true), sv [0, 1, 2, 3, 4, 5, 6, 7, 8, 9, 10, 11, 12, 13, 14, 15, 16, 17, 18, 19, 20] (.bool true), sv [0, 1, 2, 3, 4, 5, 6, 7, 8, 9, 10, 11, 12, 13, 14, 15, 16, 17, 18, 19, 20, 21] (.pointer (some ⟨g9, 33, none⟩)), sv [0, 1, 2, 3, 4, 5, 6, 7, 8, 9, 10, 11, 12, 13, 14, 15, 16, 17, 18, 19, 20, 21, 22] (.slice (some ⟨gr, 0, none⟩) 1 cr), sv [0, 1, 2, 3, 4, 5, 6, 7, 8, 9, 10, 11, 12, 13, 14, 15, 16, 17, 18, 19, 20, 21, 22, 23] (.pointer (some ⟨gr, 0, none⟩)), sv [0, 1, 2, 3, 4, 5, 6, 7, 8, 9, 10, 11, 12, 13, 14, 15, 16, 17, 18, 19, 20, 21, 22, 23, 24] (.pointer (some ⟨gr, 1, none⟩)), sv [0, 1, 2, 3, 4, 5, 6, 7, 8, 9, 10, 11, 12, 13, 14, 15, 16, 17, 18, 19, 20, 21, 22, 23, 24, 25] (.int .u8 1), sv [0, 1, 2, 3, 4, 5, 6, 7, 8, 9, 10, 11, 12, 13, 14, 15, 16, 17, 18, 19, 20, 21, 22, 23, 24, 25, 26] (.bool true), sv [0, 1, 2, 3, 4, 5, 6, 7, 8, 9, 10, 11, 12, 13, 14, 15, 16, 17, 18, 19, 20, 21, 22, 23, 24, 25, 26, 27] (.bool true), sv [0, 1, 2, 3, 4, 5, 6, 7, 8, 9, 10, 11, 12, 13, 14, 15, 16, 17, 18, 19, 20, 21, 22, 23, 24, 25, 26, 27, 28] (.bool true), sv [0, 1, 2, 3, 4, 5, 6, 7, 8, 9, 10, 11, 12, 13, 14, 15, 16, 17, 18, 19, 20, 21, 22, 23, 24, 25, 26, 27, 28, 29] (.pointer (some ⟨g9, 1, none⟩)), sv [0, 1, 2, 3, 4, 5, 6, 7, 8, 9, 10, 11, 12, 13, 14, 15, 16, 17, 18, 19, 20, 21, 22, 23, 24, 25, 26, 27, 28, 29, 30] (.agg (arr8 d02)), sv [0, 1, 2, 3, 4, 5, 6, 7, 8, 9, 10, 11, 12, 13, 14, 15, 16, 17, 18, 19, 20, 21, 22, 23, 24, 25, 26, 27, 28, 29] (.pointer (some ⟨g9, 33, none⟩)), sv [0, 1, 2, 3, 4, 5, 6, 7, 8, 9, 10, 11, 12, 13, 14, 15, 16, 17, 18, 19, 20, 21, 22, 23, 24, 25, 26, 27, 28, 29, 32] (.slice (some ⟨gr, 0, none⟩) 1 cr), sv [0, 1, 2, 3, 4, 5, 6, 7, 8, 9, 10, 11, 12, 13, 14, 15, 16, 17, 18, 19, 20, 21, 22, 23, 24, 25, 26, 27, 28, 29, 32, 33] (.pointer (some ⟨gr, 0, none⟩)), sv [0, 1, 2, 3, 4, 5, 6, 7, 8, 9, 10, 11, 12, 13, 14, 15, 16, 17, 18, 19, 20, 21, 22, 23, 24, 25, 26, 27, 28, 29, 32, 33, 34] (.pointer (some ⟨gr, 3, none⟩)), sv [0, 1, 2, 3, 4, 5, 6, 7, 8, 9, 10, 11, 12, 13, 14, 15, 16, 17, 18, 19, 20, 21, 22, 23, 24, 25, 26, 27, 28, 29, 32, 33, 34, 35] (.agg (arr8 d02)), sv [0, 1, 2, 3, 4, 5, 6, 7, 8, 9, 10, 11, 12, 13, 14, 15, 16, 17, 18, 19, 20, 21, 22, 23, 24, 25, 26, 27, 28, 29, 30, 31, 32, 33, 34, 35, 36] (.bool true), sv [0, 1, 2, 3, 4, 5, 6, 7, 8, 9, 10, 11, 12, 13, 14, 15, 16, 17, 18, 19, 20, 21, 22, 23, 24, 25, 26, 27, 28, 29, 30, 31, 32, 33, 34, 35, 36, 37] (.bool true), sv [0, 1, 2, 3, 4, 5, 6, 7, 8, 9, 10, 11, 12, 13, 14, 15, 16, 17, 18, 19, 20, 21, 22, 23, 24, 25, 26, 27, 28, 29, 30, 31, 32, 33, 34, 35, 36, 37, 38] (.bool true), sv [0, 1, 2, 3, 4, 5, 6, 7, 8, 9, 10, 11, 12, 13, 14, 15, 16, 17, 18, 19, 20, 21, 22, 23, 24, 25, 26, 27, 28, 29, 30, 31, 32, 33, 34, 35, 36, 37, 38, 39] (.pointer (some ⟨g9, 1, none⟩)), sv [0, 1, 2, 3, 4, 5, 6, 7, 8, 9, 10, 11, 12, 13, 14, 15, 16, 17, 18, 19, 20, 21, 22, 23, 24, 25, 26, 27, 28, 29, 30, 31, 32, 33, 34, 35, 36, 37, 38, 39, 40] (.agg (arr8 d02)), sv [0, 1, 2, 3, 4, 5, 6, 7, 8, 9, 10, 11, 12, 13, 14, 15, 16, 17, 18, 19, 20, 21, 22, 23, 24, 25, 26, 27, 28, 29, 30, 31, 32, 33, 34, 35, 36, 37, 38, 39] (.agg (arr8 zs32)), sv [0, 1, 2, 3, 4, 5, 6, 7, 8, 9, 10, 11, 12, 13, 14, 15, 16, 17, 18, 19, 20, 21, 22, 23, 24, 25, 26, 27, 28, 29, 30, 31, 32, 33, 34, 35, 36, 37, 38, 39, 40, 41, 42] (.bool true), sv [0, 1, 2, 3, 4, 5, 6, 7, 8, 9, 10, 11, 12, 13, 14, 15, 16, 17, 18, 19, 20, 21, 22, 23, 24, 25, 26, 27, 28, 29, 30, 31, 32, 33, 34, 35, 36, 37, 38, 39, 40, 41, 42, 43] (.bool true), sv [0, 1, 2, 3, 4, 5, 6, 7, 8, 9, 10, 11, 12, 13, 14, 15, 16, 17, 18, 19, 20, 21, 22, 23, 24, 25, 26, 27, 28, 29, 30, 31, 32, 33, 34, 35, 36, 37, 38, 39, 40, 41, 42, 43, 44] (.bool true), sv [0, 1, 2, 3, 4, 5, 6, 7, 8, 9, 10, 11, 12, 13, 14, 15, 16, 17, 18, 19, 20, 21, 22, 23, 24, 25, 26, 27, 28, 29, 30, 31, 32, 33, 34, 35, 36, 37, 38, 39, 40, 41, 42, 43, 44, 45] (.int .i64 0), sv [0, 1, 2, 3, 4, 5, 6, 7, 8, 9, 10, 11, 12, 13, 14, 15, 16, 17, 18, 19, 20, 21, 22, 23, 24, 25, 26, 27, 28, 29, 30, 31, 32, 33, 34, 35, 36, 37, 38, 39, 40, 41, 42, 43, 44, 45, 46] (.bool true), sv [0, 1, 2, 3, 4, 5, 6, 7, 8, 9, 10, 11, 12, 13, 14, 15, 16, 17, 18, 19, 20, 21, 22, 23, 24, 25, 26, 27, 28, 29, 30, 31, 32, 33, 34, 35, 36, 37, 38, 39, 40, 41, 42, 43, 44, 45, 46, 47] (.bool true), sv [0, 1, 2, 3, 4, 5, 6, 7, 8, 9, 10, 11, 12, 13, 14, 15, 16, 17, 18, 19, 20, 21, 22, 23, 24, 25, 26, 27, 28, 29, 30, 31, 32, 33, 34, 35, 36, 37, 38, 39, 40, 41, 42, 43, 44, 45, 46, 47, 48] (.bool true), sv [0, 1, 2, 3, 4, 5, 6, 7, 8, 9, 10, 11, 12, 13, 14, 15, 16, 17, 18, 19, 20, 21, 22, 23, 24, 25, 26, 27, 28, 29, 30, 31, 32, 33, 34, 35, 36, 37, 38, 39, 40, 41, 42, 43, 44, 45, 46, 47, 48, 49] (.int .i64 1), sv [0, 1, 2, 3, 4, 5, 6, 7, 8, 9, 10, 11, 12, 13, 14, 15, 16, 17, 18, 19, 20, 21, 22, 23, 24, 25, 26, 27, 28, 29, 30, 31, 32, 33, 34, 35, 36, 37, 38, 39, 40, 41, 42, 43, 44, 45, 46, 47, 48, 49, 50] (.bool true), sv [0, 1, 2, 3, 4, 5, 6, 7, 8, 9, 10, 11, 12, 13, 14, 15, 16, 17, 18, 19, 20, 21, 22, 23, 24, 25, 26, 27, 28, 29, 30, 31, 32, 33, 34, 35, 36, 37, 38, 39, 40, 41, 42, 43, 44, 45, 46, 47, 48, 49, 50, 51] (.bool true), sv [0, 1, 2, 3, 4, 5, 6, 7, 8, 9, 10, 11, 12, 13, 14, 15, 16, 17, 18, 19, 20, 21, 22, 23, 24, 25, 26, 27, 28, 29, 30, 31, 32, 33, 34, 35, 36, 37, 38, 39, 40, 41, 42, 43, 44, 45, 46, 47, 48, 49, 50, 51, 52] (.bool true)] ?A1 ?hA1 kR kR kR [0, 1, 2, 3, 4, 5, 6, 7, 8, 9, 10, 11, 12, 13, 14, 15, 16, 17, 18, 19, 20, 21, 22, 23, 24, 25, 26, 27, 28, 29, 30, 31, 32, 33, 34, 35, 36, 37, 38, 39, 40, 41, 42, 43, 44, 45, 46, 47, 48, 49, 50, 51, 52, 53] kR ?hok1 ?fin1
  case hA1 => intro u; simp only [putAll, List.length_cons, List.length_nil, Nat.zero_add, Nat.reduceAdd, dstAt, List.getElem?_toArray, List.getElem?_cons_zero, List.getElem?_cons_succ, Option.bind_some, Act.put, List.setIfInBounds_toArray, List.set_cons_zero, List.set_cons_succ]; rfl
  case hok1 =>
    intro i hi
    obtain rfl | rfl | rfl | rfl | rfl | rfl | rfl | rfl | rfl | rfl | rfl | rfl | rfl | rfl | rfl | rfl | rfl | rfl | rfl | rfl | rfl | rfl | rfl | rfl | rfl | rfl | rfl | rfl | rfl | rfl | rfl | rfl | rfl | rfl | rfl | rfl | rfl | rfl | rfl | rfl | rfl | rfl | rfl | rfl | rfl | rfl | rfl | rfl | rfl | rfl | rfl | rfl | rfl | rfl : i = 0 ∨ i = 1 ∨ i = 2 ∨ i = 3 ∨ i = 4 ∨ i = 5 ∨ i = 6 ∨ i = 7 ∨ i = 8 ∨ i = 9 ∨ i = 10 ∨ i = 11 ∨ i = 12 ∨ i = 13 ∨ i = 14 ∨ i = 15 ∨ i = 16 ∨ i = 17 ∨ i = 18 ∨ i = 19 ∨ i = 20 ∨ i = 21 ∨ i = 22 ∨ i = 23 ∨ i = 24 ∨ i = 25 ∨ i = 26 ∨ i = 27 ∨ i = 28 ∨ i = 29 ∨ i = 30 ∨ i = 31 ∨ i = 32 ∨ i = 33 ∨ i = 34 ∨ i = 35 ∨ i = 36 ∨ i = 37 ∨ i = 38 ∨ i = 39 ∨ i = 40 ∨ i = 41 ∨ i = 42 ∨ i = 43 ∨ i = 44 ∨ i = 45 ∨ i = 46 ∨ i = 47 ∨ i = 48 ∨ i = 49 ∨ i = 50 ∨ i = 51 ∨ i = 52 ∨ i = 53 := by simp only [List.length_cons, List.length_nil, Nat.zero_add, Nat.reduceAdd] at hi; omega
    · exact oP []
    · exact oP [0]
    · exact oP [1]
    · exact oG [2]
    · clear hi
      refine step_of_g rfl rfl ?_
      intro u G w hf S
      have f2 : u 2 = (.bool true) := hf 2 (by simp)
      have f3 : u 3 = .pointer (some ⟨g9, 0, none⟩) := hf 3 (by simp)
      simp only [fl, z4, z5, z6, z7, ptrBlk] at S ⊢
      simp only [f2, f3]
      refine ⟨rfl, ?_⟩
      refine does_load1 38 (.tmp 130) _ _ rfl (S.cell (g := g9) pk co) _ Tryd.underlying38 rfl ?_; exact ⟨rfl, S⟩
    · exact oG [2, 4]
    · exact oP [2, 5]
    · exact oP [6]
    · exact oG [7]
    · clear hi
      refine step_of_g rfl rfl ?_
      intro u G w hf S
      have f7 : u 7 = (.bool true) := hf 7 (by simp)
      have f8 : u 8 = .pointer (some ⟨g9, 33, none⟩) := hf 8 (by simp)
      simp only [fl, z4, z5, z6, z7, ptrBlk] at S ⊢
      simp only [f7, f8]
      refine ⟨rfl, ?_⟩
      refine does_load1 31 (.tmp 135) _ _ rfl (S.cell (g := g9) pk co) _ Tryd.underlying31 rfl ?_; exact ⟨rfl, S⟩
    · exact oG [7, 9]
    · exact oG [7, 10]
    · exact oP [7, 11]
    · exact oP [12]
    · exact oG [13]
    · clear hi
      refine step_of_g rfl rfl ?_
      intro u G w hf S
      have f13 : u 13 = (.bool true) := hf 13 (by simp)
      have f14 : u 14 = .pointer (some ⟨g9, 33, none⟩) := hf 14 (by simp)
      simp only [fl, z4, z5, z6, z7, ptrBlk] at S ⊢
      simp only [f13, f14]
      refine ⟨rfl, ?_⟩
      refine does_load1 31 (.tmp 141) _ _ rfl (S.cell (g := g9) pk co) _ Tryd.underlying31 rfl ?_; exact ⟨rfl, S⟩
    · exact oG [13, 15]
    · exact oG [13, 16]
    · clear hi
      refine step_of_g rfl rfl ?_
      intro u G w hf S
      have f13 : u 13 = (.bool true) := hf 13 (by simp)
      have f17 : u 17 = .pointer (some ⟨gr, 0, none⟩) := hf 17 (by simp)
      simp only [fl, z4, z5, z6, z7, ptrBlk] at S ⊢
      simp only [f13, f17]
      refine ⟨rfl, ?_⟩
      refine does_load1 23 (.tmp 144) _ _ rfl (K0.out w (S.sl (v := .slice (some ⟨gr, 0, none⟩) 1 cr) pk)) _ Tryd.underlying23 rfl ?_; exact ⟨rfl, S⟩
    · exact oG [13, 18]
    · exact oP [13, 19]
    · exact oP [20]
    · exact oG [21]
    · clear hi
      refine step_of_g rfl rfl ?_
      intro u G w hf S
      have f21 : u 21 = (.bool true) := hf 21 (by simp)
      have f22 : u 22 = .pointer (some ⟨g9, 33, none⟩) := hf 22 (by simp)
      simp only [fl, z4, z5, z6, z7, ptrBlk] at S ⊢
      simp only [f21, f22]
      refine ⟨rfl, ?_⟩
      refine does_load1 31 (.tmp 149) _ _ rfl (S.cell (g := g9) pk co) _ Tryd.underlying31 rfl ?_; exact ⟨rfl, S⟩
    · exact oG [21, 23]
    · exact oG [21, 24]
    · clear hi
      refine step_of_g rfl rfl ?_
      intro u G w hf S
      have f21 : u 21 = (.bool true) := hf 21 (by simp)
      have f25 : u 25 = .pointer (some ⟨gr, 1, none⟩) := hf 25 (by simp)
      simp only [fl, z4, z5, z6, z7, ptrBlk] at S ⊢
      simp only [f21, f25]
      refine ⟨rfl, ?_⟩
      refine does_load1 5 (.tmp 152) _ _ rfl (K1.out w (S.sl (v := .slice (some ⟨gr, 0, none⟩) 1 cr) pk)) _ Tryd.underlying5 rfl ?_; exact ⟨rfl, S⟩
    · exact oG [21, 26]
    · exact oP [21, 27]
    · exact oP [28]
    · exact oG [29]
    · clear hi
      refine step_of_g rfl rfl ?_
      intro u G w hf S
      have f29 : u 29 = (.bool true) := hf 29 (by simp)
      have f30 : u 30 = .pointer (some ⟨g9, 1, none⟩) := hf 30 (by simp)
      simp only [fl, z4, z5, z6, z7, ptrBlk] at S ⊢
      simp only [f29, f30]
      refine ⟨rfl, ?_⟩
      refine does_loadP S 22 (.tmp 157) g9 1 rfl 40 C (0, 0) pk 32 (arr8 d02) MK.out (by rw [arr8_size]; exact d02_len) _ Tryd.underlying22 rfl kR ?_; exact ⟨rfl, S⟩
    · exact oG [29]
    · clear hi
      refine step_of_g rfl rfl ?_
      intro u G w hf S
      have f29 : u 29 = (.bool true) := hf 29 (by simp)
      have f32 : u 32 = .pointer (some ⟨g9, 33, none⟩) := hf 32 (by simp)
      simp only [fl, z4, z5, z6, z7, ptrBlk] at S ⊢
      simp only [f29, f32]
      refine ⟨rfl, ?_⟩
      refine does_load1 31 (.tmp 159) _ _ rfl (S.cell (g := g9) pk co) _ Tryd.underlying31 rfl ?_; exact ⟨rfl, S⟩
    · exact oG [29, 33]
    · exact oG [29, 34]
    · clear hi
      refine step_of_g rfl rfl ?_
      intro u G w hf S
      have f29 : u 29 = (.bool true) := hf 29 (by simp)
      have f35 : u 35 = .pointer (some ⟨gr, 3, none⟩) := hf 35 (by simp)
      simp only [fl, z4, z5, z6, z7, ptrBlk] at S ⊢
      simp only [f29, f35]
      refine ⟨rfl, ?_⟩
      refine does_loadR 22 (.tmp 162) _ _ rfl _ (K3.out w (S.sl (v := .slice (some ⟨gr, 0, none⟩) 1 cr) pk)) _ Tryd.underlying22 rfl 32 kR (by rw [List.length_map]; exact d02_len) _ rfl ?_; exact ⟨rfl, S⟩
    · exact oG [29, 31, 36]
    · exact oP [29, 37]
    · exact oP [38]
    · exact oG [39]
    · clear hi
      refine step_of_g rfl rfl ?_
      intro u G w hf S
      have f39 : u 39 = (.bool true) := hf 39 (by simp)
      have f40 : u 40 = .pointer (some ⟨g9, 1, none⟩) := hf 40 (by simp)
      simp only [fl, z4, z5, z6, z7, ptrBlk] at S ⊢
      simp only [f39, f40]
      refine ⟨rfl, ?_⟩
      refine does_loadP S 22 (.tmp 167) g9 1 rfl 40 C (0, 0) pk 32 (arr8 d02) MK.out (by rw [arr8_size]; exact d02_len) _ Tryd.underlying22 rfl kR ?_; exact ⟨rfl, S⟩
    · exact oG [39]
    · exact oG [39, 41, 42]
    · exact oP [39, 43]
    · exact oP [44]
    · exact oG [45]
    · exact oG [45, 46]
    · exact oP [45, 47]
    · exact oP [48]
    · exact oG [49]
    · exact oG [49, 50]
    · exact oP [49, 51]
    · exact oP [52]
  case fin1 =>
    intro u w hf S
    have hvA := allV hf
    simp only [AllV, RSpec.valAt, sv, Nat.zero_add, Nat.reduceAdd] at hvA
    simp only [fl, z4, z5, z6, z7, ptrBlk] at S
    clear hf
    simp only [List.length_cons, List.length_nil, Nat.zero_add, Nat.reduceAdd, List.drop_succ_cons, List.drop_zero, hvA]
    clear hvA
    go_wp2_with (first | fail)
    go_ret
    exact ⟨rfl, S.nil⟩
end Go.Proofs.YtfhkmmagpnojmaaDoor

/- The reference's logs: equality, copies, validity. No condition. -/
namespace Go.Proofs.YtfhkmmagpnojmaaDoor
open Go.RowKit

end Go.Proofs.YtfhkmmagpnojmaaDoor

/- The reference's ValidLog and CheckLog. No condition. -/
namespace Go.Proofs.YtfhkmmagpnojmaaDoor
open Go.RowKit

end Go.Proofs.YtfhkmmagpnojmaaDoor

/- The reference's Append to a log. No condition. -/
namespace Go.Proofs.YtfhkmmagpnojmaaDoor
open Go.RowKit

section
variable {w0 w : World} {F : List Res} {v : Value} {e size n : Nat} {xs : List Value}
end
end Go.Proofs.YtfhkmmagpnojmaaDoor

/- The records of a log from a number on: the program's and the reference's. No condition but the reach. -/
namespace Go.Proofs.YtfhkmmagpnojmaaDoor
open Go.RowKit

set_option maxRecDepth 100000 in
set_option maxHeartbeats 1000000 in
theorem cloneRc_s (v : Value) (l : List Rcd) (w0 : World) (h : Sl w0 35 v l.length (l.flatMap rcdL)) (hl : l.length * 56 ≤ 140737488355328) :
    Calls Tryd.prog 54 #[v] w0 (MadeRc w0 l) := by
  have S := Has.start w0
  obtain ⟨a, c, rfl, hc1, hc2⟩ := Sl.shape h
  have e1 := @Lib.run_eql_slice_nil Tryd.prog
  cases a with
  | none =>
    obtain ⟨hn, hc, hx⟩ := Sl.empty h
    have hx' : l = [] := List.eq_nil_of_length_eq_zero hn
    subst hx'
    subst hc
    clear hx hn hc1 hc2 h
    go_enter Tryd.func54, Tryd.ntmps54
    go_wp2
    go_ret
    exact ⟨_, rfl, S.nilRc⟩
  | some ad =>
    have hle : ((([] : List Rcd).length + l.length) * 56) ≤ 140737488355328 := by simpa using hl
    have H := Lib.hid h; have HLE := Lib.hid hle; clear h hle
    go_enter Tryd.func54, Tryd.ntmps54
    go_wp2_with (first | ((with_reducible refine iD 5 (.buildSlice 31 0 _) ?_); refine step_build0 S 31 50 Tryd.underlying31 35 kR rfl ?_; clear S; intro v5 w S; replace S : Has w0 w [rowRc v5 []] := S) | (at_builtin; refine step_appendRc S (.tmp 5) (.tmp 6) _ _ rfl pk _ _ rfl sL lE rfl ?_; clear S; intro v7 w S; (try simp only [z4] at S)) | fail)
    go_ret
    exact ⟨_, rfl, S⟩
/-- How many records are left out. -/
def skipN (C n first : Nat) : Nat := min (max first (C - n) - (C - n)) n
theorem sinceR_ok (g : Lg) (first : UInt32) (h : lgV g = true) : sinceR g first = g.recs.drop (skipN g.cnt.toNat g.recs.length first.toNat) := if_pos h
theorem sinceR_bad (g : Lg) (first : UInt32) (h : lgV g = false) : sinceR g first = [] := if_neg (by rw [h]; decide)
def MadeRcE (w : World) (l : List Rcd) (E : Int) (e : Ending) (w' : World) : Prop := ∃ v, e = .returned (.tuple #[v, .int .i64 E]) ∧ Has w w' [rowRc v l]
set_option maxRecDepth 100000 in
set_option maxHeartbeats 8000000 in
theorem since_s (g : Lg) (rv : Value) (first : UInt32) (w0 : World) (hr : Sl w0 35 rv g.recs.length (g.recs.flatMap rcdL)) :
    Calls Tryd.prog 26 #[.agg (lgL g rv).toArray, .int .u32 (first.toNat : Int)] w0 (MadeRcE w0 (sinceR g first) (lgE g)) := by
  have S := Has.start w0
  obtain ⟨a0, c0, rfl, k1, k2⟩ := Sl.shape hr
  unfold maxLen at k2
  have pc := fun w h => checkLog_s g (.slice a0 g.recs.length c0) w h
  have q0 := lgL_0 g (.slice a0 g.recs.length c0)
  have q33 := lgL_33 g (.slice a0 g.recs.length c0)
  cases hv : lgV g with
  | false =>
    have hE : lgE g = 8 := if_neg (by rw [hv]; decide)
    rw [sinceR_bad g first hv, hE]
    rw [hE] at pc
    have PC := Lib.hid pc; have HR := Lib.hid hr; have Q0 := Lib.hid q0; have Q33 := Lib.hid q33; clear pc hr q0 q33
    clear hE hv
    go_enter Tryd.func26, Tryd.ntmps26
    go_wp2_with (first | ((with_reducible refine iD 2 (.box 40 (.tmp 0)) ?_); refine step_boxA (dst := some 2) S 40 (.tmp 0) _ rfl rfl ?_; clear S; intro g2 w S) | ((with_reducible refine iO _ (.load 40 _) ?_); first | (refine step_load S 40 _ _ rfl _ _ _ pk _ Tryd.underlying40 rfl 34 kR lN rfl ?_) | (refine step_loadO 40 _ _ rfl _ _ _ (S.old_heap (Hid.out (by assumption))) _ Tryd.underlying40 rfl 34 kR lN rfl ?_) | (refine step_loadR 40 _ _ _ rfl _ (S.old_range hy) _ Tryd.underlying40 rfl 34 kR lN _ rfl rfl ?_)) | (go_at_call 23; (with_reducible refine (PC.out _ (S.old HR.out)).mono ?_); rintro e w1 ⟨rfl, T⟩; replace S := S.call T; clear T; (try simp only [z4, z5] at S)) | ((with_reducible refine iO _ (.load 38 _) ?_); refine step_load1 38 _ _ _ rfl (cL) _ Tryd.underlying38 rfl rfl ?_) | ((with_reducible refine iO _ (.load 31 _) ?_); refine step_load1 31 _ _ _ rfl (cL) _ Tryd.underlying31 rfl rfl ?_) | ((with_reducible refine iO _ (.slice 31 _ _ _ _) ?_); refine step_cutL 31 50 35 _ _ _ _ _ _ _ _ rfl rfl (by first | rfl | omega) (by first | (first | omega | assumption | (exact Hid.out (by assumption)) | (simp only [List.length_append, List.length_cons, List.length_nil]; omega)) | decide) Tryd.underlying31 kR rfl ?_) | fail)
    go_ret2
    exact ⟨_, rfl, S.nil.nilRc⟩
  | true =>
  have hE : lgE g = 0 := if_pos hv
  have hn := (lgV_parts g hv).1
  rw [sinceR_ok g first hv, hE]
  rw [hE] at pc
  have hcl := g.cnt.toNat_lt
  have hfl := first.toNat_lt
  obtain ⟨l, hl⟩ : ∃ l, l = g.recs := ⟨_, rfl⟩
  rw [← hl] at hr pc q0 q33 hn k1 ⊢
  obtain ⟨C, hC⟩ : ∃ C, C = g.cnt.toNat := ⟨_, rfl⟩
  rw [← hC] at q0 hcl hn ⊢
  obtain ⟨F, hF⟩ : ∃ F, F = first.toNat := ⟨_, rfl⟩
  rw [← hF] at hfl ⊢
  obtain ⟨s, hs⟩ : ∃ s, s = skipN C l.length F := ⟨_, rfl⟩
  rw [← hs]
  have hsl : s ≤ l.length := by rw [hs]; unfold skipN; omega
  have hcut : Sl w0 35 (.slice (cutA a0 c0 s 35) (l.length - s) (c0 - s)) (l.length - s) ((l.drop s).flatMap rcdL) := by
    have := Sl.cut hr s (l.length - s) (by omega)
    rw [drop_flat rcdL 35 rcdL_length, List.take_of_length_le (by rw [flat_len rcdL 35 rcdL_length, List.length_drop]; exact Nat.le_refl _)] at this
    exact this
  have hdl : (l.drop s).length = l.length - s := by simp
  rw [← hdl] at hcut
  have pk := fun w h => cloneRc_s (.slice (cutA a0 c0 s 35) (l.drop s).length (c0 - s)) (l.drop s) w h (by omega)
  rw [hdl] at hcut pk
  obtain ⟨M, hM⟩ : ∃ M, M = l.drop s := ⟨_, rfl⟩
  rw [← hM] at hcut pk ⊢
  obtain ⟨B, hB⟩ : ∃ B, B = C - l.length := ⟨_, rfl⟩
  obtain ⟨n, hnn⟩ : ∃ n, n = l.length := ⟨_, rfl⟩
  rw [← hnn] at hr pc q0 q33 hn k1 hsl hcut pk hB hs ⊢
  have e1 : IntKind.u32.wrap (n : Int) = (n : Int) := by rw [IntKind.wrap_u32]; omega
  have e2 : IntKind.u32.wrap ((C : Int) - (n : Int)) = (B : Int) := by rw [IntKind.wrap_u32]; omega
  have e3 : (n : Int) % 4294967296 = (n : Int) := by omega
  clear hE hv hl hC hF hdl hM hnn
  rcases Nat.lt_or_ge B F with h1 | h1
  · obtain ⟨D, hD⟩ : ∃ D, D = F - B := ⟨_, rfl⟩
    have e4 : IntKind.u32.wrap ((F : Int) - (B : Int)) = (D : Int) := by rw [IntKind.wrap_u32]; omega
    have i1 : (B : Int) < (F : Int) := by omega
    have i2 : ¬ (F : Int) < (B : Int) := by omega
    have i3 : ¬ (F : Int) ≤ (B : Int) := by omega
    have i7 : (B : Int) ≤ (F : Int) := by omega
    rcases Nat.lt_or_ge D n with h2 | h2
    · have hsD : s = D := by rw [hs]; unfold skipN; omega
      subst hsD
      have i4 : (s : Int) < (n : Int) := by omega
      have i5 : ¬ (n : Int) < (s : Int) := by omega
      have i6 : (s : Int) ≤ (n : Int) := by omega
      have PC := Lib.hid pc; have HR := Lib.hid hr; have Q0 := Lib.hid q0; have Q33 := Lib.hid q33; have HCUT := Lib.hid hcut; have PK := Lib.hid pk; have HCL := Lib.hid hcl; have HFL := Lib.hid hfl; have HN := Lib.hid hn; have HS := Lib.hid hs; have HD := Lib.hid hD; have HB := Lib.hid hB; clear pc hr q0 q33 hcut pk hcl hfl hn hs hD hB
      go_enter Tryd.func26, Tryd.ntmps26
      go_wp2_with (first | ((with_reducible refine iD 34 (.slice 31 (.tmp 32) _ _ _) ?_); refine step_cutL 31 50 35 (.tmp 32) _ _ _ _ _ _ s rfl rfl rfl hsl Tryd.underlying31 kR gw ?_) | ((with_reducible refine iD 2 (.box 40 (.tmp 0)) ?_); refine step_boxA (dst := some 2) S 40 (.tmp 0) _ rfl rfl ?_; clear S; intro g2 w S) | ((with_reducible refine iO _ (.load 40 _) ?_); first | (refine step_load S 40 _ _ rfl _ _ _ pk _ Tryd.underlying40 rfl 34 kR lN rfl ?_) | (refine step_loadO 40 _ _ rfl _ _ _ (S.old_heap (Hid.out (by assumption))) _ Tryd.underlying40 rfl 34 kR lN rfl ?_) | (refine step_loadR 40 _ _ _ rfl _ (S.old_range hy) _ Tryd.underlying40 rfl 34 kR lN _ rfl rfl ?_)) | (go_at_call 23; (with_reducible refine (PC.out _ (S.old HR.out)).mono ?_); rintro e w1 ⟨rfl, T⟩; replace S := S.call T; clear T; (try simp only [z4, z5] at S)) | ((with_reducible refine iO _ (.load 38 _) ?_); refine step_load1 38 _ _ _ rfl (cL) _ Tryd.underlying38 rfl rfl ?_) | ((with_reducible refine iO _ (.load 31 _) ?_); refine step_load1 31 _ _ _ rfl (cL) _ Tryd.underlying31 rfl rfl ?_) | (go_at_call 54; (with_reducible refine (PK.out _ (S.old HCUT.out)).mono ?_); rintro e w1 ⟨v35, rfl, T⟩; replace S := S.call T; clear T; (try simp only [z4, z5] at S)) | fail)
      go_ret2
      exact ⟨_, rfl, S.sub (by repeat (first | exact Sub.nil _ | refine Sub.cons pk ?_))⟩
    · have hsD : s = n := by rw [hs]; unfold skipN; omega
      subst hsD
      rw [Nat.sub_self] at hcut pk
      have i4 : ¬ (D : Int) < (s : Int) := by omega
      have i6 : (s : Int) ≤ (D : Int) := by omega
      have i5 : (D : Int) = (s : Int) ∨ (s : Int) < (D : Int) := by omega
      rcases i5 with i5 | i5
      · rw [i5] at e4
        clear i5 i4 i6
        have PC := Lib.hid pc; have HR := Lib.hid hr; have Q0 := Lib.hid q0; have Q33 := Lib.hid q33; have HCUT := Lib.hid hcut; have PK := Lib.hid pk; have HCL := Lib.hid hcl; have HFL := Lib.hid hfl; have HN := Lib.hid hn; have HS := Lib.hid hs; have HD := Lib.hid hD; have HB := Lib.hid hB; clear pc hr q0 q33 hcut pk hcl hfl hn hs hD hB
        go_enter Tryd.func26, Tryd.ntmps26
        go_wp2_with (first | ((with_reducible refine iD 34 (.slice 31 (.tmp 32) _ _ _) ?_); refine step_cutL 31 50 35 (.tmp 32) _ _ _ _ _ _ s rfl rfl rfl hsl Tryd.underlying31 kR gw ?_) | ((with_reducible refine iD 2 (.box 40 (.tmp 0)) ?_); refine step_boxA (dst := some 2) S 40 (.tmp 0) _ rfl rfl ?_; clear S; intro g2 w S) | ((with_reducible refine iO _ (.load 40 _) ?_); first | (refine step_load S 40 _ _ rfl _ _ _ pk _ Tryd.underlying40 rfl 34 kR lN rfl ?_) | (refine step_loadO 40 _ _ rfl _ _ _ (S.old_heap (Hid.out (by assumption))) _ Tryd.underlying40 rfl 34 kR lN rfl ?_) | (refine step_loadR 40 _ _ _ rfl _ (S.old_range hy) _ Tryd.underlying40 rfl 34 kR lN _ rfl rfl ?_)) | (go_at_call 23; (with_reducible refine (PC.out _ (S.old HR.out)).mono ?_); rintro e w1 ⟨rfl, T⟩; replace S := S.call T; clear T; (try simp only [z4, z5] at S)) | ((with_reducible refine iO _ (.load 38 _) ?_); refine step_load1 38 _ _ _ rfl (cL) _ Tryd.underlying38 rfl rfl ?_) | ((with_reducible refine iO _ (.load 31 _) ?_); refine step_load1 31 _ _ _ rfl (cL) _ Tryd.underlying31 rfl rfl ?_) | (go_at_call 54; (with_reducible refine (PK.out _ (S.old HCUT.out)).mono ?_); rintro e w1 ⟨v35, rfl, T⟩; replace S := S.call T; clear T; (try simp only [z4, z5] at S)) | fail)
        go_ret2
        exact ⟨_, rfl, S.sub (by repeat (first | exact Sub.nil _ | refine Sub.cons pk ?_))⟩
      · have i8 : ¬ (D : Int) ≤ (s : Int) := by omega
        have PC := Lib.hid pc; have HR := Lib.hid hr; have Q0 := Lib.hid q0; have Q33 := Lib.hid q33; have HCUT := Lib.hid hcut; have PK := Lib.hid pk; have HCL := Lib.hid hcl; have HFL := Lib.hid hfl; have HN := Lib.hid hn; have HS := Lib.hid hs; have HD := Lib.hid hD; have HB := Lib.hid hB; clear pc hr q0 q33 hcut pk hcl hfl hn hs hD hB
        go_enter Tryd.func26, Tryd.ntmps26
        go_wp2_with (first | ((with_reducible refine iD 34 (.slice 31 (.tmp 32) _ _ _) ?_); refine step_cutL 31 50 35 (.tmp 32) _ _ _ _ _ _ s rfl rfl rfl hsl Tryd.underlying31 kR gw ?_) | ((with_reducible refine iD 2 (.box 40 (.tmp 0)) ?_); refine step_boxA (dst := some 2) S 40 (.tmp 0) _ rfl rfl ?_; clear S; intro g2 w S) | ((with_reducible refine iO _ (.load 40 _) ?_); first | (refine step_load S 40 _ _ rfl _ _ _ pk _ Tryd.underlying40 rfl 34 kR lN rfl ?_) | (refine step_loadO 40 _ _ rfl _ _ _ (S.old_heap (Hid.out (by assumption))) _ Tryd.underlying40 rfl 34 kR lN rfl ?_) | (refine step_loadR 40 _ _ _ rfl _ (S.old_range hy) _ Tryd.underlying40 rfl 34 kR lN _ rfl rfl ?_)) | (go_at_call 23; (with_reducible refine (PC.out _ (S.old HR.out)).mono ?_); rintro e w1 ⟨rfl, T⟩; replace S := S.call T; clear T; (try simp only [z4, z5] at S)) | ((with_reducible refine iO _ (.load 38 _) ?_); refine step_load1 38 _ _ _ rfl (cL) _ Tryd.underlying38 rfl rfl ?_) | ((with_reducible refine iO _ (.load 31 _) ?_); refine step_load1 31 _ _ _ rfl (cL) _ Tryd.underlying31 rfl rfl ?_) | (go_at_call 54; (with_reducible refine (PK.out _ (S.old HCUT.out)).mono ?_); rintro e w1 ⟨v35, rfl, T⟩; replace S := S.call T; clear T; (try simp only [z4, z5] at S)) | fail)
        go_ret2
        exact ⟨_, rfl, S.sub (by repeat (first | exact Sub.nil _ | refine Sub.cons pk ?_))⟩
  · have hsD : s = 0 := by rw [hs]; unfold skipN; omega
    subst hsD
    have i4 : ¬ (n : Int) < 0 := by omega
    have i6 : 0 ≤ (n : Int) := by omega
    simp only [Nat.sub_zero] at hcut pk
    rcases Nat.lt_or_ge F B with h2 | h2
    · have i1 : (F : Int) < (B : Int) := by omega
      have i2 : ¬ (B : Int) < (F : Int) := by omega
      have i3 : (F : Int) ≤ (B : Int) := by omega
      have PC := Lib.hid pc; have HR := Lib.hid hr; have Q0 := Lib.hid q0; have Q33 := Lib.hid q33; have HCUT := Lib.hid hcut; have PK := Lib.hid pk; have HCL := Lib.hid hcl; have HFL := Lib.hid hfl; have HN := Lib.hid hn; have HS := Lib.hid hs; have HB := Lib.hid hB; clear pc hr q0 q33 hcut pk hcl hfl hn hs hB
      go_enter Tryd.func26, Tryd.ntmps26
      go_wp2_with (first | ((with_reducible refine iD 34 (.slice 31 (.tmp 32) _ _ _) ?_); refine step_cutL 31 50 35 (.tmp 32) _ a0 n c0 .u32 0 0 rfl rfl rfl hsl Tryd.underlying31 kR gw ?_) | ((with_reducible refine iD 2 (.box 40 (.tmp 0)) ?_); refine step_boxA (dst := some 2) S 40 (.tmp 0) _ rfl rfl ?_; clear S; intro g2 w S) | ((with_reducible refine iO _ (.load 40 _) ?_); first | (refine step_load S 40 _ _ rfl _ _ _ pk _ Tryd.underlying40 rfl 34 kR lN rfl ?_) | (refine step_loadO 40 _ _ rfl _ _ _ (S.old_heap (Hid.out (by assumption))) _ Tryd.underlying40 rfl 34 kR lN rfl ?_) | (refine step_loadR 40 _ _ _ rfl _ (S.old_range hy) _ Tryd.underlying40 rfl 34 kR lN _ rfl rfl ?_)) | (go_at_call 23; (with_reducible refine (PC.out _ (S.old HR.out)).mono ?_); rintro e w1 ⟨rfl, T⟩; replace S := S.call T; clear T; (try simp only [z4, z5] at S)) | ((with_reducible refine iO _ (.load 38 _) ?_); refine step_load1 38 _ _ _ rfl (cL) _ Tryd.underlying38 rfl rfl ?_) | ((with_reducible refine iO _ (.load 31 _) ?_); refine step_load1 31 _ _ _ rfl (cL) _ Tryd.underlying31 rfl rfl ?_) | (go_at_call 54; (with_reducible refine (PK.out _ (S.old HCUT.out)).mono ?_); rintro e w1 ⟨v35, rfl, T⟩; replace S := S.call T; clear T; (try simp only [z4, z5] at S)) | fail)
      go_ret2
      exact ⟨_, rfl, S.sub (by repeat (first | exact Sub.nil _ | refine Sub.cons pk ?_))⟩
    · obtain rfl : F = B := by omega
      have PC := Lib.hid pc; have HR := Lib.hid hr; have Q0 := Lib.hid q0; have Q33 := Lib.hid q33; have HCUT := Lib.hid hcut; have PK := Lib.hid pk; have HCL := Lib.hid hcl; have HFL := Lib.hid hfl; have HN := Lib.hid hn; have HS := Lib.hid hs; have HB := Lib.hid hB; clear pc hr q0 q33 hcut pk hcl hfl hn hs hB
      go_enter Tryd.func26, Tryd.ntmps26
      go_wp2_with (first | ((with_reducible refine iD 34 (.slice 31 (.tmp 32) _ _ _) ?_); refine step_cutL 31 50 35 (.tmp 32) _ a0 n c0 .u32 0 0 rfl rfl rfl hsl Tryd.underlying31 kR gw ?_) | ((with_reducible refine iD 2 (.box 40 (.tmp 0)) ?_); refine step_boxA (dst := some 2) S 40 (.tmp 0) _ rfl rfl ?_; clear S; intro g2 w S) | ((with_reducible refine iO _ (.load 40 _) ?_); first | (refine step_load S 40 _ _ rfl _ _ _ pk _ Tryd.underlying40 rfl 34 kR lN rfl ?_) | (refine step_loadO 40 _ _ rfl _ _ _ (S.old_heap (Hid.out (by assumption))) _ Tryd.underlying40 rfl 34 kR lN rfl ?_) | (refine step_loadR 40 _ _ _ rfl _ (S.old_range hy) _ Tryd.underlying40 rfl 34 kR lN _ rfl rfl ?_)) | (go_at_call 23; (with_reducible refine (PC.out _ (S.old HR.out)).mono ?_); rintro e w1 ⟨rfl, T⟩; replace S := S.call T; clear T; (try simp only [z4, z5] at S)) | ((with_reducible refine iO _ (.load 38 _) ?_); refine step_load1 38 _ _ _ rfl (cL) _ Tryd.underlying38 rfl rfl ?_) | ((with_reducible refine iO _ (.load 31 _) ?_); refine step_load1 31 _ _ _ rfl (cL) _ Tryd.underlying31 rfl rfl ?_) | (go_at_call 54; (with_reducible refine (PK.out _ (S.old HCUT.out)).mono ?_); rintro e w1 ⟨v35, rfl, T⟩; replace S := S.call T; clear T; (try simp only [z4, z5] at S)) | fail)
      go_ret2
      exact ⟨_, rfl, S.sub (by repeat (first | exact Sub.nil _ | refine Sub.cons pk ?_))⟩
end Go.Proofs.YtfhkmmagpnojmaaDoor
