/- alive07: a token that was issued goes through a frame. No condition but the tables. -/
import Derived.Test.YtmcefinhmihmnaaDoorBd
import Derived.Test.YtmcefinhmihmnaaDoorAuthP
import Derived.Test.YtmcefinhmihmnaaDoorDecQ
import Derived.Test.YtmcefinhmihmnaaDoorEncR
import Derived.Test.YtmcefinhmihmnaaDoorFrA
set_option linter.unusedSimpArgs false
set_option linter.unusedVariables false
namespace Go.Proofs.YtmcefinhmihmnaaDoor
open Go.RowKit

theorem build_rq3v (k x y z u p : Int) (d0 d1 d2 d3 d4 d5 d6 d7 d8 d9 d10 d11 d12 d13 d14 d15 d16 d17 d18 d19 d20 d21 d22 d23 d24 d25 d26 d27 d28 d29 d30 d31 : UInt8) (w : World) : (Instr.build 36 #[(0, Value.int .u8 k), (1, Value.agg ([Value.int .u8 x, .int .u8 y, .int .u64 z, .int .u32 u] ++ [d0, d1, d2, d3, d4, d5, d6, d7, d8, d9, d10, d11, d12, d13, d14, d15, d16, d17, d18, d19, d20, d21, d22, d23, d24, d25, d26, d27, d28, d29, d30, d31].map by8).toArray), (2, Value.int .u8 p)]).run Tryd.prog w = .ok (.agg ([Value.int .u8 k] ++ ([Value.int .u8 x, .int .u8 y, .int .u64 z, .int .u32 u] ++ [d0, d1, d2, d3, d4, d5, d6, d7, d8, d9, d10, d11, d12, d13, d14, d15, d16, d17, d18, d19, d20, d21, d22, d23, d24, d25, d26, d27, d28, d29, d30, d31].map by8) ++ [Value.int .u8 p, .int .u8 0, .int .u32 0]).toArray) w := by kernel_rfl

theorem build_rq3 (k x y z u p : Int) (D : List UInt8) (hD : D.length = 32) (w : World) : (Instr.build 36 #[(0, Value.int .u8 k), (1, Value.agg ([Value.int .u8 x, .int .u8 y, .int .u64 z, .int .u32 u] ++ D.map by8).toArray), (2, Value.int .u8 p)]).run Tryd.prog w = .ok (.agg ([Value.int .u8 k] ++ ([Value.int .u8 x, .int .u8 y, .int .u64 z, .int .u32 u] ++ D.map by8) ++ [Value.int .u8 p, .int .u8 0, .int .u32 0]).toArray) w :=
  match D, hD with
  | [d0, d1, d2, d3, d4, d5, d6, d7, d8, d9, d10, d11, d12, d13, d14, d15, d16, d17, d18, d19, d20, d21, d22, d23, d24, d25, d26, d27, d28, d29, d30, d31], _ => build_rq3v k x y z u p d0 d1 d2 d3 d4 d5 d6 d7 d8 d9 d10 d11 d12 d13 d14 d15 d16 d17 d18 d19 d20 d21 d22 d23 d24 d25 d26 d27 d28 d29 d30 d31 w

set_option maxRecDepth 100000 in
/-- A request with a kind, a token and a place. -/
theorem step_buildRq3 {ops : Array Oper} {rest : List Oper} {a : Act} {w : World} {Q : Exit → Act → World → Prop} {dst : Option Tmp} {ty : TypeId} {pos : String} {after : Array Edge} {gd : Option (Nat × Bool)} (x y z : Operand) (k p : UInt8) (t : Tok)
    (hx : a.eval x = by8 k) (hy : a.eval y = .agg (tokL t).toArray) (hz : a.eval z = by8 p)
    (hw : Region.wanted ⟨dst, .build 36 #[(0, x), (1, y), (2, z)], ty, pos, after, gd⟩ (yielded ops a.tmps) = true)
    (h : wpList Tryd.prog ops Q rest (a.put dst (.agg (rqL ⟨k, t, p, 0, 0⟩).toArray)) w) : wpList Tryd.prog ops Q (⟨dst, .build 36 #[(0, x), (1, y), (2, z)], ty, pos, after, gd⟩ :: rest) a w := by
  refine step_val (v := .agg (rqL ⟨k, t, p, 0, 0⟩).toArray) hw ?_ h
  have hp : (#[(0, x), (1, y), (2, z)].map fun (i, x) => (i, a.eval x)) = #[(0, .int .u8 (k.toNat : Int)), (1, Value.agg ([Value.int .u8 (t.tenant.toNat : Int), .int .u8 (t.role.toNat : Int), .int .u64 (t.expiry.toNat : Int), .int .u32 (t.serial.toNat : Int)] ++ t.tag.map by8).toArray), (2, .int .u8 (p.toNat : Int))] := by simp [hx, hy, hz, tokL]
  have := build_rq3 k.toNat t.tenant.toNat t.role.toNat t.expiry.toNat t.serial.toNat p.toNat t.tag t.len w
  simp only [execOp, hp, Sem.run_bind, this, Result.andThen_ok, Sem.run_pure]
  rfl

def key5 : List UInt8 := [5]
def ring5 : List Mnt := [⟨2, 13, false⟩]
def tok5 : Tok := issT [] key5 1 2 10 3
def rq5 : Rq := ⟨1, tok5, 2, 0, 0⟩
theorem iss5E : issE [] key5 1 2 10 3 = 0 := by decide
theorem iss5R : issR [] key5 1 2 10 3 = ring5 := by decide
theorem auz5_12 : auzE ring5 key5 1 tok5 1 12 = 0 := by
  have := auz_issued [] key5 1 2 10 3 1 12 iss5E (by decide) (by decide) (by decide)
  rw [iss5R] at this
  exact this.trans (by decide)
theorem auz5_13 : auzE ring5 key5 1 tok5 1 13 = 193 := by
  have := auz_issued [] key5 1 2 10 3 1 13 iss5E (by decide) (by decide) (by decide)
  rw [iss5R] at this
  exact this.trans (by decide)
theorem auz5_0 : auzE ring5 key5 0 tok5 1 12 = 190 := by
  have := auz_issued_other [] key5 1 0 2 10 3 1 12 iss5E (by decide) (by decide) (by decide) (by decide) (by decide) (by decide)
  rw [iss5R] at this
  exact this

set_option maxRecDepth 100000 in
set_option maxHeartbeats 8000000 in
theorem alive07_s (w0 : World) (hK : KT w0) (hP : PT w0) : Calls Tryd.prog 4 #[] w0 fun e w' => e = .returned (.bool true) ∧ Has w0 w' [] := by
  have S := Has.start w0
  have p1 : ∀ v2 w, Bs w v2 [5] → KT w → Calls Tryd.prog 11 #[.slice none 0 0, v2, .int .i64 1, .int .u8 2, .int .u64 10, .int .u64 3] w (MadeMT w ring5 tok5 0) := fun v2 w h2 hk => by
    have := issue_s (.slice none 0 0) v2 [] key5 1 2 10 3 w ⟨rfl, .inl ⟨none, rfl, rfl⟩⟩ h2 hk (by decide) (by decide) (by decide) (by decide)
    rw [iss5E, iss5R] at this
    exact this
  have hv : rqV rq5 = true := rfl
  have p2 : ∀ w, Calls Tryd.prog 5 #[.agg (rqL ⟨1, tok5, 2, 0, 0⟩).toArray] w (MadeE w (encR rq5) 0) := fun w => by
    have := encodeRequest_s rq5 w
    rw [show encRE rq5 = encR rq5 from if_pos hv, show rqE rq5 = 0 from if_pos hv] at this
    exact this
  have hfr := encR_fr rq5
  have hsp : splitB (encR rq5) = ([encR rq5], []) := by
    have := split_fr (encR rq5) [] hfr
    rw [List.append_nil, split_stop [] (.inl (by decide))] at this
    exact this
  have p3 : ∀ v w, Bs w v (encR rq5) → Calls Tryd.prog 6 #[v] w fun e w' => ∃ v1 v2 pv, e = .returned (.tuple #[v1, v2, .int .i64 0]) ∧ Has w w' [row v1 23 1 1 [pv], row8 v2 [], row8 pv (encR rq5)] := fun v w h =>
    (split_s v (encR rq5) w h).mono fun e w' he => by
      have hl := hfr.2.1
      rw [show spX (encR rq5) = splitB (encR rq5) from if_pos (by omega), show spE (encR rq5).length = 0 from if_pos (by omega), hsp] at he
      obtain ⟨v1, v2, ps, he, hps, S⟩ := he
      match ps, hps with
      | [(pv, b)], hps =>
        obtain rfl : b = encR rq5 := by simpa using hps
        exact ⟨v1, v2, pv, he, S⟩
  have p4 : ∀ v w, Bs w v (encR rq5) → Calls Tryd.prog 7 #[v] w fun e w' => e = .returned (.tuple #[.agg (rqL rq5).toArray, .int .i64 0]) ∧ Has w w' [] := fun v w h => by
    have := decodeRequest_s v (encR rq5) w h (by have := hfr.2.1; omega)
    rw [dcR_encR rq5 hv, dcE_encR rq5 hv] at this
    exact this
  have p5 : ∀ v0 v1 w, Rg w v0 ring5 → Bs w v1 [5] → KT w → PT w → Calls Tryd.prog 8 #[v0, v1, .int .i64 1, .agg (tokL tok5).toArray, .int .u8 1, .int .u64 12] w fun e w' => e = .returned (.int .i64 0) ∧ Has w w' [] := fun v0 v1 w h1 h2 h3 h4 => by
    have := authz_s v0 v1 ring5 key5 1 tok5 1 12 w h1 h2 h3 h4 (by decide) (by decide) (by decide)
    rw [auz5_12] at this
    exact this
  have p6 : ∀ v0 v1 w, Rg w v0 ring5 → Bs w v1 [5] → KT w → PT w → Calls Tryd.prog 8 #[v0, v1, .int .i64 1, .agg (tokL tok5).toArray, .int .u8 1, .int .u64 13] w fun e w' => e = .returned (.int .i64 193) ∧ Has w w' [] := fun v0 v1 w h1 h2 h3 h4 => by
    have := authz_s v0 v1 ring5 key5 1 tok5 1 13 w h1 h2 h3 h4 (by decide) (by decide) (by decide)
    rw [auz5_13] at this
    exact this
  have p7 : ∀ v0 v1 w, Rg w v0 ring5 → Bs w v1 [5] → KT w → PT w → Calls Tryd.prog 8 #[v0, v1, .int .i64 0, .agg (tokL tok5).toArray, .int .u8 1, .int .u64 12] w fun e w' => e = .returned (.int .i64 190) ∧ Has w w' [] := fun v0 v1 w h1 h2 h3 h4 => by
    have := authz_s v0 v1 ring5 key5 0 tok5 1 12 w h1 h2 h3 h4 (by decide) (by decide) (by decide)
    rw [auz5_0] at this
    exact this
  have hq : (rqL rq5).toArray = (rqL ⟨1, tok5, 2, 0, 0⟩).toArray := rfl
  rw [hq] at p4
  generalize encR rq5 = R at p2 p3 p4
  generalize tok5 = T1 at p1 p2 p4 p5 p6 p7
  have HK := Lib.hid hK; have HP := Lib.hid hP; have P1 := Lib.hid p1; have P2 := Lib.hid p2; have P3 := Lib.hid p3; have P4 := Lib.hid p4; have P5 := Lib.hid p5; have P6 := Lib.hid p6; have P7 := Lib.hid p7; clear hK hP p1 p2 p3 p4 p5 p6 p7
  clear hv hfr hsp hq
  go_enter Tryd.func4, Tryd.ntmps4
  go_upto_region 7 with (first | ((with_reducible refine iD 19 (.build 36 _) ?_); refine step_buildRq3 _ (.tmp 18) _ 1 2 T1 rfl rfl rfl gw ?_) | ((with_reducible refine iD 12 (.buildSlice 23 _ _) ?_); refine step_build8 S 1 _ [5] (by first | rfl | kernel_rfl) rfl (by decide) gw ?_; clear S; intro v12 w S) | (go_at_call 11; (with_reducible refine (P1.out _ _ (S.bs (v := v12) pk) kT).mono ?_); rintro e w1 ⟨v1, rfl, T⟩; replace S := S.call T; clear T; (try simp only [z4, z5] at S)) | ((with_reducible refine iD 2 (.alloc 34) ?_); refine step_alloc (dst := some 2) S 34 (.agg ((tokL tokZ).toArray)) ((tokL tokZ).toArray) kR rfl gw ?_; clear S; intro g2 w S) | ((with_reducible refine iO none (.store 34 (.tmp 2) (.tmp 15)) ?_); refine step_store S 34 (.tmp 2) (.tmp 15) _ _ rfl rfl _ _ pk 36 kR lN lN on1 gw ?_; clear S; intro w S) | ((with_reducible refine iO _ (.load 34 _) ?_); first | (refine step_load S 34 _ _ rfl _ _ _ pk _ Tryd.underlying34 rfl 36 kR lN gw ?_) | (refine step_loadO 34 _ _ rfl _ _ _ (S.old_heap (Hid.out (by assumption))) _ Tryd.underlying34 rfl 36 kR lN gw ?_) | (refine step_loadR 34 _ _ _ rfl _ (S.old_range hy) _ Tryd.underlying34 rfl 36 kR lN _ rfl gw ?_)) | (go_at_call 5; (with_reducible refine (P2.out _).mono ?_); rintro e w1 ⟨v4, rfl, T⟩; replace S := S.call T; clear T; (try simp only [z4, z5] at S)) | (go_at_call 6; (with_reducible refine (P3.out _ _ (S.bs (v := v4) pk)).mono ?_); rintro e w1 ⟨v6, v7, pv, rfl, T⟩; replace S := S.call T; clear T; (try simp only [z4, z5] at S); obtain ⟨g6, c6, rfl, _⟩ := S.row_at (v := v6) pk (by decide); obtain ⟨a7, c7, rfl, _, _⟩ := Sl.shape (S.bs (v := v7) pk)) | ((with_reducible refine iO _ (.load 23 _) ?_); refine step_load1 23 _ _ _ rfl (cL) _ Tryd.underlying23 rfl gw ?_) | (go_at_call 7; (with_reducible refine (P4.out _ _ (S.bs (v := pv) pk)).mono ?_); rintro e w1 ⟨rfl, T⟩; replace S := S.call T; clear T; (try simp only [z4, z5] at S)) | ((with_reducible refine iD 9 (.alloc 36) ?_); refine step_alloc (dst := some 9) S 36 (.agg ((rqL rqZ).toArray)) ((rqL rqZ).toArray) kR rfl gw ?_; clear S; intro g9 w S) | ((with_reducible refine iO none (.store 36 (.tmp 9) (.tmp 54)) ?_); refine step_store S 36 (.tmp 9) (.tmp 54) _ _ rfl rfl _ _ pk 40 kR lN lN on1 gw ?_; clear S; intro w S) | ((with_reducible refine iO _ (.load 5 _) ?_); refine step_load1 5 _ _ _ rfl (cL) _ Tryd.underlying5 rfl gw ?_) | ((with_reducible refine iD 65 (.buildSlice 23 _ _) ?_); refine step_build8 S 1 _ [5] (by first | rfl | kernel_rfl) rfl (by decide) gw ?_; clear S; intro v65 w S) | ((with_reducible refine iO _ (.load 34 _) ?_); first | (refine step_loadR 34 _ _ _ rfl _ (S.old_range hy) _ Tryd.underlying34 rfl 36 kR lN _ rfl gw ?_) | (refine step_loadP S 34 _ _ _ rfl _ _ _ pk 36 _ pT lN _ Tryd.underlying34 rfl kR gw ?_)) | ((with_reducible refine iD 75 (.buildSlice 23 _ _) ?_); refine step_build8 S 1 _ [5] (by first | rfl | kernel_rfl) rfl (by decide) gw ?_; clear S; intro v75 w S) | ((with_reducible refine iD 85 (.buildSlice 23 _ _) ?_); refine step_build8 S 1 _ [5] (by first | rfl | kernel_rfl) rfl (by decide) gw ?_; clear S; intro v85 w S) | fail)
  have S := S.sub (show Sub _ [rowM v1 ring5, blk g9 (.cells (rqL ⟨1, T1, 2, 0, 0⟩).toArray 36 (0, 0))] from (by repeat (first | exact Sub.nil _ | refine Sub.cons pk ?_)))
  have tk := rqL_tok ⟨1, T1, 2, 0, 0⟩
  have TK := Lib.hid tk; clear tk
  go_wp2_with (first | ((with_reducible refine iD 12 (.buildSlice 23 _ _) ?_); refine step_build8 S 1 _ [5] (by first | rfl | kernel_rfl) rfl (by decide) gw ?_; clear S; intro v12 w S) | ((with_reducible refine iD 2 (.alloc 34) ?_); refine step_alloc (dst := some 2) S 34 (.agg ((tokL tokZ).toArray)) ((tokL tokZ).toArray) kR rfl gw ?_; clear S; intro g2 w S) | ((with_reducible refine iO none (.store 34 (.tmp 2) (.tmp 15)) ?_); refine step_store S 34 (.tmp 2) (.tmp 15) _ _ rfl rfl _ _ pk 36 kR lN lN on1 gw ?_; clear S; intro w S) | ((with_reducible refine iO _ (.load 34 _) ?_); first | (refine step_load S 34 _ _ rfl _ _ _ pk _ Tryd.underlying34 rfl 36 kR lN gw ?_) | (refine step_loadO 34 _ _ rfl _ _ _ (S.old_heap (Hid.out (by assumption))) _ Tryd.underlying34 rfl 36 kR lN gw ?_) | (refine step_loadR 34 _ _ _ rfl _ (S.old_range hy) _ Tryd.underlying34 rfl 36 kR lN _ rfl gw ?_)) | ((with_reducible refine iO _ (.load 23 _) ?_); refine step_load1 23 _ _ _ rfl (cL) _ Tryd.underlying23 rfl gw ?_) | ((with_reducible refine iD 9 (.alloc 36) ?_); refine step_alloc (dst := some 9) S 36 (.agg ((rqL rqZ).toArray)) ((rqL rqZ).toArray) kR rfl gw ?_; clear S; intro g9 w S) | ((with_reducible refine iO none (.store 36 (.tmp 9) (.tmp 54)) ?_); refine step_store S 36 (.tmp 9) (.tmp 54) _ _ rfl rfl _ _ pk 40 kR lN lN on1 gw ?_; clear S; intro w S) | ((with_reducible refine iO _ (.load 5 _) ?_); refine step_load1 5 _ _ _ rfl (cL) _ Tryd.underlying5 rfl gw ?_) | ((with_reducible refine iD 65 (.buildSlice 23 _ _) ?_); refine step_build8 S 1 _ [5] (by first | rfl | kernel_rfl) rfl (by decide) gw ?_; clear S; intro v65 w S) | ((with_reducible refine iO _ (.load 34 _) ?_); first | (refine step_loadR 34 _ _ _ rfl _ (S.old_range hy) _ Tryd.underlying34 rfl 36 kR lN _ rfl gw ?_) | (refine step_loadP S 34 _ _ _ rfl _ _ _ pk 36 _ pT lN _ Tryd.underlying34 rfl kR gw ?_)) | ((with_reducible refine iD 75 (.buildSlice 23 _ _) ?_); refine step_build8 S 1 _ [5] (by first | rfl | kernel_rfl) rfl (by decide) gw ?_; clear S; intro v75 w S) | ((with_reducible refine iD 85 (.buildSlice 23 _ _) ?_); refine step_build8 S 1 _ [5] (by first | rfl | kernel_rfl) rfl (by decide) gw ?_; clear S; intro v85 w S) | (go_at_call 8; (with_reducible refine (P5.out _ _ _ (S.sl (v := v1) pk) (S.bs (v := v65) pk) kT (S.pt HP.out)).mono ?_); rintro e w1 ⟨rfl, T⟩; replace S := S.call T; clear T; simp only [List.nil_append] at S) | (go_at_call 8; (with_reducible refine (P6.out _ _ _ (S.sl (v := v1) pk) (S.bs (v := v75) pk) kT (S.pt HP.out)).mono ?_); rintro e w1 ⟨rfl, T⟩; replace S := S.call T; clear T; simp only [List.nil_append] at S) | (go_at_call 8; (with_reducible refine (P7.out _ _ _ (S.sl (v := v1) pk) (S.bs (v := v85) pk) kT (S.pt HP.out)).mono ?_); rintro e w1 ⟨rfl, T⟩; replace S := S.call T; clear T; simp only [List.nil_append] at S) | fail)
  go_ret
  exact ⟨rfl, S.nil⟩
end Go.Proofs.YtmcefinhmihmnaaDoor
