/- The reply of some bytes as the specification has it. No condition but the reach. -/
import Derived.Test.YtfhkmmagpnojmaaZBd
import Derived.Test.YtfhkmmagpnojmaaZRfT
import Derived.Test.YtfhkmmagpnojmaaZRfA
import Derived.Test.YtfhkmmagpnojmaaZDcP
import Derived.Test.YtfhkmmagpnojmaaZRcB
import Derived.Test.YtfhkmmagpnojmaaZSmF
set_option linter.unusedSimpArgs false
set_option linter.unusedVariables false
namespace Go.Proofs.Ytfhkmmagpnojmaa
open Go.RowKit

/-- The reply that the specification reads, body by body. -/
def rpQ (q : BK) (h : Rp) (b : List UInt8) : Rp := match q with
  | .n => h
  | .o => { h with order := i64N (atB b 13 2) }
  | .s => { h with state := UInt8.ofNat (atB b 13 1), done := UInt64.ofNat (atB b 14 8) }
  | .w => { h with robots := sgR b 13 (atB b 13 1), queued := i64N (atB b (14 + 4 * atB b 13 1) 1) }
  | .c => { h with count := UInt32.ofNat (atB b 13 4), records := rcR b 13 (atB b 17 1) }
  | .t => { h with tok := if b.length = 59 then decT (b.drop 13) else tokZ }
theorem rpP_bk (b : List UInt8) : rpP b = rpQ (bk (hdX b)) (hdX b) b := by
  rw [bk_hd]
  unfold rpP
  by_cases h0 : atB b 3 2 ≠ 0
  · simp only [if_pos h0]
    rfl
  · by_cases h1 : b.getD 2 0 = 1 ∨ b.getD 2 0 = 16
    · simp only [if_neg h0, if_pos h1]
      rfl
    · by_cases h3 : b.getD 2 0 = 3
      · simp only [if_neg h0, if_neg h1, if_pos h3]
        rfl
      · by_cases h4 : b.getD 2 0 = 4
        · simp only [if_neg h0, if_neg h1, if_neg h3, if_pos h4]
          rfl
        · by_cases h5 : b.getD 2 0 = 5
          · simp only [if_neg h0, if_neg h1, if_neg h3, if_neg h4, if_pos h5]
            rfl
          · by_cases h18 : b.getD 2 0 = 18
            · simp only [if_neg h0, if_neg h1, if_neg h3, if_neg h4, if_neg h5, if_pos h18]
              rfl
            · simp only [if_neg h0, if_neg h1, if_neg h3, if_neg h4, if_neg h5, if_neg h18]
              rfl
set_option maxRecDepth 100000 in
theorem does_buildRp3 {a : Act} {w : World} {dst : Option Tmp} {ty : TypeId} {pos : String} {after : Array Edge} {guard : Option (Nat × Bool)} {Post : Value → World → Prop} (x y z : Operand) (k : UInt8) (c : I64) (t : UInt64)
    (hx : a.eval x = by8 k) (hy : a.eval y = .int .i64 c.v) (hz : a.eval z = .int .u64 (t.toNat : Int))
    (h : Post (.agg (rpL (rpH k c t) nilV nilV).toArray) w) : does Try.prog a.eval ⟨dst, .build 53 #[(0, x), (1, y), (2, z)], ty, pos, after, guard⟩ w Post := by
  refine does_val (v := .agg (rpL (rpH k c t) nilV nilV).toArray) ?_ h
  have hp : (#[(0, x), (1, y), (2, z)].map fun (i, x) => (i, a.eval x)) = #[(0, .int .u8 (k.toNat : Int)), (1, .int .i64 c.v), (2, .int .u64 (t.toNat : Int))] := by simp [hx, hy, hz]
  have := build_rp3 k.toNat c.v t.toNat w
  simp only [execOp, hp, Sem.run_bind, this, Result.andThen_ok, Sem.run_pure]
  rfl
set_option maxRecDepth 100000 in
set_option maxHeartbeats 64000000 in
theorem refDecodeReply_s (bv : Value) (b : List UInt8) (w0 : World) (hb : Bs w0 bv b) (hl : b.length ≤ 140737488355328) :
    Calls Try.prog 23 #[bv] w0 (MadeRp w0 (dpR b) (dpE b)) := by
  have S := Has.start w0
  obtain ⟨a0, c0, rfl, k1, k2⟩ := Sl.shape hb
  unfold maxLen at k2
  by_cases h3 : b.length < 13
  · have hE : dpE b = 10 := if_pos h3
    have hR : dpR b = rpZ := if_neg (by rw [hE]; decide)
    rw [hE, hR]
    have i1 : (b.length : Int) < 13 := by omega
    have HB := Lib.hid hb; clear hb
    clear hE hR
    go_enter Try.func23, Try.ntmps23
    go_wp2_with (first | ((with_reducible refine iD 2 (.alloc 53) ?_); refine step_alloc (dst := some 2) S 53 (.agg ((rpL rpZ (.slice none 0 0) (.slice none 0 0)).toArray)) ((rpL rpZ (.slice none 0 0) (.slice none 0 0)).toArray) kR rfl gw ?_; clear S; intro g2 w S) | ((with_reducible refine iD 13 (.build 53 _) ?_); refine step_buildZ 53 (.agg ((rpL rpZ (.slice none 0 0) (.slice none 0 0)).toArray)) (fun w => by kernel_rfl) gw ?_) | ((with_reducible refine iO none (.store 53 (.tmp 2) (.tmp 13)) ?_); refine step_store S 53 (.tmp 2) (.tmp 13) _ _ rfl rfl _ _ pk 46 kR lN lN on1 gw ?_; clear S; intro w S) | ((with_reducible refine iO _ (.load 5 _) ?_); refine step_load1 5 _ _ _ rfl (cL) _ Try.underlying5 rfl gw ?_) | ((with_reducible refine iD 4 (.alloc 53) ?_); refine step_alloc (dst := some 4) S 53 (.agg ((rpL rpZ (.slice none 0 0) (.slice none 0 0)).toArray)) ((rpL rpZ (.slice none 0 0) (.slice none 0 0)).toArray) kR rfl gw ?_; clear S; intro g4 w S) | ((with_reducible refine iO none (.store 53 (.tmp 4) (.tmp 22)) ?_); refine step_store S 53 (.tmp 4) (.tmp 22) _ _ rfl rfl _ _ pk 46 kR lN lN on1 gw ?_; clear S; intro w S) | ((with_reducible refine iO _ (.load 24 _) ?_); refine step_load1 24 _ _ _ rfl (cL) _ Try.underlying24 rfl gw ?_) | ((with_reducible refine iO none (.store 3 (.tmp 34) (.tmp 33)) ?_); refine step_store1 S 3 (.tmp 34) (.tmp 33) _ _ (.int _ _) rfl rfl _ _ pk kR kR rfl lN gw ?_; clear S; intro w S; try simp only [List.setIfInBounds_toArray, List.set_cons_zero, List.set_cons_succ] at S) | ((with_reducible refine iO none (.store 5 (.tmp 40) (.tmp 39)) ?_); first | (refine step_store1 S 5 (.tmp 40) (.tmp 39) _ _ (.int _ _) rfl rfl _ _ pk kR rfl rfl lN gw ?_; clear S; intro w S; try simp only [List.setIfInBounds_toArray, List.set_cons_zero, List.set_cons_succ] at S) | (refine step_storeR S 5 (.tmp 40) (.tmp 39) _ _ (.int _ _) rfl rfl _ _ _ _ pk lE kR rfl rfl gw ?_; clear S; intro w S) | (refine step_storeS S 5 (.tmp 40) (.tmp 39) _ _ (.int _ _) rfl rfl _ _ _ _ _ pk lE kR rfl rfl gw ?_; clear S; intro w S)) | ((with_reducible refine iO none (.store 32 (.tmp 43) (.tmp 42)) ?_); first | (refine step_store1 S 32 (.tmp 43) (.tmp 42) _ _ (.int _ _) rfl rfl _ _ pk kR rfl rfl lN gw ?_; clear S; intro w S; try simp only [List.setIfInBounds_toArray, List.set_cons_zero, List.set_cons_succ] at S) | (refine step_storeR S 32 (.tmp 43) (.tmp 42) _ _ (.int _ _) rfl rfl _ _ _ _ pk lE kR rfl rfl gw ?_; clear S; intro w S) | (refine step_storeS S 32 (.tmp 43) (.tmp 42) _ _ (.int _ _) rfl rfl _ _ _ _ _ pk lE kR rfl rfl gw ?_; clear S; intro w S)) | ((with_reducible refine iO _ (.load 50 _) ?_); refine step_load1 50 _ _ _ rfl (cL) _ Try.underlying50 rfl gw ?_) | ((with_reducible refine iO none (.store 50 (.tmp 77) (.tmp 76)) ?_); first | (refine step_store1 S 50 (.tmp 77) (.tmp 76) _ _ (.slice _ _ _) rfl rfl _ _ pk kR rfl rfl lN gw ?_; clear S; intro w S; try simp only [List.setIfInBounds_toArray, List.set_cons_zero, List.set_cons_succ] at S) | (refine step_storeR S 50 (.tmp 77) (.tmp 76) _ _ (.slice _ _ _) rfl rfl _ _ _ _ pk lE kR rfl rfl gw ?_; clear S; intro w S) | (refine step_storeS S 50 (.tmp 77) (.tmp 76) _ _ (.slice _ _ _) rfl rfl _ _ _ _ _ pk lE kR rfl rfl gw ?_; clear S; intro w S)) | ((with_reducible refine iO none (.store 3 (.tmp 84) (.tmp 83)) ?_); refine step_store1 S 3 (.tmp 84) (.tmp 83) _ _ (.int _ _) rfl rfl _ _ pk kR kR rfl lN gw ?_; clear S; intro w S; try simp only [List.setIfInBounds_toArray, List.set_cons_zero, List.set_cons_succ] at S) | ((with_reducible refine iO none (.store 33 (.tmp 90) (.tmp 89)) ?_); first | (refine step_store1 S 33 (.tmp 90) (.tmp 89) _ _ (.int _ _) rfl rfl _ _ pk kR rfl rfl lN gw ?_; clear S; intro w S; try simp only [List.setIfInBounds_toArray, List.set_cons_zero, List.set_cons_succ] at S) | (refine step_storeR S 33 (.tmp 90) (.tmp 89) _ _ (.int _ _) rfl rfl _ _ _ _ pk lE kR rfl rfl gw ?_; clear S; intro w S) | (refine step_storeS S 33 (.tmp 90) (.tmp 89) _ _ (.int _ _) rfl rfl _ _ _ _ _ pk lE kR rfl rfl gw ?_; clear S; intro w S)) | ((with_reducible refine iO _ (.load 51 _) ?_); refine step_load1 51 _ _ _ rfl (cL) _ Try.underlying51 rfl gw ?_) | (at_builtin; refine step_appendRc S (.tmp 103) (.tmp 122) _ _ rfl pk _ _ rfl sL lE gw ?_; clear S; intro v123 w S; (try simp only [z4] at S)) | ((with_reducible refine iO none (.store 51 (.tmp 124) (.tmp 123)) ?_); first | (refine step_store1 S 51 (.tmp 124) (.tmp 123) _ _ (.slice _ _ _) rfl rfl _ _ pk kR rfl rfl lN gw ?_; clear S; intro w S; try simp only [List.setIfInBounds_toArray, List.set_cons_zero, List.set_cons_succ] at S) | (refine step_storeR S 51 (.tmp 124) (.tmp 123) _ _ (.slice _ _ _) rfl rfl _ _ _ _ pk lE kR rfl rfl gw ?_; clear S; intro w S) | (refine step_storeS S 51 (.tmp 124) (.tmp 123) _ _ (.slice _ _ _) rfl rfl _ _ _ _ _ pk lE kR rfl rfl gw ?_; clear S; intro w S)) | ((with_reducible refine iO _ (.slice 22 _ _ _ _) ?_); refine step_cutL 22 5 1 _ _ _ _ _ _ _ 13 rfl rfl (by first | rfl | omega) (by first | (first | omega | assumption | (exact Hid.out (by assumption)) | (simp only [List.length_append, List.length_cons, List.length_nil]; omega)) | decide) Try.underlying22 kR gw ?_) | ((with_reducible refine iO none (.store 36 (.tmp 136) (.tmp 134)) ?_); refine step_store S 36 (.tmp 136) (.tmp 134) _ _ rfl rfl _ _ pk 36 kR lN lN on1 gw ?_; clear S; intro w S) | ((with_reducible refine iO _ (.load 53 _) ?_); first | (refine step_load S 53 _ _ rfl _ _ _ pk _ Try.underlying53 rfl 46 kR lN gw ?_) | (refine step_loadO 53 _ _ rfl _ _ _ (S.old_heap (Hid.out (by assumption))) _ Try.underlying53 rfl 46 kR lN gw ?_) | (refine step_loadR 53 _ _ _ rfl _ (S.old_range hy) _ Try.underlying53 rfl 46 kR lN _ rfl gw ?_)) | ((with_reducible refine iO _ (.convert 22 9 _) ?_); refine step_conv 22 9 5 _ _ _ rfl Try.underlying22 Try.underlying5 Try.underlying9 bS gw ?_) | ((with_reducible refine iD 148 (.build 53 _) ?_); refine step_buildZ 53 (.agg ((rpL rpZ (.slice none 0 0) (.slice none 0 0)).toArray)) (fun w => by kernel_rfl) gw ?_) | ((with_reducible refine iO none (.store 53 (.tmp 2) (.tmp 148)) ?_); refine step_store S 53 (.tmp 2) (.tmp 148) _ _ rfl rfl _ _ pk 46 kR lN lN on1 gw ?_; clear S; intro w S) | ((with_reducible refine iO none (.store 53 (.tmp 2) (.tmp 149)) ?_); refine step_store S 53 (.tmp 2) (.tmp 149) _ _ rfl rfl _ _ pk 46 kR lN lN on1 gw ?_; clear S; intro w S) | fail)
    refine ret_row_tmp rfl g2 53 _ (S.get pk) _ Try.underlying53 46 kR lN rfl rfl rfl ?_
    exact ⟨nilV, nilV, rfl, S.nil.zRp⟩
  have i1 : ¬ (b.length : Int) < 13 := by omega
  have i2 : (2 : Int) < (b.length : Int) := by omega
  have hE0 : dpE b = if dpOk b then 0 else 11 := if_neg h3
  have hOk := ref_dpOk b (psz_lt b)
  obtain ⟨bb, off, rfl, hjunk⟩ := hb.atA (by omega)
  clear hjunk
  have hc2 := hb.cell rfl 2 (by omega)
  have pat := fun i n ii ni h1 h2 w hb hi hn => refAt_s (.slice (some ⟨bb, off, none⟩) b.length c0) b i n ii ni h1 h2 w hb hl hi hn
  have plk := fun i ii h1 w hb hi => refLink_b (.slice (some ⟨bb, off, none⟩) b.length c0) b i ii h1 w hb hl hi
  have p3 := fun w hb => pat 3 2 3 2 rfl rfl w hb (by decide) (by decide)
  have p5 := fun w hb => pat 5 8 5 8 rfl rfl w hb (by decide) (by decide)
  have lt3 := atB_lt b 3 2
  have hc3 : (atB b 3 2 : Int) = (i64N (atB b 3 2)).v := (i2_at b 3).symm
  have ht5 : (atB b 5 8 : Int) = ((UInt64.ofNat (atB b 5 8)).toNat : Int) := by rw [u64_at]
  have hh : hdX b = rpH (b.getD 2 0) (i64N (atB b 3 2)) (UInt64.ofNat (atB b 5 8)) := rfl
  have hk := bk_cases (hdX b)
  have hR := rpP_bk b
  obtain ⟨q, hq⟩ : ∃ q, q = bk (hdX b) := ⟨_, rfl⟩
  rw [← hq] at hk hR
  rw [hh] at hk hR
  obtain ⟨k, hke⟩ : ∃ k, k = b.getD 2 0 := ⟨_, rfl⟩
  obtain ⟨c, hce⟩ : ∃ c, c = i64N (atB b 3 2) := ⟨_, rfl⟩
  obtain ⟨t, hte⟩ : ∃ t, t = UInt64.ofNat (atB b 5 8) := ⟨_, rfl⟩
  rw [← hke] at hk hR hc2
  rw [← hce] at hk hR hc3
  rw [← hte] at hk hR ht5
  obtain ⟨A3, hA3⟩ : ∃ A, A = atB b 3 2 := ⟨_, rfl⟩
  obtain ⟨A5, hA5⟩ : ∃ A, A = atB b 5 8 := ⟨_, rfl⟩
  rw [← hA3] at p3 lt3 hc3
  rw [← hA5] at p5 ht5
  have pv := fun vr vc w h1 h2 => refValidReply_s (rpP b) vr vc w h1 h2
  have pe := fun vr vc w hv h1 h2 => refEncodeReply_s (rpP b) vr vc w hv h1 h2
  have hDR : dpR b = if dpE b = 0 then rpP b else rpZ := rfl
  obtain ⟨R, hRe⟩ : ∃ R, R = rpP b := ⟨_, rfl⟩
  rw [← hRe] at hR pv pe hOk hDR
  have q0 : (rpL (rpH k c t) nilV nilV).toArray[0]? = some (.int .u8 (k.toNat : Int)) := rfl
  have q1 : (rpL (rpH k c t) nilV nilV).toArray[1]? = some (.int .i64 c.v) := rfl
  replace hk : ((c.v != 0) = true ∧ q = .n) ∨ ((c.v != 0) = false ∧ ((((k.toNat : Int) == 1) = true ∧ q = .o) ∨ (((k.toNat : Int) == 1) = false ∧ ((((k.toNat : Int) == 16) = true ∧ q = .o) ∨ (((k.toNat : Int) == 16) = false ∧ ((((k.toNat : Int) == 3) = true ∧ q = .s) ∨ (((k.toNat : Int) == 3) = false ∧ ((((k.toNat : Int) == 4) = true ∧ q = .w) ∨ (((k.toNat : Int) == 4) = false ∧ ((((k.toNat : Int) == 5) = true ∧ q = .c) ∨ (((k.toNat : Int) == 5) = false ∧ ((((k.toNat : Int) == 18) = true ∧ q = .t) ∨ (((k.toNat : Int) == 18) = false ∧ q = .n))))))))))))) := hk
  obtain ⟨M, hM⟩ : ∃ N, N = c.v := ⟨_, rfl⟩
  rw [← hM] at hk q1
  clear hq hke hce hte hA3 hA5 hh hRe h3
  have HB := Lib.hid hb; have HE0 := Lib.hid hE0; have HOK := Lib.hid hOk; have HC2 := Lib.hid hc2; have PAT := Lib.hid pat; have PLK := Lib.hid plk; have P3 := Lib.hid p3; have P5 := Lib.hid p5; have HC3 := Lib.hid hc3; have HT5 := Lib.hid ht5; have HR := Lib.hid hR; have PV := Lib.hid pv; have PE := Lib.hid pe; have HDR := Lib.hid hDR; have Q0 := Lib.hid q0; have Q1 := Lib.hid q1; have HM := Lib.hid hM; clear hb hE0 hOk hc2 pat plk p3 p5 hc3 ht5 hR pv pe hDR q0 q1 hM
  go_enter Try.func23, Try.ntmps23
  go_upto_region 3 with (first | ((with_reducible refine iD 2 (.alloc 53) ?_); refine step_alloc (dst := some 2) S 53 (.agg ((rpL rpZ (.slice none 0 0) (.slice none 0 0)).toArray)) ((rpL rpZ (.slice none 0 0) (.slice none 0 0)).toArray) kR rfl gw ?_; clear S; intro g2 w S) | ((with_reducible refine iD 13 (.build 53 _) ?_); refine step_buildZ 53 (.agg ((rpL rpZ (.slice none 0 0) (.slice none 0 0)).toArray)) (fun w => by kernel_rfl) gw ?_) | ((with_reducible refine iO none (.store 53 (.tmp 2) (.tmp 13)) ?_); refine step_store S 53 (.tmp 2) (.tmp 13) _ _ rfl rfl _ _ pk 46 kR lN lN on1 gw ?_; clear S; intro w S) | ((with_reducible refine iO _ (.load 5 _) ?_); refine step_load1 5 _ _ _ rfl (cL) _ Try.underlying5 rfl gw ?_) | ((with_reducible refine iD 4 (.alloc 53) ?_); refine step_alloc (dst := some 4) S 53 (.agg ((rpL rpZ (.slice none 0 0) (.slice none 0 0)).toArray)) ((rpL rpZ (.slice none 0 0) (.slice none 0 0)).toArray) kR rfl gw ?_; clear S; intro g4 w S) | ((with_reducible refine iO none (.store 53 (.tmp 4) (.tmp 22)) ?_); refine step_store S 53 (.tmp 4) (.tmp 22) _ _ rfl rfl _ _ pk 46 kR lN lN on1 gw ?_; clear S; intro w S) | ((with_reducible refine iO _ (.load 24 _) ?_); refine step_load1 24 _ _ _ rfl (cL) _ Try.underlying24 rfl gw ?_) | ((with_reducible refine iO none (.store 3 (.tmp 34) (.tmp 33)) ?_); refine step_store1 S 3 (.tmp 34) (.tmp 33) _ _ (.int _ _) rfl rfl _ _ pk kR kR rfl lN gw ?_; clear S; intro w S; try simp only [List.setIfInBounds_toArray, List.set_cons_zero, List.set_cons_succ] at S) | ((with_reducible refine iO none (.store 5 (.tmp 40) (.tmp 39)) ?_); first | (refine step_store1 S 5 (.tmp 40) (.tmp 39) _ _ (.int _ _) rfl rfl _ _ pk kR rfl rfl lN gw ?_; clear S; intro w S; try simp only [List.setIfInBounds_toArray, List.set_cons_zero, List.set_cons_succ] at S) | (refine step_storeR S 5 (.tmp 40) (.tmp 39) _ _ (.int _ _) rfl rfl _ _ _ _ pk lE kR rfl rfl gw ?_; clear S; intro w S) | (refine step_storeS S 5 (.tmp 40) (.tmp 39) _ _ (.int _ _) rfl rfl _ _ _ _ _ pk lE kR rfl rfl gw ?_; clear S; intro w S)) | ((with_reducible refine iO none (.store 32 (.tmp 43) (.tmp 42)) ?_); first | (refine step_store1 S 32 (.tmp 43) (.tmp 42) _ _ (.int _ _) rfl rfl _ _ pk kR rfl rfl lN gw ?_; clear S; intro w S; try simp only [List.setIfInBounds_toArray, List.set_cons_zero, List.set_cons_succ] at S) | (refine step_storeR S 32 (.tmp 43) (.tmp 42) _ _ (.int _ _) rfl rfl _ _ _ _ pk lE kR rfl rfl gw ?_; clear S; intro w S) | (refine step_storeS S 32 (.tmp 43) (.tmp 42) _ _ (.int _ _) rfl rfl _ _ _ _ _ pk lE kR rfl rfl gw ?_; clear S; intro w S)) | ((with_reducible refine iO _ (.load 50 _) ?_); refine step_load1 50 _ _ _ rfl (cL) _ Try.underlying50 rfl gw ?_) | ((with_reducible refine iO none (.store 50 (.tmp 77) (.tmp 76)) ?_); first | (refine step_store1 S 50 (.tmp 77) (.tmp 76) _ _ (.slice _ _ _) rfl rfl _ _ pk kR rfl rfl lN gw ?_; clear S; intro w S; try simp only [List.setIfInBounds_toArray, List.set_cons_zero, List.set_cons_succ] at S) | (refine step_storeR S 50 (.tmp 77) (.tmp 76) _ _ (.slice _ _ _) rfl rfl _ _ _ _ pk lE kR rfl rfl gw ?_; clear S; intro w S) | (refine step_storeS S 50 (.tmp 77) (.tmp 76) _ _ (.slice _ _ _) rfl rfl _ _ _ _ _ pk lE kR rfl rfl gw ?_; clear S; intro w S)) | ((with_reducible refine iO none (.store 3 (.tmp 84) (.tmp 83)) ?_); refine step_store1 S 3 (.tmp 84) (.tmp 83) _ _ (.int _ _) rfl rfl _ _ pk kR kR rfl lN gw ?_; clear S; intro w S; try simp only [List.setIfInBounds_toArray, List.set_cons_zero, List.set_cons_succ] at S) | ((with_reducible refine iO none (.store 33 (.tmp 90) (.tmp 89)) ?_); first | (refine step_store1 S 33 (.tmp 90) (.tmp 89) _ _ (.int _ _) rfl rfl _ _ pk kR rfl rfl lN gw ?_; clear S; intro w S; try simp only [List.setIfInBounds_toArray, List.set_cons_zero, List.set_cons_succ] at S) | (refine step_storeR S 33 (.tmp 90) (.tmp 89) _ _ (.int _ _) rfl rfl _ _ _ _ pk lE kR rfl rfl gw ?_; clear S; intro w S) | (refine step_storeS S 33 (.tmp 90) (.tmp 89) _ _ (.int _ _) rfl rfl _ _ _ _ _ pk lE kR rfl rfl gw ?_; clear S; intro w S)) | ((with_reducible refine iO _ (.load 51 _) ?_); refine step_load1 51 _ _ _ rfl (cL) _ Try.underlying51 rfl gw ?_) | (at_builtin; refine step_appendRc S (.tmp 103) (.tmp 122) _ _ rfl pk _ _ rfl sL lE gw ?_; clear S; intro v123 w S; (try simp only [z4] at S)) | ((with_reducible refine iO none (.store 51 (.tmp 124) (.tmp 123)) ?_); first | (refine step_store1 S 51 (.tmp 124) (.tmp 123) _ _ (.slice _ _ _) rfl rfl _ _ pk kR rfl rfl lN gw ?_; clear S; intro w S; try simp only [List.setIfInBounds_toArray, List.set_cons_zero, List.set_cons_succ] at S) | (refine step_storeR S 51 (.tmp 124) (.tmp 123) _ _ (.slice _ _ _) rfl rfl _ _ _ _ pk lE kR rfl rfl gw ?_; clear S; intro w S) | (refine step_storeS S 51 (.tmp 124) (.tmp 123) _ _ (.slice _ _ _) rfl rfl _ _ _ _ _ pk lE kR rfl rfl gw ?_; clear S; intro w S)) | ((with_reducible refine iO _ (.slice 22 _ _ _ _) ?_); refine step_cutL 22 5 1 _ _ _ _ _ _ _ 13 rfl rfl (by first | rfl | omega) (by first | (first | omega | assumption | (exact Hid.out (by assumption)) | (simp only [List.length_append, List.length_cons, List.length_nil]; omega)) | decide) Try.underlying22 kR gw ?_) | ((with_reducible refine iO none (.store 36 (.tmp 136) (.tmp 134)) ?_); refine step_store S 36 (.tmp 136) (.tmp 134) _ _ rfl rfl _ _ pk 36 kR lN lN on1 gw ?_; clear S; intro w S) | ((with_reducible refine iO _ (.load 53 _) ?_); first | (refine step_load S 53 _ _ rfl _ _ _ pk _ Try.underlying53 rfl 46 kR lN gw ?_) | (refine step_loadO 53 _ _ rfl _ _ _ (S.old_heap (Hid.out (by assumption))) _ Try.underlying53 rfl 46 kR lN gw ?_) | (refine step_loadR 53 _ _ _ rfl _ (S.old_range hy) _ Try.underlying53 rfl 46 kR lN _ rfl gw ?_)) | ((with_reducible refine iO _ (.convert 22 9 _) ?_); refine step_conv 22 9 5 _ _ _ rfl Try.underlying22 Try.underlying5 Try.underlying9 bS gw ?_) | ((with_reducible refine iD 148 (.build 53 _) ?_); refine step_buildZ 53 (.agg ((rpL rpZ (.slice none 0 0) (.slice none 0 0)).toArray)) (fun w => by kernel_rfl) gw ?_) | ((with_reducible refine iO none (.store 53 (.tmp 2) (.tmp 148)) ?_); refine step_store S 53 (.tmp 2) (.tmp 148) _ _ rfl rfl _ _ pk 46 kR lN lN on1 gw ?_; clear S; intro w S) | ((with_reducible refine iO none (.store 53 (.tmp 2) (.tmp 149)) ?_); refine step_store S 53 (.tmp 2) (.tmp 149) _ _ rfl rfl _ _ pk 46 kR lN lN on1 gw ?_; clear S; intro w S) | fail)
  refine wp_rely S [⟨[], [], [], fun _ v => v = (.slice (some ⟨bb, off, none⟩) b.length c0), fun _ v => []⟩, ⟨[0], [], [], fun _ v => v = .pointer (some ⟨bb, off + 2, none⟩), fun _ v => []⟩, ⟨[0, 1], [], [], fun _ v => v = by8 k, fun _ v => []⟩, ⟨[], [], [], fun _ v => v = (.slice (some ⟨bb, off, none⟩) b.length c0), fun _ v => []⟩, ⟨[3], [], [], fun _ v => v = .int .u64 (A3 : Int), fun _ v => []⟩, ⟨[3, 4], [], [], fun _ v => v = .int .i64 (A3 : Int), fun _ v => []⟩, ⟨[], [], [], fun _ v => v = (.slice (some ⟨bb, off, none⟩) b.length c0), fun _ v => []⟩, ⟨[3, 4, 6], [], [], fun _ v => v = .int .u64 (A5 : Int), fun _ v => []⟩, ⟨[0, 1, 2, 3, 4, 5, 6, 7], [], [], fun _ v => v = .agg (rpL (rpH k c t) nilV nilV).toArray, fun _ v => []⟩, ⟨[], [], [], fun _ v => ∃ g, v = .pointer (some ⟨g, 0, none⟩), fun _ v => [blk (ptrBlk v) (.cells ((rpL rpZ (.slice none 0 0) (.slice none 0 0)).toArray) 53 (0, 0))]⟩, ⟨[0, 1, 2, 3, 4, 5, 6, 7, 8, 9], [9], [], fun _ v => True, fun d v => [blk (ptrBlk (d 9)) (.cells ((rpL (rpH k c t) nilV nilV).toArray) 53 (0, 0))]⟩] ?A1 ?hA1 kR kR kR [0, 1, 2, 3, 4, 5, 6, 7, 8, 10] kR ?hok1 ?fin1
  case hA1 => intro u; simp only [putAll, List.length_cons, List.length_nil, Nat.zero_add, Nat.reduceAdd, dstAt, List.getElem?_toArray, List.getElem?_cons_zero, List.getElem?_cons_succ, Option.bind_some, Act.put, List.setIfInBounds_toArray, List.set_cons_zero, List.set_cons_succ]; rfl
  case hok1 =>
    intro i hi
    obtain rfl | rfl | rfl | rfl | rfl | rfl | rfl | rfl | rfl | rfl | rfl : i = 0 ∨ i = 1 ∨ i = 2 ∨ i = 3 ∨ i = 4 ∨ i = 5 ∨ i = 6 ∨ i = 7 ∨ i = 8 ∨ i = 9 ∨ i = 10 := by simp only [List.length_cons, List.length_nil, Nat.zero_add, Nat.reduceAdd] at hi; omega
    · clear hi
      refine step_of rfl rfl rfl ?_
      intro u G w hf S
      simp only [resOf, spec, RSpec.resAt, z0, z1, z2, z3, z4, z5, z6, z7, ptrBlk] at S ⊢
      simp only [does]
      go_simp
      try first | exact S | exact ⟨vv, S⟩ | exact vv
    · clear hi
      refine step_of rfl rfl rfl ?_
      intro u G w hf S
      have f0 : u 0 = (.slice (some ⟨bb, off, none⟩) b.length c0) := hf 0 (by simp)
      simp only [resOf, spec, RSpec.resAt, z0, z1, z2, z3, z4, z5, z6, z7, ptrBlk] at S ⊢
      simp only [f0]
      simp only [does]
      go_simp
      try first | exact S | exact ⟨vv, S⟩ | exact vv
    · clear hi
      refine step_of rfl rfl rfl ?_
      intro u G w hf S
      have f1 : u 1 = .pointer (some ⟨bb, off + 2, none⟩) := hf 1 (by simp)
      simp only [resOf, spec, RSpec.resAt, z0, z1, z2, z3, z4, z5, z6, z7, ptrBlk] at S ⊢
      simp only [f1]
      refine does_load1 5 (.tmp 15) _ _ rfl (S.old_cell hy) _ Try.underlying5 rfl ?_; exact ⟨rfl, S⟩
    · clear hi
      refine step_of rfl rfl rfl ?_
      intro u G w hf S
      simp only [resOf, spec, RSpec.resAt, z0, z1, z2, z3, z4, z5, z6, z7, ptrBlk] at S ⊢
      simp only [does]
      go_simp
      try first | exact S | exact ⟨vv, S⟩ | exact vv
    · clear hi
      refine step_of rfl rfl rfl ?_
      intro u G w hf S
      have f3 : u 3 = (.slice (some ⟨bb, off, none⟩) b.length c0) := hf 3 (by simp)
      simp only [resOf, spec, RSpec.resAt, z0, z1, z2, z3, z4, z5, z6, z7, ptrBlk] at S ⊢
      simp only [f3]
      refine does_fn (args := [((.slice (some ⟨bb, off, none⟩) b.length c0)), (.int .i64 3), (.int .i64 2)]) Try.func49 kR kR (P3.out w (S.oldB HB.out)) rfl ?_
      rintro e w1 ⟨rfl, T⟩
      exact ⟨_, rfl, rfl, S.call T⟩
    · clear hi
      refine step_of rfl rfl rfl ?_
      intro u G w hf S
      have f4 : u 4 = .int .u64 (A3 : Int) := hf 4 (by simp)
      simp only [resOf, spec, RSpec.resAt, z0, z1, z2, z3, z4, z5, z6, z7, ptrBlk] at S ⊢
      simp only [f4]
      simp only [does]
      go_simp
      try first | exact S | exact ⟨vv, S⟩ | exact vv
    · clear hi
      refine step_of rfl rfl rfl ?_
      intro u G w hf S
      simp only [resOf, spec, RSpec.resAt, z0, z1, z2, z3, z4, z5, z6, z7, ptrBlk] at S ⊢
      simp only [does]
      go_simp
      try first | exact S | exact ⟨vv, S⟩ | exact vv
    · clear hi
      refine step_of rfl rfl rfl ?_
      intro u G w hf S
      have f6 : u 6 = (.slice (some ⟨bb, off, none⟩) b.length c0) := hf 6 (by simp)
      simp only [resOf, spec, RSpec.resAt, z0, z1, z2, z3, z4, z5, z6, z7, ptrBlk] at S ⊢
      simp only [f6]
      refine does_fn (args := [((.slice (some ⟨bb, off, none⟩) b.length c0)), (.int .i64 5), (.int .i64 8)]) Try.func49 kR kR (P5.out w (S.oldB HB.out)) rfl ?_
      rintro e w1 ⟨rfl, T⟩
      exact ⟨_, rfl, rfl, S.call T⟩
    · clear hi
      refine step_of rfl rfl rfl ?_
      intro u G w hf S
      have f2 : u 2 = by8 k := hf 2 (by simp)
      have f5 : u 5 = .int .i64 (A3 : Int) := hf 5 (by simp)
      have f7 : u 7 = .int .u64 (A5 : Int) := hf 7 (by simp)
      simp only [resOf, spec, RSpec.resAt, z0, z1, z2, z3, z4, z5, z6, z7, ptrBlk] at S ⊢
      simp only [f2, f5, f7]
      refine does_buildRp3 (.tmp 16) (.tmp 19) (.tmp 21) k c t rfl (show Value.int .i64 _ = Value.int .i64 _ by rw [HC3.out]) (show Value.int .u64 _ = Value.int .u64 _ by rw [HT5.out]) ?_; exact ⟨rfl, S⟩
    · clear hi
      refine step_of rfl rfl rfl ?_
      intro u G w hf S
      simp only [resOf, spec, RSpec.resAt, z0, z1, z2, z3, z4, z5, z6, z7, ptrBlk] at S ⊢
      refine does_alloc S 53 (.agg ((rpL rpZ (.slice none 0 0) (.slice none 0 0)).toArray)) ((rpL rpZ (.slice none 0 0) (.slice none 0 0)).toArray) kR rfl ?_; intro g w1 S; exact ⟨⟨g, rfl⟩, S⟩
    · clear hi
      refine step_of rfl rfl rfl ?_
      intro u G w hf S
      have f8 : u 8 = .agg (rpL (rpH k c t) nilV nilV).toArray := hf 8 (by simp)
      have f9 : ∃ g, u 9 = .pointer (some ⟨g, 0, none⟩) := hf 9 (by simp)
      obtain ⟨g4, f9⟩ := f9
      have m9 : mask [0, 1, 2, 3, 4, 5, 6, 7, 8, 9] u 9 = u 9 := rfl
      simp only [resOf, spec, RSpec.resAt, List.getD_cons_zero, List.getD_cons_succ, List.flatMap_cons, List.flatMap_nil, List.nil_append, List.cons_append, List.append_nil, List.append_assoc, m9, ptrBlk] at S ⊢
      simp only [m9, f8, f9] at S ⊢
      try simp only [ptrBlk] at S
      refine does_store S 53 (.tmp 4) (.tmp 22) _ rfl rfl 46 kR lN lN on1 ?_; intro w1 S; exact ⟨trivial, S⟩
  case fin1 =>
    intro u w hf S
    have f0 : u 0 = (.slice (some ⟨bb, off, none⟩) b.length c0) := hf 0 (by simp)
    have f1 : u 1 = .pointer (some ⟨bb, off + 2, none⟩) := hf 1 (by simp)
    have f2 : u 2 = by8 k := hf 2 (by simp)
    have f3 : u 3 = (.slice (some ⟨bb, off, none⟩) b.length c0) := hf 3 (by simp)
    have f4 : u 4 = .int .u64 (A3 : Int) := hf 4 (by simp)
    have f5 : u 5 = .int .i64 (A3 : Int) := hf 5 (by simp)
    have f6 : u 6 = (.slice (some ⟨bb, off, none⟩) b.length c0) := hf 6 (by simp)
    have f7 : u 7 = .int .u64 (A5 : Int) := hf 7 (by simp)
    have f8 : u 8 = .agg (rpL (rpH k c t) nilV nilV).toArray := hf 8 (by simp)
    have f9 : ∃ g, u 9 = .pointer (some ⟨g, 0, none⟩) := hf 9 (by simp)
    obtain ⟨g4, f9⟩ := f9
    have m10_9 : mask [0, 1, 2, 3, 4, 5, 6, 7, 8, 9] u 9 = u 9 := rfl
    simp only [resOf, spec, RSpec.resAt, List.getD_cons_zero, List.getD_cons_succ, List.flatMap_cons, List.flatMap_nil, List.nil_append, List.cons_append, List.append_nil, List.append_assoc, m10_9, ptrBlk] at S
    clear hf
    simp only [List.length_cons, List.length_nil, Nat.zero_add, Nat.reduceAdd, List.drop_succ_cons, List.drop_zero, f0, f1, f2, f3, f4, f5, f6, f7, f8, f9]
    try simp only [f0, f1, f2, f3, f4, f5, f6, f7, f8, f9, ptrBlk] at S
    clear f0 f1 f2 f3 f4 f5 f6 f7 f8 f9 m10_9
    clear HC2 P3 P5 HC3 HT5 lt3
    go_upto_if 25 with (first | ((with_reducible refine iD 2 (.alloc 53) ?_); refine step_alloc (dst := some 2) S 53 (.agg ((rpL rpZ (.slice none 0 0) (.slice none 0 0)).toArray)) ((rpL rpZ (.slice none 0 0) (.slice none 0 0)).toArray) kR rfl gw ?_; clear S; intro g2 w S) | ((with_reducible refine iD 13 (.build 53 _) ?_); refine step_buildZ 53 (.agg ((rpL rpZ (.slice none 0 0) (.slice none 0 0)).toArray)) (fun w => by kernel_rfl) gw ?_) | ((with_reducible refine iO none (.store 53 (.tmp 2) (.tmp 13)) ?_); refine step_store S 53 (.tmp 2) (.tmp 13) _ _ rfl rfl _ _ pk 46 kR lN lN on1 gw ?_; clear S; intro w S) | ((with_reducible refine iO _ (.load 5 _) ?_); refine step_load1 5 _ _ _ rfl (cL) _ Try.underlying5 rfl gw ?_) | ((with_reducible refine iD 4 (.alloc 53) ?_); refine step_alloc (dst := some 4) S 53 (.agg ((rpL rpZ (.slice none 0 0) (.slice none 0 0)).toArray)) ((rpL rpZ (.slice none 0 0) (.slice none 0 0)).toArray) kR rfl gw ?_; clear S; intro g4 w S) | ((with_reducible refine iO none (.store 53 (.tmp 4) (.tmp 22)) ?_); refine step_store S 53 (.tmp 4) (.tmp 22) _ _ rfl rfl _ _ pk 46 kR lN lN on1 gw ?_; clear S; intro w S) | ((with_reducible refine iO _ (.load 24 _) ?_); refine step_load1 24 _ _ _ rfl (cL) _ Try.underlying24 rfl gw ?_) | ((with_reducible refine iO none (.store 3 (.tmp 34) (.tmp 33)) ?_); refine step_store1 S 3 (.tmp 34) (.tmp 33) _ _ (.int _ _) rfl rfl _ _ pk kR kR rfl lN gw ?_; clear S; intro w S; try simp only [List.setIfInBounds_toArray, List.set_cons_zero, List.set_cons_succ] at S) | ((with_reducible refine iO none (.store 5 (.tmp 40) (.tmp 39)) ?_); first | (refine step_store1 S 5 (.tmp 40) (.tmp 39) _ _ (.int _ _) rfl rfl _ _ pk kR rfl rfl lN gw ?_; clear S; intro w S; try simp only [List.setIfInBounds_toArray, List.set_cons_zero, List.set_cons_succ] at S) | (refine step_storeR S 5 (.tmp 40) (.tmp 39) _ _ (.int _ _) rfl rfl _ _ _ _ pk lE kR rfl rfl gw ?_; clear S; intro w S) | (refine step_storeS S 5 (.tmp 40) (.tmp 39) _ _ (.int _ _) rfl rfl _ _ _ _ _ pk lE kR rfl rfl gw ?_; clear S; intro w S)) | ((with_reducible refine iO none (.store 32 (.tmp 43) (.tmp 42)) ?_); first | (refine step_store1 S 32 (.tmp 43) (.tmp 42) _ _ (.int _ _) rfl rfl _ _ pk kR rfl rfl lN gw ?_; clear S; intro w S; try simp only [List.setIfInBounds_toArray, List.set_cons_zero, List.set_cons_succ] at S) | (refine step_storeR S 32 (.tmp 43) (.tmp 42) _ _ (.int _ _) rfl rfl _ _ _ _ pk lE kR rfl rfl gw ?_; clear S; intro w S) | (refine step_storeS S 32 (.tmp 43) (.tmp 42) _ _ (.int _ _) rfl rfl _ _ _ _ _ pk lE kR rfl rfl gw ?_; clear S; intro w S)) | ((with_reducible refine iO _ (.load 50 _) ?_); refine step_load1 50 _ _ _ rfl (cL) _ Try.underlying50 rfl gw ?_) | ((with_reducible refine iO none (.store 50 (.tmp 77) (.tmp 76)) ?_); first | (refine step_store1 S 50 (.tmp 77) (.tmp 76) _ _ (.slice _ _ _) rfl rfl _ _ pk kR rfl rfl lN gw ?_; clear S; intro w S; try simp only [List.setIfInBounds_toArray, List.set_cons_zero, List.set_cons_succ] at S) | (refine step_storeR S 50 (.tmp 77) (.tmp 76) _ _ (.slice _ _ _) rfl rfl _ _ _ _ pk lE kR rfl rfl gw ?_; clear S; intro w S) | (refine step_storeS S 50 (.tmp 77) (.tmp 76) _ _ (.slice _ _ _) rfl rfl _ _ _ _ _ pk lE kR rfl rfl gw ?_; clear S; intro w S)) | ((with_reducible refine iO none (.store 3 (.tmp 84) (.tmp 83)) ?_); refine step_store1 S 3 (.tmp 84) (.tmp 83) _ _ (.int _ _) rfl rfl _ _ pk kR kR rfl lN gw ?_; clear S; intro w S; try simp only [List.setIfInBounds_toArray, List.set_cons_zero, List.set_cons_succ] at S) | ((with_reducible refine iO none (.store 33 (.tmp 90) (.tmp 89)) ?_); first | (refine step_store1 S 33 (.tmp 90) (.tmp 89) _ _ (.int _ _) rfl rfl _ _ pk kR rfl rfl lN gw ?_; clear S; intro w S; try simp only [List.setIfInBounds_toArray, List.set_cons_zero, List.set_cons_succ] at S) | (refine step_storeR S 33 (.tmp 90) (.tmp 89) _ _ (.int _ _) rfl rfl _ _ _ _ pk lE kR rfl rfl gw ?_; clear S; intro w S) | (refine step_storeS S 33 (.tmp 90) (.tmp 89) _ _ (.int _ _) rfl rfl _ _ _ _ _ pk lE kR rfl rfl gw ?_; clear S; intro w S)) | ((with_reducible refine iO _ (.load 51 _) ?_); refine step_load1 51 _ _ _ rfl (cL) _ Try.underlying51 rfl gw ?_) | (at_builtin; refine step_appendRc S (.tmp 103) (.tmp 122) _ _ rfl pk _ _ rfl sL lE gw ?_; clear S; intro v123 w S; (try simp only [z4] at S)) | ((with_reducible refine iO none (.store 51 (.tmp 124) (.tmp 123)) ?_); first | (refine step_store1 S 51 (.tmp 124) (.tmp 123) _ _ (.slice _ _ _) rfl rfl _ _ pk kR rfl rfl lN gw ?_; clear S; intro w S; try simp only [List.setIfInBounds_toArray, List.set_cons_zero, List.set_cons_succ] at S) | (refine step_storeR S 51 (.tmp 124) (.tmp 123) _ _ (.slice _ _ _) rfl rfl _ _ _ _ pk lE kR rfl rfl gw ?_; clear S; intro w S) | (refine step_storeS S 51 (.tmp 124) (.tmp 123) _ _ (.slice _ _ _) rfl rfl _ _ _ _ _ pk lE kR rfl rfl gw ?_; clear S; intro w S)) | ((with_reducible refine iO _ (.slice 22 _ _ _ _) ?_); refine step_cutL 22 5 1 _ _ _ _ _ _ _ 13 rfl rfl (by first | rfl | omega) (by first | (first | omega | assumption | (exact Hid.out (by assumption)) | (simp only [List.length_append, List.length_cons, List.length_nil]; omega)) | decide) Try.underlying22 kR gw ?_) | ((with_reducible refine iO none (.store 36 (.tmp 136) (.tmp 134)) ?_); refine step_store S 36 (.tmp 136) (.tmp 134) _ _ rfl rfl _ _ pk 36 kR lN lN on1 gw ?_; clear S; intro w S) | ((with_reducible refine iO _ (.load 53 _) ?_); first | (refine step_load S 53 _ _ rfl _ _ _ pk _ Try.underlying53 rfl 46 kR lN gw ?_) | (refine step_loadO 53 _ _ rfl _ _ _ (S.old_heap (Hid.out (by assumption))) _ Try.underlying53 rfl 46 kR lN gw ?_) | (refine step_loadR 53 _ _ _ rfl _ (S.old_range hy) _ Try.underlying53 rfl 46 kR lN _ rfl gw ?_)) | ((with_reducible refine iO _ (.convert 22 9 _) ?_); refine step_conv 22 9 5 _ _ _ rfl Try.underlying22 Try.underlying5 Try.underlying9 bS gw ?_) | ((with_reducible refine iD 148 (.build 53 _) ?_); refine step_buildZ 53 (.agg ((rpL rpZ (.slice none 0 0) (.slice none 0 0)).toArray)) (fun w => by kernel_rfl) gw ?_) | ((with_reducible refine iO none (.store 53 (.tmp 2) (.tmp 148)) ?_); refine step_store S 53 (.tmp 2) (.tmp 148) _ _ rfl rfl _ _ pk 46 kR lN lN on1 gw ?_; clear S; intro w S) | ((with_reducible refine iO none (.store 53 (.tmp 2) (.tmp 149)) ?_); refine step_store S 53 (.tmp 2) (.tmp 149) _ _ rfl rfl _ _ pk 46 kR lN lN on1 gw ?_; clear S; intro w S) | fail)
    go_cut [5] (fun _ w' => ∃ vr vc, Has w0 w' [blk g4 (.cells (rpL R vr vc).toArray 53 (0, 0)), rowSg vr R.robots, rowRc vc R.records, blk g2 (.cells (rpL rpZ nilV nilV).toArray 53 (0, 0))])
    case first =>
      have jM : (M != 0) = true → (M == 0) = false := fun h => by rw [beq_eq_false_iff_ne]; exact bne_iff_ne.1 h
      have jM' : (M != 0) = false → (M == 0) = true := fun h => by rw [beq_iff_eq]; simpa using h
      rcases hk with ⟨j0, hq⟩ | ⟨j0, hk⟩
      · have j0' := jM j0
        clear jM jM'
        obtain rfl := hq
        have hR : R = rpH k c t := HR.out
        clear HR HOK HE0 HDR PV PE PAT PLK
        have HR := Lib.hid hR; clear hR
        go_wp2_with (first | ((with_reducible refine iO _ (.load 5 _) ?_); refine step_load1 5 _ _ _ rfl (cL) _ Try.underlying5 rfl gw ?_) | fail)
        go_meet
        case rel => exact ⟨nilV, nilV, by rw [HR.out]; exact S.nilSgRc⟩
      have j0' := jM' j0
      clear jM jM'
      rcases hk with ⟨j1, hq⟩ | ⟨j1, ⟨j2, hq⟩ | ⟨j2, ⟨j3, hq⟩ | ⟨j3, ⟨j4, hq⟩ | ⟨j4, ⟨j5, hq⟩ | ⟨j5, ⟨j6, hq⟩ | ⟨j6, hq⟩⟩⟩⟩⟩⟩
      · obtain rfl := hq
        have hR : R = { rpH k c t with order := i64N (atB b 13 2) } := HR.out
        have p := fun w hb => PAT.out 13 2 13 2 rfl rfl w hb (by decide) (by decide)
        have lt := atB_lt b 13 2
        have ho : (atB b 13 2 : Int) = (i64N (atB b 13 2)).v := (i2_at b 13).symm
        obtain ⟨o, hoe⟩ : ∃ o, o = i64N (atB b 13 2) := ⟨_, rfl⟩
        rw [← hoe] at hR ho
        obtain ⟨A, hA⟩ : ∃ A, A = atB b 13 2 := ⟨_, rfl⟩
        rw [← hA] at p ho lt
        have u1 : IntKind.i64.wrap (A : Int) = (A : Int) := by rw [IntKind.wrap_i64]; omega
        clear HR HOK HE0 HDR PV PE PAT PLK hoe hA lt
        have HR := Lib.hid hR; have P := Lib.hid p; have HO := Lib.hid ho; clear hR p ho
        go_wp2_with (first | ((with_reducible refine iO none (.store 3 (.tmp 34) (.tmp 33)) ?_); refine step_store1 S 3 (.tmp 34) (.tmp 33) g4 3 (.int .i64 o.v) rfl (show Value.int .i64 _ = Value.int .i64 _ by rw [← HO.out]) _ _ pk kR rfl rfl (by rw [rpL_size]; decide) gw ?_; clear S; intro w S; rw [rpL_setO] at S) | ((with_reducible refine iO _ (.load 5 _) ?_); refine step_load1 5 _ _ _ rfl (cL) _ Try.underlying5 rfl gw ?_) | (go_at_call 49; (with_reducible refine (P.out _ (S.oldB HB.out)).mono ?_); rintro e w1 ⟨rfl, T⟩; replace S := S.call T; clear T; (try simp only [z4, z5] at S)) | fail)
        go_meet
        case rel => exact ⟨nilV, nilV, by rw [HR.out]; exact S.nilSgRc⟩
      · obtain rfl := hq
        have hR : R = { rpH k c t with order := i64N (atB b 13 2) } := HR.out
        have p := fun w hb => PAT.out 13 2 13 2 rfl rfl w hb (by decide) (by decide)
        have lt := atB_lt b 13 2
        have ho : (atB b 13 2 : Int) = (i64N (atB b 13 2)).v := (i2_at b 13).symm
        obtain ⟨o, hoe⟩ : ∃ o, o = i64N (atB b 13 2) := ⟨_, rfl⟩
        rw [← hoe] at hR ho
        obtain ⟨A, hA⟩ : ∃ A, A = atB b 13 2 := ⟨_, rfl⟩
        rw [← hA] at p ho lt
        have u1 : IntKind.i64.wrap (A : Int) = (A : Int) := by rw [IntKind.wrap_i64]; omega
        clear HR HOK HE0 HDR PV PE PAT PLK hoe hA lt
        have HR := Lib.hid hR; have P := Lib.hid p; have HO := Lib.hid ho; clear hR p ho
        go_wp2_with (first | ((with_reducible refine iO none (.store 3 (.tmp 34) (.tmp 33)) ?_); refine step_store1 S 3 (.tmp 34) (.tmp 33) g4 3 (.int .i64 o.v) rfl (show Value.int .i64 _ = Value.int .i64 _ by rw [← HO.out]) _ _ pk kR rfl rfl (by rw [rpL_size]; decide) gw ?_; clear S; intro w S; rw [rpL_setO] at S) | ((with_reducible refine iO _ (.load 5 _) ?_); refine step_load1 5 _ _ _ rfl (cL) _ Try.underlying5 rfl gw ?_) | (go_at_call 49; (with_reducible refine (P.out _ (S.oldB HB.out)).mono ?_); rintro e w1 ⟨rfl, T⟩; replace S := S.call T; clear T; (try simp only [z4, z5] at S)) | fail)
        go_meet
        case rel => exact ⟨nilV, nilV, by rw [HR.out]; exact S.nilSgRc⟩
      · obtain rfl := hq
        have hR : R = { rpH k c t with state := UInt8.ofNat (atB b 13 1), done := UInt64.ofNat (atB b 14 8) } := HR.out
        have p := fun w hb => PAT.out 13 1 13 1 rfl rfl w hb (by decide) (by decide)
        have p8 := fun w hb => PAT.out 14 8 14 8 rfl rfl w hb (by decide) (by decide)
        have lt := atB_lt b 13 1
        have ho : (atB b 13 1 : Int) = ((UInt8.ofNat (atB b 13 1)).toNat : Int) := by rw [u8_at]
        have hd : (atB b 14 8 : Int) = ((UInt64.ofNat (atB b 14 8)).toNat : Int) := by rw [u64_at]
        obtain ⟨o, hoe⟩ : ∃ o, o = UInt8.ofNat (atB b 13 1) := ⟨_, rfl⟩
        obtain ⟨dn, hdn⟩ : ∃ o, o = UInt64.ofNat (atB b 14 8) := ⟨_, rfl⟩
        rw [← hoe] at hR ho
        rw [← hdn] at hR hd
        obtain ⟨A, hA⟩ : ∃ A, A = atB b 13 1 := ⟨_, rfl⟩
        rw [← hA] at p ho lt
        obtain ⟨A8, hA8⟩ : ∃ A, A = atB b 14 8 := ⟨_, rfl⟩
        rw [← hA8] at p8 hd
        have u1 : IntKind.u8.wrap (A : Int) = (A : Int) := by rw [IntKind.wrap_u8]; omega
        have u2 : (A : Int) % 256 = (A : Int) := by omega
        clear HR HOK HE0 HDR PV PE PAT PLK hoe hA lt hdn hA8
        have HR := Lib.hid hR; have P := Lib.hid p; have P8 := Lib.hid p8; have HO := Lib.hid ho; have HD := Lib.hid hd; clear hR p p8 ho hd
        go_wp2_with (first | ((with_reducible refine iO none (.store 5 (.tmp 40) (.tmp 39)) ?_); refine step_store1 S 5 (.tmp 40) (.tmp 39) g4 4 (.int .u8 (o.toNat : Int)) rfl (show Value.int .u8 _ = Value.int .u8 _ by rw [← HO.out]) _ _ pk kR rfl rfl (by rw [rpL_size]; decide) gw ?_; clear S; intro w S; rw [rpL_setS] at S) | ((with_reducible refine iO none (.store 32 (.tmp 43) (.tmp 42)) ?_); refine step_store1 S 32 (.tmp 43) (.tmp 42) g4 5 (.int .u64 (dn.toNat : Int)) rfl (show Value.int .u64 _ = Value.int .u64 _ by rw [← HD.out]) _ _ pk kR rfl rfl (by rw [rpL_size]; decide) gw ?_; clear S; intro w S; rw [rpL_setD] at S) | ((with_reducible refine iO _ (.load 5 _) ?_); refine step_load1 5 _ _ _ rfl (cL) _ Try.underlying5 rfl gw ?_) | (go_at_call 49; (with_reducible refine (P.out _ (S.oldB HB.out)).mono ?_); rintro e w1 ⟨rfl, T⟩; replace S := S.call T; clear T; (try simp only [z4, z5] at S)) | (go_at_call 49; (with_reducible refine (P8.out _ (S.oldB HB.out)).mono ?_); rintro e w1 ⟨rfl, T⟩; replace S := S.call T; clear T; (try simp only [z4, z5] at S)) | fail)
        go_meet
        case rel => exact ⟨nilV, nilV, by rw [HR.out]; exact S.nilSgRc⟩
      · obtain rfl := hq
        have hR : R = { rpH k c t with robots := sgR b 13 (atB b 13 1), queued := i64N (atB b (14 + 4 * atB b 13 1) 1) } := HR.out
        have p := fun w hb => PAT.out 13 1 13 1 rfl rfl w hb (by decide) (by decide)
        have lt := atB_lt b 13 1
        obtain ⟨A, hA⟩ : ∃ A, A = atB b 13 1 := ⟨_, rfl⟩
        rw [← hA] at p lt hR
        have lt256 : A < 256 := by omega
        have lt0 := lt256
        have u1 : IntKind.i64.wrap (A : Int) = (A : Int) := by rw [IntKind.wrap_i64]; omega
        clear HR HOK HE0 HDR PV PE PLK hA lt lt256
        have HR := Lib.hid hR; have P := Lib.hid p; have LT0 := Lib.hid lt0; clear hR p lt0
        go_upto_region 14 with (first | ((with_reducible refine iO _ (.load 5 _) ?_); refine step_load1 5 _ _ _ rfl (cL) _ Try.underlying5 rfl gw ?_) | (go_at_call 49; (with_reducible refine (P.out _ (S.oldB HB.out)).mono ?_); rintro e w1 ⟨rfl, T⟩; replace S := S.call T; clear T; (try simp only [z4, z5] at S)) | fail)
        clear u1
        go_wp2_with (first | ((with_reducible refine iO _ (.load 5 _) ?_); refine step_load1 5 _ _ _ rfl (cL) _ Try.underlying5 rfl gw ?_) | fail)
        go_loopw [6] (fun u wr => ∃ (n : Nat) (rv : Value), n ≤ A ∧ u = .int .i64 (n : Int) ∧ Has w0 wr [blk g4 (.cells (rpL (rpH k c t) rv nilV).toArray 53 (0, 0)), rowSg rv (sgR b 13 n), blk g2 (.cells (rpL rpZ nilV nilV).toArray 53 (0, 0))]) (fun u _ => A - (intOf u).toNat)
        case atStart => exact ⟨0, nilV, Nat.zero_le _, rfl, (S.nil_row 101 3).perm (List.Perm.swap _ _ _)⟩
        case round =>
          clear S
          obtain ⟨n, rv, hn, rfl, S⟩ := hrel
          by_cases hlt : n < A
          · have hki : (n : Int) < (A : Int) := by omega
            have hkl := LT0.out
            obtain ⟨P0, hP0⟩ : ∃ P, P = 14 + 4 * n := ⟨_, rfl⟩
            have hmore : sgR b 13 (n + 1) = sgR b 13 n ++ [sgtAt b P0] := by rw [hP0]; exact sgR_succ b 13 n
            have hlen := sgR_length b 13 n
            have hle : ((sgR b 13 n).length + [sgtAt b P0].length) * 24 ≤ 140737488355328 := by rw [hlen]; simp only [List.length_cons, List.length_nil]; omega
            have y1 := fun w hb => PAT.out P0 1 (14 + 4 * (n : Int)) 1 (by omega) rfl w hb (by omega) (by decide)
            have y2 := fun w hb => PAT.out (P0 + 1) 1 (15 + 4 * (n : Int)) 1 (by omega) rfl w hb (by omega) (by decide)
            have y3 := fun w hb => PAT.out (P0 + 2) 2 (16 + 4 * (n : Int)) 2 (by omega) rfl w hb (by omega) (by decide)
            have b0 := atB_lt b P0 1
            have b1 := atB_lt b (P0 + 1) 1
            have b2 := atB_lt b (P0 + 2) 2
            have hX : (sgtL (sgtAt b P0)).toArray = #[.int .i64 (atB b P0 1 : Int), .int .u8 (atB b (P0 + 1) 1 : Int), .int .i64 (atB b (P0 + 2) 2 : Int)] := by
              unfold sgtL sgtAt
              dsimp only
              rw [i1_at, u8_at, i2_at]
            obtain ⟨X, hXe⟩ : ∃ X, X = sgtAt b P0 := ⟨_, rfl⟩
            obtain ⟨RO, hRO⟩ : ∃ R, R = sgR b 13 n := ⟨_, rfl⟩
            rw [← hRO] at S hmore hle
            rw [← hXe] at hmore hle hX
            obtain ⟨A0, hA0⟩ : ∃ A, A = atB b P0 1 := ⟨_, rfl⟩
            obtain ⟨A1, hA1⟩ : ∃ A, A = atB b (P0 + 1) 1 := ⟨_, rfl⟩
            obtain ⟨A2, hA2⟩ : ∃ A, A = atB b (P0 + 2) 2 := ⟨_, rfl⟩
            rw [← hA0] at y1 hX b0
            rw [← hA1] at y2 hX b1
            rw [← hA2] at y3 hX b2
            have w0' : IntKind.i64.wrap (A0 : Int) = (A0 : Int) := by rw [IntKind.wrap_i64]; omega
            have w1' : IntKind.u8.wrap (A1 : Int) = (A1 : Int) := by rw [IntKind.wrap_u8]; omega
            have w1'' : (A1 : Int) % 256 = (A1 : Int) := by omega
            have w2' : IntKind.i64.wrap (A2 : Int) = (A2 : Int) := by rw [IntKind.wrap_i64]; omega
            have bsg := build_sg
            have S := ((S.pick2 (r := blk g4 _) (s := rowSg rv RO) pk pk).join)
            have Y1 := Lib.hid y1; have Y2 := Lib.hid y2; have Y3 := Lib.hid y3; have HLE := Lib.hid hle; have HX := Lib.hid hX; have HMORE := Lib.hid hmore; clear y1 y2 y3 hle hX hmore
            clear hRO hXe hA0 hA1 hA2 b0 b1 b2 hlen hP0
            go_upto_region 17 with (first | ((with_reducible refine iO _ (.load 5 _) ?_); refine step_load1 5 _ _ _ rfl (cL) _ Try.underlying5 rfl gw ?_) | fail)
            refine wp_relyW (e1 := noRes) 0 (S.pick (r := both (blk g4 (.cells (rpL (rpH k c t) rv nilV).toArray 53 (0, 0))) (rowSg rv RO)) pk) [⟨[], [], [], fun _ v => v = .pointer (some ⟨g4, 6, none⟩), fun _ v => [blk g4 (.cells (rpL (rpH k c t) rv nilV).toArray 53 (0, 0)), rowSg rv RO]⟩, ⟨[0], [], [0], fun _ v => v = rv, fun _ v => []⟩, ⟨[], [], [], fun _ v => v = (.slice (some ⟨bb, off, none⟩) b.length c0), fun _ v => []⟩, ⟨[], [], [], fun _ v => v = (.int .i64 (n : Int)), fun _ v => []⟩, ⟨[3], [], [], fun _ v => v = .int .i64 (4 * (n : Int)), fun _ v => []⟩, ⟨[3, 4], [], [], fun _ v => v = .int .i64 (14 + 4 * (n : Int)), fun _ v => []⟩, ⟨[2, 3, 4, 5], [], [], fun _ v => v = .int .u64 (A0 : Int), fun _ v => []⟩, ⟨[2, 3, 4, 5, 6], [], [], fun _ v => v = .int .i64 (A0 : Int), fun _ v => []⟩, ⟨[], [], [], fun _ v => v = (.slice (some ⟨bb, off, none⟩) b.length c0), fun _ v => []⟩, ⟨[], [], [], fun _ v => v = (.int .i64 (n : Int)), fun _ v => []⟩, ⟨[9], [], [], fun _ v => v = .int .i64 (4 * (n : Int)), fun _ v => []⟩, ⟨[9, 10], [], [], fun _ v => v = .int .i64 (15 + 4 * (n : Int)), fun _ v => []⟩, ⟨[2, 3, 4, 5, 6, 8, 9, 10, 11], [], [], fun _ v => v = .int .u64 (A1 : Int), fun _ v => []⟩, ⟨[2, 3, 4, 5, 6, 8, 9, 10, 11, 12], [], [], fun _ v => v = .int .u8 (A1 : Int), fun _ v => []⟩, ⟨[], [], [], fun _ v => v = (.slice (some ⟨bb, off, none⟩) b.length c0), fun _ v => []⟩, ⟨[], [], [], fun _ v => v = (.int .i64 (n : Int)), fun _ v => []⟩, ⟨[15], [], [], fun _ v => v = .int .i64 (4 * (n : Int)), fun _ v => []⟩, ⟨[15, 16], [], [], fun _ v => v = .int .i64 (16 + 4 * (n : Int)), fun _ v => []⟩, ⟨[2, 3, 4, 5, 6, 8, 9, 10, 11, 12, 14, 15, 16, 17], [], [], fun _ v => v = .int .u64 (A2 : Int), fun _ v => []⟩, ⟨[2, 3, 4, 5, 6, 8, 9, 10, 11, 12, 14, 15, 16, 17, 18], [], [], fun _ v => v = .int .i64 (A2 : Int), fun _ v => []⟩, ⟨[2, 3, 4, 5, 6, 7, 8, 9, 10, 11, 12, 13, 14, 15, 16, 17, 18, 19], [], [], fun _ v => v = .agg #[.int .i64 (A0 : Int), .int .u8 (A1 : Int), .int .i64 (A2 : Int)], fun _ v => []⟩, ⟨[2, 3, 4, 5, 6, 7, 8, 9, 10, 11, 12, 13, 14, 15, 16, 17, 18, 19, 20], [], [], fun _ v => ∃ y, v = y, fun _ v => [rowSg v [X]]⟩, ⟨[0, 1, 2, 3, 4, 5, 6, 7, 8, 9, 10, 11, 12, 13, 14, 15, 16, 17, 18, 19, 20, 21], [0, 21], [], fun _ v => True, fun _ v => [blk g4 (.cells (rpL (rpH k c t) rv nilV).toArray 53 (0, 0)), rowSg v (RO ++ [X])]⟩, ⟨[0, 1, 2, 3, 4, 5, 6, 7, 8, 9, 10, 11, 12, 13, 14, 15, 16, 17, 18, 19, 20, 21, 22], [], [], fun _ v => v = .pointer (some ⟨g4, 6, none⟩), fun _ v => []⟩, ⟨[0, 1, 2, 3, 4, 5, 6, 7, 8, 9, 10, 11, 12, 13, 14, 15, 16, 17, 18, 19, 20, 21, 22, 23], [22], [], fun _ v => True, fun d v => [blk g4 (.cells (rpL (rpH k c t) (d 22) nilV).toArray 53 (0, 0)), rowSg (d 22) (RO ++ [X])]⟩] ?A2 ?hA2 kR kR kR [1, 2, 3, 4, 5, 6, 7, 8, 9, 10, 11, 12, 13, 14, 15, 16, 17, 18, 19, 20, 23, 24] kR (of_decide_eq_true rfl) ?hok2 ?fin2
            case hA2 => intro u; simp only [putAll, List.length_cons, List.length_nil, Nat.zero_add, Nat.reduceAdd, dstAt, List.getElem?_toArray, List.getElem?_cons_zero, List.getElem?_cons_succ, Option.bind_some, Act.put, List.setIfInBounds_toArray, List.set_cons_zero, List.set_cons_succ]; rfl
            case hok2 =>
              intro i hi
              obtain rfl | rfl | rfl | rfl | rfl | rfl | rfl | rfl | rfl | rfl | rfl | rfl | rfl | rfl | rfl | rfl | rfl | rfl | rfl | rfl | rfl | rfl | rfl | rfl | rfl : i = 0 ∨ i = 1 ∨ i = 2 ∨ i = 3 ∨ i = 4 ∨ i = 5 ∨ i = 6 ∨ i = 7 ∨ i = 8 ∨ i = 9 ∨ i = 10 ∨ i = 11 ∨ i = 12 ∨ i = 13 ∨ i = 14 ∨ i = 15 ∨ i = 16 ∨ i = 17 ∨ i = 18 ∨ i = 19 ∨ i = 20 ∨ i = 21 ∨ i = 22 ∨ i = 23 ∨ i = 24 := by simp only [List.length_cons, List.length_nil, Nat.zero_add, Nat.reduceAdd] at hi; omega
              · clear hi
                rw [if_pos rfl]
                refine step_ofW rfl rfl rfl ?_
                intro u G w hf S
                simp only [resOf, spec, RSpec.resAt, z0, z1, z2, z3, z4, z5, z6, z7, ptrBlk] at S ⊢
                simp only [does]
                go_simp
                first | exact S.taken | exact ⟨rfl, S.taken⟩
              · clear hi
                rw [if_neg (by decide)]; intro r0
                refine step_of rfl rfl rfl ?_
                intro u G w hf S
                have f0 : u 0 = .pointer (some ⟨g4, 6, none⟩) := hf 0 (by simp)
                simp only [resOf, spec, RSpec.resAt, z0, z1, z2, z3, z4, z5, z6, z7, ptrBlk] at S ⊢
                simp only [f0] at S ⊢
                try simp only [ptrBlk] at S
                refine does_load1 50 (.tmp 54) _ _ rfl (S.cell (g := g4) pk rfl) _ Try.underlying50 rfl ?_; exact ⟨rfl, S⟩
              · clear hi
                rw [if_neg (by decide)]; intro r0
                refine step_of rfl rfl rfl ?_
                intro u G w hf S
                simp only [resOf, spec, RSpec.resAt, z0, z1, z2, z3, z4, z5, z6, z7, ptrBlk] at S ⊢
                simp only [does]
                go_simp
                try first | exact S | exact ⟨vv, S⟩ | exact vv
              · clear hi
                rw [if_neg (by decide)]; intro r0
                refine step_of rfl rfl rfl ?_
                intro u G w hf S
                simp only [resOf, spec, RSpec.resAt, z0, z1, z2, z3, z4, z5, z6, z7, ptrBlk] at S ⊢
                simp only [does]
                go_simp
                try first | exact S | exact ⟨vv, S⟩ | exact vv
              · clear hi
                rw [if_neg (by decide)]; intro r0
                refine step_of rfl rfl rfl ?_
                intro u G w hf S
                have f3 : u 3 = (.int .i64 (n : Int)) := hf 3 (by simp)
                simp only [resOf, spec, RSpec.resAt, z0, z1, z2, z3, z4, z5, z6, z7, ptrBlk] at S ⊢
                simp only [f3]
                simp only [does]
                go_simp
                try first | exact S | exact ⟨vv, S⟩ | exact vv
              · clear hi
                rw [if_neg (by decide)]; intro r0
                refine step_of rfl rfl rfl ?_
                intro u G w hf S
                have f4 : u 4 = .int .i64 (4 * (n : Int)) := hf 4 (by simp)
                simp only [resOf, spec, RSpec.resAt, z0, z1, z2, z3, z4, z5, z6, z7, ptrBlk] at S ⊢
                simp only [f4]
                simp only [does]
                go_simp
                try first | exact S | exact ⟨vv, S⟩ | exact vv
              · clear hi
                rw [if_neg (by decide)]; intro r0
                refine step_of rfl rfl rfl ?_
                intro u G w hf S
                have f2 : u 2 = (.slice (some ⟨bb, off, none⟩) b.length c0) := hf 2 (by simp)
                have f5 : u 5 = .int .i64 (14 + 4 * (n : Int)) := hf 5 (by simp)
                simp only [resOf, spec, RSpec.resAt, z0, z1, z2, z3, z4, z5, z6, z7, ptrBlk] at S ⊢
                simp only [f2, f5]
                refine does_fn (args := [((.slice (some ⟨bb, off, none⟩) b.length c0)), (.int .i64 (14 + 4 * (n : Int))), (.int .i64 1)]) Try.func49 kR kR (Y1.out w (S.oldB HB.out)) rfl ?_
                rintro e w1 ⟨rfl, T⟩
                exact ⟨_, rfl, rfl, S.call T⟩
              · clear hi
                rw [if_neg (by decide)]; intro r0
                refine step_of rfl rfl rfl ?_
                intro u G w hf S
                have f6 : u 6 = .int .u64 (A0 : Int) := hf 6 (by simp)
                simp only [resOf, spec, RSpec.resAt, z0, z1, z2, z3, z4, z5, z6, z7, ptrBlk] at S ⊢
                simp only [f6]
                simp only [does]
                go_simp
                try first | exact S | exact ⟨vv, S⟩ | exact vv
              · clear hi
                rw [if_neg (by decide)]; intro r0
                refine step_of rfl rfl rfl ?_
                intro u G w hf S
                simp only [resOf, spec, RSpec.resAt, z0, z1, z2, z3, z4, z5, z6, z7, ptrBlk] at S ⊢
                simp only [does]
                go_simp
                try first | exact S | exact ⟨vv, S⟩ | exact vv
              · clear hi
                rw [if_neg (by decide)]; intro r0
                refine step_of rfl rfl rfl ?_
                intro u G w hf S
                simp only [resOf, spec, RSpec.resAt, z0, z1, z2, z3, z4, z5, z6, z7, ptrBlk] at S ⊢
                simp only [does]
                go_simp
                try first | exact S | exact ⟨vv, S⟩ | exact vv
              · clear hi
                rw [if_neg (by decide)]; intro r0
                refine step_of rfl rfl rfl ?_
                intro u G w hf S
                have f9 : u 9 = (.int .i64 (n : Int)) := hf 9 (by simp)
                simp only [resOf, spec, RSpec.resAt, z0, z1, z2, z3, z4, z5, z6, z7, ptrBlk] at S ⊢
                simp only [f9]
                simp only [does]
                go_simp
                try first | exact S | exact ⟨vv, S⟩ | exact vv
              · clear hi
                rw [if_neg (by decide)]; intro r0
                refine step_of rfl rfl rfl ?_
                intro u G w hf S
                have f10 : u 10 = .int .i64 (4 * (n : Int)) := hf 10 (by simp)
                simp only [resOf, spec, RSpec.resAt, z0, z1, z2, z3, z4, z5, z6, z7, ptrBlk] at S ⊢
                simp only [f10]
                simp only [does]
                go_simp
                try first | exact S | exact ⟨vv, S⟩ | exact vv
              · clear hi
                rw [if_neg (by decide)]; intro r0
                refine step_of rfl rfl rfl ?_
                intro u G w hf S
                have f8 : u 8 = (.slice (some ⟨bb, off, none⟩) b.length c0) := hf 8 (by simp)
                have f11 : u 11 = .int .i64 (15 + 4 * (n : Int)) := hf 11 (by simp)
                simp only [resOf, spec, RSpec.resAt, z0, z1, z2, z3, z4, z5, z6, z7, ptrBlk] at S ⊢
                simp only [f8, f11]
                refine does_fn (args := [((.slice (some ⟨bb, off, none⟩) b.length c0)), (.int .i64 (15 + 4 * (n : Int))), (.int .i64 1)]) Try.func49 kR kR (Y2.out w (S.oldB HB.out)) rfl ?_
                rintro e w1 ⟨rfl, T⟩
                exact ⟨_, rfl, rfl, S.call T⟩
              · clear hi
                rw [if_neg (by decide)]; intro r0
                refine step_of rfl rfl rfl ?_
                intro u G w hf S
                have f12 : u 12 = .int .u64 (A1 : Int) := hf 12 (by simp)
                simp only [resOf, spec, RSpec.resAt, z0, z1, z2, z3, z4, z5, z6, z7, ptrBlk] at S ⊢
                simp only [f12]
                simp only [does]
                go_simp
                try first | exact S | exact ⟨vv, S⟩ | exact vv
              · clear hi
                rw [if_neg (by decide)]; intro r0
                refine step_of rfl rfl rfl ?_
                intro u G w hf S
                simp only [resOf, spec, RSpec.resAt, z0, z1, z2, z3, z4, z5, z6, z7, ptrBlk] at S ⊢
                simp only [does]
                go_simp
                try first | exact S | exact ⟨vv, S⟩ | exact vv
              · clear hi
                rw [if_neg (by decide)]; intro r0
                refine step_of rfl rfl rfl ?_
                intro u G w hf S
                simp only [resOf, spec, RSpec.resAt, z0, z1, z2, z3, z4, z5, z6, z7, ptrBlk] at S ⊢
                simp only [does]
                go_simp
                try first | exact S | exact ⟨vv, S⟩ | exact vv
              · clear hi
                rw [if_neg (by decide)]; intro r0
                refine step_of rfl rfl rfl ?_
                intro u G w hf S
                have f15 : u 15 = (.int .i64 (n : Int)) := hf 15 (by simp)
                simp only [resOf, spec, RSpec.resAt, z0, z1, z2, z3, z4, z5, z6, z7, ptrBlk] at S ⊢
                simp only [f15]
                simp only [does]
                go_simp
                try first | exact S | exact ⟨vv, S⟩ | exact vv
              · clear hi
                rw [if_neg (by decide)]; intro r0
                refine step_of rfl rfl rfl ?_
                intro u G w hf S
                have f16 : u 16 = .int .i64 (4 * (n : Int)) := hf 16 (by simp)
                simp only [resOf, spec, RSpec.resAt, z0, z1, z2, z3, z4, z5, z6, z7, ptrBlk] at S ⊢
                simp only [f16]
                simp only [does]
                go_simp
                try first | exact S | exact ⟨vv, S⟩ | exact vv
              · clear hi
                rw [if_neg (by decide)]; intro r0
                refine step_of rfl rfl rfl ?_
                intro u G w hf S
                have f14 : u 14 = (.slice (some ⟨bb, off, none⟩) b.length c0) := hf 14 (by simp)
                have f17 : u 17 = .int .i64 (16 + 4 * (n : Int)) := hf 17 (by simp)
                simp only [resOf, spec, RSpec.resAt, z0, z1, z2, z3, z4, z5, z6, z7, ptrBlk] at S ⊢
                simp only [f14, f17]
                refine does_fn (args := [((.slice (some ⟨bb, off, none⟩) b.length c0)), (.int .i64 (16 + 4 * (n : Int))), (.int .i64 2)]) Try.func49 kR kR (Y3.out w (S.oldB HB.out)) rfl ?_
                rintro e w1 ⟨rfl, T⟩
                exact ⟨_, rfl, rfl, S.call T⟩
              · clear hi
                rw [if_neg (by decide)]; intro r0
                refine step_of rfl rfl rfl ?_
                intro u G w hf S
                have f18 : u 18 = .int .u64 (A2 : Int) := hf 18 (by simp)
                simp only [resOf, spec, RSpec.resAt, z0, z1, z2, z3, z4, z5, z6, z7, ptrBlk] at S ⊢
                simp only [f18]
                simp only [does]
                go_simp
                try first | exact S | exact ⟨vv, S⟩ | exact vv
              · clear hi
                rw [if_neg (by decide)]; intro r0
                refine step_of rfl rfl rfl ?_
                intro u G w hf S
                have f7 : u 7 = .int .i64 (A0 : Int) := hf 7 (by simp)
                have f13 : u 13 = .int .u8 (A1 : Int) := hf 13 (by simp)
                have f19 : u 19 = .int .i64 (A2 : Int) := hf 19 (by simp)
                simp only [resOf, spec, RSpec.resAt, z0, z1, z2, z3, z4, z5, z6, z7, ptrBlk] at S ⊢
                simp only [f7, f13, f19]
                simp only [does]
                go_simp
                try first | exact S | exact ⟨vv, S⟩ | exact vv
              · clear hi
                rw [if_neg (by decide)]; intro r0
                refine step_of rfl rfl rfl ?_
                intro u G w hf S
                have f20 : u 20 = .agg #[.int .i64 (A0 : Int), .int .u8 (A1 : Int), .int .i64 (A2 : Int)] := hf 20 (by simp)
                simp only [resOf, spec, RSpec.resAt, z0, z1, z2, z3, z4, z5, z6, z7, ptrBlk] at S ⊢
                simp only [f20]
                refine does_buildSg1 S (.tmp 74) X (show Value.agg _ = Value.agg _ by rw [HX.out]) ?_; intro y w1 S; exact ⟨⟨y, rfl⟩, S⟩
              · clear hi
                rw [if_neg (by decide)]; intro r0
                refine step_of rfl rfl rfl ?_
                intro u G w hf S
                have f0 : u 0 = .pointer (some ⟨g4, 6, none⟩) := hf 0 (by simp)
                have f1 : u 1 = rv := hf 1 (by simp)
                have f21 : ∃ y, u 21 = y := hf 21 (by simp)
                obtain ⟨y75, f21⟩ := f21
                simp only [resOf, spec, RSpec.resAt, z0, z1, z2, z3, z4, z5, z6, z7, ptrBlk] at S ⊢
                simp only [f0, f1, f21] at S ⊢
                try simp only [ptrBlk] at S
                refine does_appendSg (.tmp 55) (.tmp 75) rv RO rfl (S.pick (r := rowSg rv RO) pk) y75 [X] rfl (S.sl (v := y75) (xs := [X].flatMap sgtL) pk) HLE.out ?_; intro v' w' S; exact ⟨trivial, (S.drop (Pick.tail (Pick.tail (Pick.head _ _)))).perm (List.Perm.swap _ _ _)⟩
              · clear hi
                rw [if_neg (by decide)]; intro r0
                refine step_of rfl rfl rfl ?_
                intro u G w hf S
                have f21 : ∃ y, u 21 = y := hf 21 (by simp)
                obtain ⟨y75, f21⟩ := f21
                simp only [resOf, spec, RSpec.resAt, z0, z1, z2, z3, z4, z5, z6, z7, ptrBlk] at S ⊢
                simp only [f21]
                simp only [does]
                go_simp
                try first | exact S | exact ⟨vv, S⟩ | exact vv
              · clear hi
                rw [if_neg (by decide)]; intro r0
                refine step_of rfl rfl rfl ?_
                intro u G w hf S
                have f21 : ∃ y, u 21 = y := hf 21 (by simp)
                obtain ⟨y75, f21⟩ := f21
                have f23 : u 23 = .pointer (some ⟨g4, 6, none⟩) := hf 23 (by simp)
                have m22 : mask [0, 1, 2, 3, 4, 5, 6, 7, 8, 9, 10, 11, 12, 13, 14, 15, 16, 17, 18, 19, 20, 21, 22, 23] u 22 = u 22 := rfl
                simp only [resOf, spec, RSpec.resAt, List.getD_cons_zero, List.getD_cons_succ, List.flatMap_cons, List.flatMap_nil, List.nil_append, List.cons_append, List.append_nil, List.append_assoc, m22, ptrBlk] at S ⊢
                simp only [m22, f21, f23] at S ⊢
                try simp only [ptrBlk] at S
                refine does_store1 S 50 (.tmp 77) (.tmp 76) 6 (u 22) rfl rfl kR (one_sl (S.sl (xs := (RO ++ [X]).flatMap sgtL) pk)).2 (one_sl (S.sl (xs := (RO ++ [X]).flatMap sgtL) pk)).1 (by rw [rpL_size]; decide) ?_; intro w1 S; rw [rpL_set6] at S; exact ⟨trivial, S⟩
            case fin2 =>
              intro u w hf S
              have f0 : u 0 = .pointer (some ⟨g4, 6, none⟩) := hf 0 (by simp)
              have f1 : u 1 = rv := hf 1 (by simp)
              have f2 : u 2 = (.slice (some ⟨bb, off, none⟩) b.length c0) := hf 2 (by simp)
              have f3 : u 3 = (.int .i64 (n : Int)) := hf 3 (by simp)
              have f4 : u 4 = .int .i64 (4 * (n : Int)) := hf 4 (by simp)
              have f5 : u 5 = .int .i64 (14 + 4 * (n : Int)) := hf 5 (by simp)
              have f6 : u 6 = .int .u64 (A0 : Int) := hf 6 (by simp)
              have f7 : u 7 = .int .i64 (A0 : Int) := hf 7 (by simp)
              have f8 : u 8 = (.slice (some ⟨bb, off, none⟩) b.length c0) := hf 8 (by simp)
              have f9 : u 9 = (.int .i64 (n : Int)) := hf 9 (by simp)
              have f10 : u 10 = .int .i64 (4 * (n : Int)) := hf 10 (by simp)
              have f11 : u 11 = .int .i64 (15 + 4 * (n : Int)) := hf 11 (by simp)
              have f12 : u 12 = .int .u64 (A1 : Int) := hf 12 (by simp)
              have f13 : u 13 = .int .u8 (A1 : Int) := hf 13 (by simp)
              have f14 : u 14 = (.slice (some ⟨bb, off, none⟩) b.length c0) := hf 14 (by simp)
              have f15 : u 15 = (.int .i64 (n : Int)) := hf 15 (by simp)
              have f16 : u 16 = .int .i64 (4 * (n : Int)) := hf 16 (by simp)
              have f17 : u 17 = .int .i64 (16 + 4 * (n : Int)) := hf 17 (by simp)
              have f18 : u 18 = .int .u64 (A2 : Int) := hf 18 (by simp)
              have f19 : u 19 = .int .i64 (A2 : Int) := hf 19 (by simp)
              have f20 : u 20 = .agg #[.int .i64 (A0 : Int), .int .u8 (A1 : Int), .int .i64 (A2 : Int)] := hf 20 (by simp)
              have f21 : ∃ y, u 21 = y := hf 21 (by simp)
              obtain ⟨y75, f21⟩ := f21
              have f23 : u 23 = .pointer (some ⟨g4, 6, none⟩) := hf 23 (by simp)
              have m24_22 : mask [0, 1, 2, 3, 4, 5, 6, 7, 8, 9, 10, 11, 12, 13, 14, 15, 16, 17, 18, 19, 20, 21, 22, 23] u 22 = u 22 := rfl
              simp only [resOf, spec, RSpec.resAt, List.getD_cons_zero, List.getD_cons_succ, List.flatMap_cons, List.flatMap_nil, List.nil_append, List.cons_append, List.append_nil, List.append_assoc, m24_22, ptrBlk] at S
              clear hf
              simp only [List.length_cons, List.length_nil, Nat.zero_add, Nat.reduceAdd, List.drop_succ_cons, List.drop_zero, f0, f1, f2, f3, f4, f5, f6, f7, f8, f9, f10, f11, f12, f13, f14, f15, f16, f17, f18, f19, f20, f21, f23]
              try simp only [f0, f1, f2, f3, f4, f5, f6, f7, f8, f9, f10, f11, f12, f13, f14, f15, f16, f17, f18, f19, f20, f21, f23, ptrBlk] at S
              clear f0 f1 f2 f3 f4 f5 f6 f7 f8 f9 f10 f11 f12 f13 f14 f15 f16 f17 f18 f19 f20 f21 f23 m24_22
              generalize u 22 = v76 at S ⊢
              clear w0' w1' w1'' w2' bsg
              go_wp2_with (first | ((with_reducible refine iO _ (.load 5 _) ?_); refine step_load1 5 _ _ _ rfl (cL) _ Try.underlying5 rfl gw ?_) | fail)
              go_roundw
              case rel => exact ⟨n + 1, _, by omega, by go_num, by rw [HMORE.out]; exact S.sub (by repeat (first | exact Sub.nil _ | refine Sub.cons pk ?_))⟩
              case measure => simp [intOf]; omega
          · obtain rfl : n = A := by omega
            have hki : ¬ (n : Int) < (n : Int) := by omega
            have hkl := LT0.out
            have y1 := fun w hb => PAT.out (14 + 4 * n) 1 (14 + 4 * (n : Int)) 1 (by omega) rfl w hb (by omega) (by decide)
            have hR := HR.out
            obtain ⟨RO, hRO⟩ : ∃ R, R = sgR b 13 n := ⟨_, rfl⟩
            rw [← hRO] at S hR
            have b1 := atB_lt b (14 + 4 * n) 1
            have hqd : (atB b (14 + 4 * n) 1 : Int) = (i64N (atB b (14 + 4 * n) 1)).v := (i1_at b _).symm
            obtain ⟨qd, hqe⟩ : ∃ q, q = i64N (atB b (14 + 4 * n) 1) := ⟨_, rfl⟩
            rw [← hqe] at hR hqd
            obtain ⟨A7, hA7⟩ : ∃ A, A = atB b (14 + 4 * n) 1 := ⟨_, rfl⟩
            rw [← hA7] at y1 hqd b1
            have u1 : IntKind.i64.wrap (A7 : Int) = (A7 : Int) := by rw [IntKind.wrap_i64]; omega
            clear HR PAT hRO hqe hA7 b1 LT0
            have Y1 := Lib.hid y1; have HR := Lib.hid hR; have HQD := Lib.hid hqd; clear y1 hR hqd
            go_wp2_with (first | ((with_reducible refine iO none (.store 3 (.tmp 84) (.tmp 83)) ?_); refine step_store1 S 3 (.tmp 84) (.tmp 83) g4 7 (.int .i64 qd.v) rfl (show Value.int .i64 _ = Value.int .i64 _ by rw [← HQD.out]) _ _ pk kR rfl rfl (by rw [rpL_size]; decide) gw ?_; clear S; intro w S; rw [rpL_setQ k c t _ RO qd] at S) | ((with_reducible refine iO _ (.load 5 _) ?_); refine step_load1 5 _ _ _ rfl (cL) _ Try.underlying5 rfl gw ?_) | (go_at_call 49; (with_reducible refine (Y1.out _ (S.oldB HB.out)).mono ?_); rintro e w1 ⟨rfl, T⟩; replace S := S.call T; clear T; (try simp only [z4, z5] at S)) | fail)
            go_meet
            case rel => exact ⟨rv, nilV, by rw [HR.out]; exact (S.sub (k := [blk g4 _, rowSg rv RO, blk g2 _]) (by repeat (first | exact Sub.nil _ | refine Sub.cons pk ?_))).nilRc1⟩
      · obtain rfl := hq
        have hR : R = { rpH k c t with count := UInt32.ofNat (atB b 13 4), records := rcR b 13 (atB b 17 1) } := HR.out
        have p := fun w hb => PAT.out 13 4 13 4 rfl rfl w hb (by decide) (by decide)
        have p7 := fun w hb => PAT.out 17 1 17 1 rfl rfl w hb (by decide) (by decide)
        have lt4 := atB_lt b 13 4
        have lt := atB_lt b 17 1
        have hct : (atB b 13 4 : Int) = ((UInt32.ofNat (atB b 13 4)).toNat : Int) := by rw [u32_at]
        obtain ⟨ct, hcte⟩ : ∃ o, o = UInt32.ofNat (atB b 13 4) := ⟨_, rfl⟩
        rw [← hcte] at hR hct
        obtain ⟨A, hA⟩ : ∃ A, A = atB b 17 1 := ⟨_, rfl⟩
        rw [← hA] at p7 lt hR
        obtain ⟨A4, hA4⟩ : ∃ A, A = atB b 13 4 := ⟨_, rfl⟩
        rw [← hA4] at p lt4 hct
        have lt256 : A < 256 := by omega
        have lt0 := lt256
        have u1 : IntKind.i64.wrap (A : Int) = (A : Int) := by rw [IntKind.wrap_i64]; omega
        have u2 : IntKind.u32.wrap (A4 : Int) = (A4 : Int) := by rw [IntKind.wrap_u32]; omega
        have u3 : (A4 : Int) % 4294967296 = (A4 : Int) := by omega
        clear HR HOK HE0 HDR PV PE hA lt lt256 hcte hA4 lt4
        have HR := Lib.hid hR; have P := Lib.hid p; have P7 := Lib.hid p7; have LT0 := Lib.hid lt0; have HCT := Lib.hid hct; clear hR p p7 lt0 hct
        go_upto_region 22 with (first | ((with_reducible refine iO none (.store 33 (.tmp 90) (.tmp 89)) ?_); refine step_store1 S 33 (.tmp 90) (.tmp 89) g4 8 (.int .u32 (ct.toNat : Int)) rfl (show Value.int .u32 _ = Value.int .u32 _ by rw [← HCT.out]) _ _ pk kR rfl rfl (by rw [rpL_size]; decide) gw ?_; clear S; intro w S; rw [rpL_setN] at S) | ((with_reducible refine iO _ (.load 5 _) ?_); refine step_load1 5 _ _ _ rfl (cL) _ Try.underlying5 rfl gw ?_) | (go_at_call 49; (with_reducible refine (P.out _ (S.oldB HB.out)).mono ?_); rintro e w1 ⟨rfl, T⟩; replace S := S.call T; clear T; (try simp only [z4, z5] at S)) | (go_at_call 49; (with_reducible refine (P7.out _ (S.oldB HB.out)).mono ?_); rintro e w1 ⟨rfl, T⟩; replace S := S.call T; clear T; (try simp only [z4, z5] at S)) | fail)
        clear u1 u2 u3
        go_wp2_with (first | ((with_reducible refine iO _ (.load 5 _) ?_); refine step_load1 5 _ _ _ rfl (cL) _ Try.underlying5 rfl gw ?_) | fail)
        obtain ⟨R1, hR1⟩ : ∃ R1, R1 = { rpH k c t with count := ct } := ⟨_, rfl⟩
        have hset : ∀ v, (rpL R1 nilV v).toArray = (rpL { rpH k c t with count := ct, records := rcR b 13 A } nilV v).toArray := fun v => by rw [hR1]; rfl
        rw [← hR1] at S
        clear hR1
        have HSET := Lib.hid hset; clear hset
        go_loopw [8] (fun u wr => ∃ (n : Nat) (rv : Value), n ≤ A ∧ u = .int .i64 (n : Int) ∧ Has w0 wr [blk g4 (.cells (rpL R1 nilV rv).toArray 53 (0, 0)), rowRc rv (rcR b 13 n), blk g2 (.cells (rpL rpZ nilV nilV).toArray 53 (0, 0))]) (fun u _ => A - (intOf u).toNat)
        case atStart => exact ⟨0, nilV, Nat.zero_le _, rfl, (S.nil_row 106 35).perm (List.Perm.swap _ _ _)⟩
        case round =>
          clear S
          obtain ⟨n, rv, hn, rfl, S⟩ := hrel
          by_cases hlt : n < A
          · have hki : (n : Int) < (A : Int) := by omega
            have hkl := LT0.out
            obtain ⟨P0, hP0⟩ : ∃ P, P = 18 + 43 * n := ⟨_, rfl⟩
            have hPI : (18 : Int) + 43 * (n : Int) = (P0 : Int) := by omega
            have hmore : rcR b 13 (n + 1) = rcR b 13 n ++ [rcdAt b P0] := by rw [hP0]; exact rcR_succ b 13 n
            have hlen := rcR_length b 13 n
            have hle : ((rcR b 13 n).length + [rcdAt b P0].length) * 56 ≤ 140737488355328 := by rw [hlen]; simp only [List.length_cons, List.length_nil]; omega
            have y1 := fun w hb => PAT.out P0 8 (P0 : Int) 8 rfl rfl w hb (by omega) (by decide)
            have y2 := fun w hb => PAT.out (P0 + 8) 1 ((P0 : Int) + 8) 1 (by omega) rfl w hb (by omega) (by decide)
            have y3 := fun w hb => PAT.out (P0 + 9) 2 ((P0 : Int) + 9) 2 (by omega) rfl w hb (by omega) (by decide)
            have y4 := fun w hb => PLK.out (P0 + 11) ((P0 : Int) + 11) (by omega) w hb (by omega)
            have b0 := atB_lt b P0 8
            have b1 := atB_lt b (P0 + 8) 1
            have b2 := atB_lt b (P0 + 9) 2
            have hx0 : ((rcdAt b P0).tick.toNat : Int) = (atB b P0 8 : Int) := by unfold rcdAt; dsimp only; rw [u64_at]
            have hx1 : ((rcdAt b P0).kind.toNat : Int) = (atB b (P0 + 8) 1 : Int) := by unfold rcdAt; dsimp only; rw [u8_at]
            have hx2 : (rcdAt b P0).code.v = (atB b (P0 + 9) 2 : Int) := by unfold rcdAt; dsimp only; rw [i2_at]
            have hx3 : lkB b (P0 + 11) = (rcdAt b P0).link := rfl
            obtain ⟨X, hXe⟩ : ∃ X, X = rcdAt b P0 := ⟨_, rfl⟩
            obtain ⟨RO, hRO⟩ : ∃ R, R = rcR b 13 n := ⟨_, rfl⟩
            rw [← hRO] at S hmore hle
            rw [← hXe] at hmore hle hx0 hx1 hx2 hx3
            obtain ⟨A0, hA0⟩ : ∃ A, A = atB b P0 8 := ⟨_, rfl⟩
            obtain ⟨A1, hA1⟩ : ∃ A, A = atB b (P0 + 8) 1 := ⟨_, rfl⟩
            obtain ⟨A2, hA2⟩ : ∃ A, A = atB b (P0 + 9) 2 := ⟨_, rfl⟩
            rw [← hA0] at y1 hx0 b0
            rw [← hA1] at y2 hx1 b1
            rw [← hA2] at y3 hx2 b2
            rw [hx3] at y4
            have w1' : IntKind.u8.wrap (A1 : Int) = (A1 : Int) := by rw [IntKind.wrap_u8]; omega
            have w1'' : (A1 : Int) % 256 = (A1 : Int) := by omega
            have w2' : IntKind.i64.wrap (A2 : Int) = (A2 : Int) := by rw [IntKind.wrap_i64]; omega
            have hPb : P0 ≤ 11000 := by omega
            have S := ((S.pick2 (r := blk g4 _) (s := rowRc rv RO) pk pk).join)
            have Y1 := Lib.hid y1; have Y2 := Lib.hid y2; have Y3 := Lib.hid y3; have Y4 := Lib.hid y4; have HLE := Lib.hid hle; have HX0 := Lib.hid hx0; have HX1 := Lib.hid hx1; have HX2 := Lib.hid hx2; have HMORE := Lib.hid hmore; have HPI := Lib.hid hPI; clear y1 y2 y3 y4 hle hx0 hx1 hx2 hmore hPI
            clear hRO hXe hA0 hA1 hA2 b0 b1 b2 hlen hx3 hP0
            go_upto_region 26 with (first | ((with_reducible refine iO _ (.load 5 _) ?_); refine step_load1 5 _ _ _ rfl (cL) _ Try.underlying5 rfl gw ?_) | fail)
            rw [HPI.out]
            refine wp_relyW (e1 := noRes) 0 (S.pick (r := both (blk g4 (.cells (rpL R1 nilV rv).toArray 53 (0, 0))) (rowRc rv RO)) pk) [⟨[], [], [], fun _ v => v = .pointer (some ⟨g4, 9, none⟩), fun _ v => [blk g4 (.cells (rpL R1 nilV rv).toArray 53 (0, 0)), rowRc rv RO]⟩, ⟨[0], [], [0], fun _ v => v = rv, fun _ v => []⟩, ⟨[], [], [], fun _ v => v = (.slice (some ⟨bb, off, none⟩) b.length c0), fun _ v => []⟩, ⟨[], [], [], fun _ v => v = (.int .i64 (P0 : Int)), fun _ v => []⟩, ⟨[2, 3], [], [], fun _ v => v = .int .u64 (A0 : Int), fun _ v => []⟩, ⟨[], [], [], fun _ v => v = (.slice (some ⟨bb, off, none⟩) b.length c0), fun _ v => []⟩, ⟨[], [], [], fun _ v => v = (.int .i64 (P0 : Int)), fun _ v => []⟩, ⟨[6], [], [], fun _ v => v = .int .i64 ((P0 : Int) + 8), fun _ v => []⟩, ⟨[2, 3, 4, 5, 6, 7], [], [], fun _ v => v = .int .u64 (A1 : Int), fun _ v => []⟩, ⟨[2, 3, 4, 5, 6, 7, 8], [], [], fun _ v => v = .int .u8 (A1 : Int), fun _ v => []⟩, ⟨[], [], [], fun _ v => v = (.slice (some ⟨bb, off, none⟩) b.length c0), fun _ v => []⟩, ⟨[], [], [], fun _ v => v = (.int .i64 (P0 : Int)), fun _ v => []⟩, ⟨[11], [], [], fun _ v => v = .int .i64 ((P0 : Int) + 9), fun _ v => []⟩, ⟨[2, 3, 4, 5, 6, 7, 8, 10, 11, 12], [], [], fun _ v => v = .int .u64 (A2 : Int), fun _ v => []⟩, ⟨[2, 3, 4, 5, 6, 7, 8, 10, 11, 12, 13], [], [], fun _ v => v = .int .i64 (A2 : Int), fun _ v => []⟩, ⟨[], [], [], fun _ v => v = (.slice (some ⟨bb, off, none⟩) b.length c0), fun _ v => []⟩, ⟨[], [], [], fun _ v => v = (.int .i64 (P0 : Int)), fun _ v => []⟩, ⟨[16], [], [], fun _ v => v = .int .i64 ((P0 : Int) + 11), fun _ v => []⟩, ⟨[2, 3, 4, 5, 6, 7, 8, 10, 11, 12, 13, 15, 16, 17], [], [], fun _ v => v = .agg (arr8 X.link), fun _ v => []⟩, ⟨[2, 3, 4, 5, 6, 7, 8, 9, 10, 11, 12, 13, 14, 15, 16, 17, 18], [], [], fun _ v => v = .agg (rcdL X).toArray, fun _ v => []⟩, ⟨[2, 3, 4, 5, 6, 7, 8, 9, 10, 11, 12, 13, 14, 15, 16, 17, 18, 19], [], [], fun _ v => ∃ y, v = y, fun _ v => [rowRc v [X]]⟩, ⟨[0, 1, 2, 3, 4, 5, 6, 7, 8, 9, 10, 11, 12, 13, 14, 15, 16, 17, 18, 19, 20], [0, 20], [], fun _ v => True, fun _ v => [blk g4 (.cells (rpL R1 nilV rv).toArray 53 (0, 0)), rowRc v (RO ++ [X])]⟩, ⟨[0, 1, 2, 3, 4, 5, 6, 7, 8, 9, 10, 11, 12, 13, 14, 15, 16, 17, 18, 19, 20, 21], [], [], fun _ v => v = .pointer (some ⟨g4, 9, none⟩), fun _ v => []⟩, ⟨[0, 1, 2, 3, 4, 5, 6, 7, 8, 9, 10, 11, 12, 13, 14, 15, 16, 17, 18, 19, 20, 21, 22], [21], [], fun _ v => True, fun d v => [blk g4 (.cells (rpL R1 nilV (d 21)).toArray 53 (0, 0)), rowRc (d 21) (RO ++ [X])]⟩] ?A3 ?hA3 kR kR kR [1, 2, 3, 4, 5, 6, 7, 8, 9, 10, 11, 12, 13, 14, 15, 16, 17, 18, 19, 22, 23] kR (of_decide_eq_true rfl) ?hok3 ?fin3
            case hA3 => intro u; simp only [putAll, List.length_cons, List.length_nil, Nat.zero_add, Nat.reduceAdd, dstAt, List.getElem?_toArray, List.getElem?_cons_zero, List.getElem?_cons_succ, Option.bind_some, Act.put, List.setIfInBounds_toArray, List.set_cons_zero, List.set_cons_succ]; rfl
            case hok3 =>
              intro i hi
              obtain rfl | rfl | rfl | rfl | rfl | rfl | rfl | rfl | rfl | rfl | rfl | rfl | rfl | rfl | rfl | rfl | rfl | rfl | rfl | rfl | rfl | rfl | rfl | rfl : i = 0 ∨ i = 1 ∨ i = 2 ∨ i = 3 ∨ i = 4 ∨ i = 5 ∨ i = 6 ∨ i = 7 ∨ i = 8 ∨ i = 9 ∨ i = 10 ∨ i = 11 ∨ i = 12 ∨ i = 13 ∨ i = 14 ∨ i = 15 ∨ i = 16 ∨ i = 17 ∨ i = 18 ∨ i = 19 ∨ i = 20 ∨ i = 21 ∨ i = 22 ∨ i = 23 := by simp only [List.length_cons, List.length_nil, Nat.zero_add, Nat.reduceAdd] at hi; omega
              · clear hi
                rw [if_pos rfl]
                refine step_ofW rfl rfl rfl ?_
                intro u G w hf S
                simp only [resOf, spec, RSpec.resAt, z0, z1, z2, z3, z4, z5, z6, z7, ptrBlk] at S ⊢
                simp only [does]
                go_simp
                first | exact S.taken | exact ⟨rfl, S.taken⟩
              · clear hi
                rw [if_neg (by decide)]; intro r0
                refine step_of rfl rfl rfl ?_
                intro u G w hf S
                have f0 : u 0 = .pointer (some ⟨g4, 9, none⟩) := hf 0 (by simp)
                simp only [resOf, spec, RSpec.resAt, z0, z1, z2, z3, z4, z5, z6, z7, ptrBlk] at S ⊢
                simp only [f0] at S ⊢
                try simp only [ptrBlk] at S
                refine does_load1 51 (.tmp 102) _ _ rfl (S.cell (g := g4) pk rfl) _ Try.underlying51 rfl ?_; exact ⟨rfl, S⟩
              · clear hi
                rw [if_neg (by decide)]; intro r0
                refine step_of rfl rfl rfl ?_
                intro u G w hf S
                simp only [resOf, spec, RSpec.resAt, z0, z1, z2, z3, z4, z5, z6, z7, ptrBlk] at S ⊢
                simp only [does]
                go_simp
                try first | exact S | exact ⟨vv, S⟩ | exact vv
              · clear hi
                rw [if_neg (by decide)]; intro r0
                refine step_of rfl rfl rfl ?_
                intro u G w hf S
                simp only [resOf, spec, RSpec.resAt, z0, z1, z2, z3, z4, z5, z6, z7, ptrBlk] at S ⊢
                simp only [does]
                go_simp
                try first | exact S | exact ⟨vv, S⟩ | exact vv
              · clear hi
                rw [if_neg (by decide)]; intro r0
                refine step_of rfl rfl rfl ?_
                intro u G w hf S
                have f2 : u 2 = (.slice (some ⟨bb, off, none⟩) b.length c0) := hf 2 (by simp)
                have f3 : u 3 = (.int .i64 (P0 : Int)) := hf 3 (by simp)
                simp only [resOf, spec, RSpec.resAt, z0, z1, z2, z3, z4, z5, z6, z7, ptrBlk] at S ⊢
                simp only [f2, f3]
                refine does_fn (args := [((.slice (some ⟨bb, off, none⟩) b.length c0)), ((.int .i64 (P0 : Int))), (.int .i64 8)]) Try.func49 kR kR (Y1.out w (S.oldB HB.out)) rfl ?_
                rintro e w1 ⟨rfl, T⟩
                exact ⟨_, rfl, rfl, S.call T⟩
              · clear hi
                rw [if_neg (by decide)]; intro r0
                refine step_of rfl rfl rfl ?_
                intro u G w hf S
                simp only [resOf, spec, RSpec.resAt, z0, z1, z2, z3, z4, z5, z6, z7, ptrBlk] at S ⊢
                simp only [does]
                go_simp
                try first | exact S | exact ⟨vv, S⟩ | exact vv
              · clear hi
                rw [if_neg (by decide)]; intro r0
                refine step_of rfl rfl rfl ?_
                intro u G w hf S
                simp only [resOf, spec, RSpec.resAt, z0, z1, z2, z3, z4, z5, z6, z7, ptrBlk] at S ⊢
                simp only [does]
                go_simp
                try first | exact S | exact ⟨vv, S⟩ | exact vv
              · clear hi
                rw [if_neg (by decide)]; intro r0
                refine step_of rfl rfl rfl ?_
                intro u G w hf S
                have f6 : u 6 = (.int .i64 (P0 : Int)) := hf 6 (by simp)
                simp only [resOf, spec, RSpec.resAt, z0, z1, z2, z3, z4, z5, z6, z7, ptrBlk] at S ⊢
                simp only [f6]
                simp only [does]
                go_simp
                try first | exact S | exact ⟨vv, S⟩ | exact vv
              · clear hi
                rw [if_neg (by decide)]; intro r0
                refine step_of rfl rfl rfl ?_
                intro u G w hf S
                have f5 : u 5 = (.slice (some ⟨bb, off, none⟩) b.length c0) := hf 5 (by simp)
                have f7 : u 7 = .int .i64 ((P0 : Int) + 8) := hf 7 (by simp)
                simp only [resOf, spec, RSpec.resAt, z0, z1, z2, z3, z4, z5, z6, z7, ptrBlk] at S ⊢
                simp only [f5, f7]
                refine does_fn (args := [((.slice (some ⟨bb, off, none⟩) b.length c0)), (.int .i64 ((P0 : Int) + 8)), (.int .i64 1)]) Try.func49 kR kR (Y2.out w (S.oldB HB.out)) rfl ?_
                rintro e w1 ⟨rfl, T⟩
                exact ⟨_, rfl, rfl, S.call T⟩
              · clear hi
                rw [if_neg (by decide)]; intro r0
                refine step_of rfl rfl rfl ?_
                intro u G w hf S
                have f8 : u 8 = .int .u64 (A1 : Int) := hf 8 (by simp)
                simp only [resOf, spec, RSpec.resAt, z0, z1, z2, z3, z4, z5, z6, z7, ptrBlk] at S ⊢
                simp only [f8]
                simp only [does]
                go_simp
                try first | exact S | exact ⟨vv, S⟩ | exact vv
              · clear hi
                rw [if_neg (by decide)]; intro r0
                refine step_of rfl rfl rfl ?_
                intro u G w hf S
                simp only [resOf, spec, RSpec.resAt, z0, z1, z2, z3, z4, z5, z6, z7, ptrBlk] at S ⊢
                simp only [does]
                go_simp
                try first | exact S | exact ⟨vv, S⟩ | exact vv
              · clear hi
                rw [if_neg (by decide)]; intro r0
                refine step_of rfl rfl rfl ?_
                intro u G w hf S
                simp only [resOf, spec, RSpec.resAt, z0, z1, z2, z3, z4, z5, z6, z7, ptrBlk] at S ⊢
                simp only [does]
                go_simp
                try first | exact S | exact ⟨vv, S⟩ | exact vv
              · clear hi
                rw [if_neg (by decide)]; intro r0
                refine step_of rfl rfl rfl ?_
                intro u G w hf S
                have f11 : u 11 = (.int .i64 (P0 : Int)) := hf 11 (by simp)
                simp only [resOf, spec, RSpec.resAt, z0, z1, z2, z3, z4, z5, z6, z7, ptrBlk] at S ⊢
                simp only [f11]
                simp only [does]
                go_simp
                try first | exact S | exact ⟨vv, S⟩ | exact vv
              · clear hi
                rw [if_neg (by decide)]; intro r0
                refine step_of rfl rfl rfl ?_
                intro u G w hf S
                have f10 : u 10 = (.slice (some ⟨bb, off, none⟩) b.length c0) := hf 10 (by simp)
                have f12 : u 12 = .int .i64 ((P0 : Int) + 9) := hf 12 (by simp)
                simp only [resOf, spec, RSpec.resAt, z0, z1, z2, z3, z4, z5, z6, z7, ptrBlk] at S ⊢
                simp only [f10, f12]
                refine does_fn (args := [((.slice (some ⟨bb, off, none⟩) b.length c0)), (.int .i64 ((P0 : Int) + 9)), (.int .i64 2)]) Try.func49 kR kR (Y3.out w (S.oldB HB.out)) rfl ?_
                rintro e w1 ⟨rfl, T⟩
                exact ⟨_, rfl, rfl, S.call T⟩
              · clear hi
                rw [if_neg (by decide)]; intro r0
                refine step_of rfl rfl rfl ?_
                intro u G w hf S
                have f13 : u 13 = .int .u64 (A2 : Int) := hf 13 (by simp)
                simp only [resOf, spec, RSpec.resAt, z0, z1, z2, z3, z4, z5, z6, z7, ptrBlk] at S ⊢
                simp only [f13]
                simp only [does]
                go_simp
                try first | exact S | exact ⟨vv, S⟩ | exact vv
              · clear hi
                rw [if_neg (by decide)]; intro r0
                refine step_of rfl rfl rfl ?_
                intro u G w hf S
                simp only [resOf, spec, RSpec.resAt, z0, z1, z2, z3, z4, z5, z6, z7, ptrBlk] at S ⊢
                simp only [does]
                go_simp
                try first | exact S | exact ⟨vv, S⟩ | exact vv
              · clear hi
                rw [if_neg (by decide)]; intro r0
                refine step_of rfl rfl rfl ?_
                intro u G w hf S
                simp only [resOf, spec, RSpec.resAt, z0, z1, z2, z3, z4, z5, z6, z7, ptrBlk] at S ⊢
                simp only [does]
                go_simp
                try first | exact S | exact ⟨vv, S⟩ | exact vv
              · clear hi
                rw [if_neg (by decide)]; intro r0
                refine step_of rfl rfl rfl ?_
                intro u G w hf S
                have f16 : u 16 = (.int .i64 (P0 : Int)) := hf 16 (by simp)
                simp only [resOf, spec, RSpec.resAt, z0, z1, z2, z3, z4, z5, z6, z7, ptrBlk] at S ⊢
                simp only [f16]
                simp only [does]
                go_simp
                try first | exact S | exact ⟨vv, S⟩ | exact vv
              · clear hi
                rw [if_neg (by decide)]; intro r0
                refine step_of rfl rfl rfl ?_
                intro u G w hf S
                have f15 : u 15 = (.slice (some ⟨bb, off, none⟩) b.length c0) := hf 15 (by simp)
                have f17 : u 17 = .int .i64 ((P0 : Int) + 11) := hf 17 (by simp)
                simp only [resOf, spec, RSpec.resAt, z0, z1, z2, z3, z4, z5, z6, z7, ptrBlk] at S ⊢
                simp only [f15, f17]
                refine does_fn (args := [((.slice (some ⟨bb, off, none⟩) b.length c0)), (.int .i64 ((P0 : Int) + 11))]) Try.func50 kR kR (Y4.out w (S.oldB HB.out)) rfl ?_
                rintro e w1 ⟨rfl, T⟩
                exact ⟨_, rfl, rfl, S.call T⟩
              · clear hi
                rw [if_neg (by decide)]; intro r0
                refine step_of rfl rfl rfl ?_
                intro u G w hf S
                have f4 : u 4 = .int .u64 (A0 : Int) := hf 4 (by simp)
                have f9 : u 9 = .int .u8 (A1 : Int) := hf 9 (by simp)
                have f14 : u 14 = .int .i64 (A2 : Int) := hf 14 (by simp)
                have f18 : u 18 = .agg (arr8 X.link) := hf 18 (by simp)
                simp only [resOf, spec, RSpec.resAt, z0, z1, z2, z3, z4, z5, z6, z7, ptrBlk] at S ⊢
                simp only [f4, f9, f14, f18]
                refine does_buildRc4 (.tmp 106) (.tmp 111) (.tmp 116) (.tmp 120) X (by rw [HX0.out]; rfl) (show _ = Value.int .u8 _ by rw [HX1.out]; rfl) (by rw [HX2.out]; rfl) rfl ?_; exact ⟨rfl, S⟩
              · clear hi
                rw [if_neg (by decide)]; intro r0
                refine step_of rfl rfl rfl ?_
                intro u G w hf S
                have f19 : u 19 = .agg (rcdL X).toArray := hf 19 (by simp)
                simp only [resOf, spec, RSpec.resAt, z0, z1, z2, z3, z4, z5, z6, z7, ptrBlk] at S ⊢
                simp only [f19]
                refine does_buildRc1 S (.tmp 121) X rfl ?_; intro y w1 S; exact ⟨⟨y, rfl⟩, S⟩
              · clear hi
                rw [if_neg (by decide)]; intro r0
                refine step_of rfl rfl rfl ?_
                intro u G w hf S
                have f0 : u 0 = .pointer (some ⟨g4, 9, none⟩) := hf 0 (by simp)
                have f1 : u 1 = rv := hf 1 (by simp)
                have f20 : ∃ y, u 20 = y := hf 20 (by simp)
                obtain ⟨y122, f20⟩ := f20
                simp only [resOf, spec, RSpec.resAt, z0, z1, z2, z3, z4, z5, z6, z7, ptrBlk] at S ⊢
                simp only [f0, f1, f20] at S ⊢
                try simp only [ptrBlk] at S
                refine does_appendRc (.tmp 103) (.tmp 122) rv RO rfl (S.pick (r := rowRc rv RO) pk) y122 [X] rfl (S.sl (v := y122) (xs := [X].flatMap rcdL) pk) HLE.out ?_; intro v' w' S; exact ⟨trivial, (S.drop (Pick.tail (Pick.tail (Pick.head _ _)))).perm (List.Perm.swap _ _ _)⟩
              · clear hi
                rw [if_neg (by decide)]; intro r0
                refine step_of rfl rfl rfl ?_
                intro u G w hf S
                have f20 : ∃ y, u 20 = y := hf 20 (by simp)
                obtain ⟨y122, f20⟩ := f20
                simp only [resOf, spec, RSpec.resAt, z0, z1, z2, z3, z4, z5, z6, z7, ptrBlk] at S ⊢
                simp only [f20]
                simp only [does]
                go_simp
                try first | exact S | exact ⟨vv, S⟩ | exact vv
              · clear hi
                rw [if_neg (by decide)]; intro r0
                refine step_of rfl rfl rfl ?_
                intro u G w hf S
                have f20 : ∃ y, u 20 = y := hf 20 (by simp)
                obtain ⟨y122, f20⟩ := f20
                have f22 : u 22 = .pointer (some ⟨g4, 9, none⟩) := hf 22 (by simp)
                have m21 : mask [0, 1, 2, 3, 4, 5, 6, 7, 8, 9, 10, 11, 12, 13, 14, 15, 16, 17, 18, 19, 20, 21, 22] u 21 = u 21 := rfl
                simp only [resOf, spec, RSpec.resAt, List.getD_cons_zero, List.getD_cons_succ, List.flatMap_cons, List.flatMap_nil, List.nil_append, List.cons_append, List.append_nil, List.append_assoc, m21, ptrBlk] at S ⊢
                simp only [m21, f20, f22] at S ⊢
                try simp only [ptrBlk] at S
                refine does_store1 S 51 (.tmp 124) (.tmp 123) 9 (u 21) rfl rfl kR (one_sl (S.sl (xs := (RO ++ [X]).flatMap rcdL) pk)).2 (one_sl (S.sl (xs := (RO ++ [X]).flatMap rcdL) pk)).1 (by rw [rpL_size]; decide) ?_; intro w1 S; rw [rpL_set9] at S; exact ⟨trivial, S⟩
            case fin3 =>
              intro u w hf S
              have f0 : u 0 = .pointer (some ⟨g4, 9, none⟩) := hf 0 (by simp)
              have f1 : u 1 = rv := hf 1 (by simp)
              have f2 : u 2 = (.slice (some ⟨bb, off, none⟩) b.length c0) := hf 2 (by simp)
              have f3 : u 3 = (.int .i64 (P0 : Int)) := hf 3 (by simp)
              have f4 : u 4 = .int .u64 (A0 : Int) := hf 4 (by simp)
              have f5 : u 5 = (.slice (some ⟨bb, off, none⟩) b.length c0) := hf 5 (by simp)
              have f6 : u 6 = (.int .i64 (P0 : Int)) := hf 6 (by simp)
              have f7 : u 7 = .int .i64 ((P0 : Int) + 8) := hf 7 (by simp)
              have f8 : u 8 = .int .u64 (A1 : Int) := hf 8 (by simp)
              have f9 : u 9 = .int .u8 (A1 : Int) := hf 9 (by simp)
              have f10 : u 10 = (.slice (some ⟨bb, off, none⟩) b.length c0) := hf 10 (by simp)
              have f11 : u 11 = (.int .i64 (P0 : Int)) := hf 11 (by simp)
              have f12 : u 12 = .int .i64 ((P0 : Int) + 9) := hf 12 (by simp)
              have f13 : u 13 = .int .u64 (A2 : Int) := hf 13 (by simp)
              have f14 : u 14 = .int .i64 (A2 : Int) := hf 14 (by simp)
              have f15 : u 15 = (.slice (some ⟨bb, off, none⟩) b.length c0) := hf 15 (by simp)
              have f16 : u 16 = (.int .i64 (P0 : Int)) := hf 16 (by simp)
              have f17 : u 17 = .int .i64 ((P0 : Int) + 11) := hf 17 (by simp)
              have f18 : u 18 = .agg (arr8 X.link) := hf 18 (by simp)
              have f19 : u 19 = .agg (rcdL X).toArray := hf 19 (by simp)
              have f20 : ∃ y, u 20 = y := hf 20 (by simp)
              obtain ⟨y122, f20⟩ := f20
              have f22 : u 22 = .pointer (some ⟨g4, 9, none⟩) := hf 22 (by simp)
              have m23_21 : mask [0, 1, 2, 3, 4, 5, 6, 7, 8, 9, 10, 11, 12, 13, 14, 15, 16, 17, 18, 19, 20, 21, 22] u 21 = u 21 := rfl
              simp only [resOf, spec, RSpec.resAt, List.getD_cons_zero, List.getD_cons_succ, List.flatMap_cons, List.flatMap_nil, List.nil_append, List.cons_append, List.append_nil, List.append_assoc, m23_21, ptrBlk] at S
              clear hf
              simp only [List.length_cons, List.length_nil, Nat.zero_add, Nat.reduceAdd, List.drop_succ_cons, List.drop_zero, f0, f1, f2, f3, f4, f5, f6, f7, f8, f9, f10, f11, f12, f13, f14, f15, f16, f17, f18, f19, f20, f22]
              try simp only [f0, f1, f2, f3, f4, f5, f6, f7, f8, f9, f10, f11, f12, f13, f14, f15, f16, f17, f18, f19, f20, f22, ptrBlk] at S
              clear f0 f1 f2 f3 f4 f5 f6 f7 f8 f9 f10 f11 f12 f13 f14 f15 f16 f17 f18 f19 f20 f22 m23_21
              generalize u 21 = v123 at S ⊢
              clear w1' w1'' w2'
              go_wp2_with (first | ((with_reducible refine iO _ (.load 5 _) ?_); refine step_load1 5 _ _ _ rfl (cL) _ Try.underlying5 rfl gw ?_) | fail)
              go_roundw
              case rel => exact ⟨n + 1, _, by omega, by go_num, by rw [HMORE.out]; exact S.sub (by repeat (first | exact Sub.nil _ | refine Sub.cons pk ?_))⟩
              case measure => simp [intOf]; omega
          · obtain rfl : n = A := by omega
            have hki : ¬ (n : Int) < (n : Int) := by omega
            go_wp2_with (first | ((with_reducible refine iO _ (.load 5 _) ?_); refine step_load1 5 _ _ _ rfl (cL) _ Try.underlying5 rfl gw ?_) | fail)
            go_meet
            case rel => exact ⟨nilV, rv, by rw [HR.out, ← HSET.out]; exact S.nilSg1⟩
      · obtain rfl := hq
        have hR : R = { rpH k c t with tok := if b.length = 59 then decT (b.drop 13) else tokZ } := HR.out
        by_cases h59 : b.length = 59
        · rw [if_pos h59] at hR
          have pd := fun v w h => refDec_s v (b.drop 13) w h
          have hb13 := HB.out.cutL 13 (by omega) rfl
          have hl13 : 13 ≤ b.length := by omega
          obtain ⟨tk, htk⟩ : ∃ t, t = decT (b.drop 13) := ⟨_, rfl⟩
          rw [← htk] at hR pd
          have j59 : ((b.length : Int) == 59) = true := by rw [beq_iff_eq]; omega
          clear HR HOK HE0 HDR PV PE PAT PLK htk h59
          have HR := Lib.hid hR; have PD := Lib.hid pd; have HB13 := Lib.hid hb13; clear hR pd hb13
          go_wp2_with (first | ((with_reducible refine iD 132 (.slice 22 _ _ _ _) ?_); refine step_cutL 22 5 1 (.tmp 131) _ (some ⟨bb, off, none⟩) b.length c0 _ _ 13 rfl rfl rfl (by omega) Try.underlying22 kR gw ?_) | ((with_reducible refine iO none (.store 36 (.tmp 136) (.tmp 134)) ?_); refine step_storeP S 36 (.tmp 136) (.tmp 134) g4 10 (tokL tk).toArray rfl rfl _ _ pk 36 kR (tokL_size _) (by rw [rpL_size]; decide) (tokL_one _) _ (rpL_setTok ..) gw ?_; clear S; intro w S) | ((with_reducible refine iO _ (.load 5 _) ?_); refine step_load1 5 _ _ _ rfl (cL) _ Try.underlying5 rfl gw ?_) | (go_at_call 38; (with_reducible refine (PD.out _ _ (S.oldB HB13.out)).mono ?_); rintro e w1 ⟨rfl, T⟩; replace S := S.call T; clear T; (try simp only [z4, z5] at S)) | fail)
          go_meet
          case rel => exact ⟨nilV, nilV, by rw [HR.out]; exact S.nilSgRc⟩
        · rw [if_neg h59] at hR
          have j59 : ((b.length : Int) == 59) = false := by rw [beq_eq_false_iff_ne]; omega
          clear HR HOK HE0 HDR PV PE PAT PLK h59
          have HR := Lib.hid hR; clear hR
          go_wp2_with (first | ((with_reducible refine iO _ (.load 5 _) ?_); refine step_load1 5 _ _ _ rfl (cL) _ Try.underlying5 rfl gw ?_) | fail)
          go_meet
          case rel => exact ⟨nilV, nilV, by rw [HR.out]; exact S.nilSgRc⟩
      · obtain rfl := hq
        have hR : R = rpH k c t := HR.out
        clear HR HOK HE0 HDR PV PE PAT PLK
        have HR := Lib.hid hR; clear hR
        go_wp2_with (first | ((with_reducible refine iO _ (.load 5 _) ?_); refine step_load1 5 _ _ _ rfl (cL) _ Try.underlying5 rfl gw ?_) | fail)
        go_meet
        case rel => exact ⟨nilV, nilV, by rw [HR.out]; exact S.nilSgRc⟩
    case rest =>
    clear S hk
    obtain ⟨vr, vc, S⟩ := hcut
    have hOk := HOK.out
    have hE0 := HE0.out
    have hDR := HDR.out
    have pv := PV.out vr vc
    have hone := (one_sl (S.sl (v := vr) pk)).1
    have hone2 := (one_sl (S.sl (v := vc) pk)).1
    clear PV HOK HE0 HDR PAT PLK HR Q0 Q1 HM
    cases hv : rpV R
    · have hE : dpOk b = false := by rw [← hOk, hv]; rfl
      rw [hv] at pv
      have hX : dpE b = 11 ∧ dpR b = rpZ := ⟨by rw [hE0, hE]; rfl, by rw [hDR, hE0, hE]; exact if_neg (by decide)⟩
      clear hOk hDR hE0 hE hv
      have PV := Lib.hid pv; have HX := Lib.hid hX; have HONE := Lib.hid hone; have HONE2 := Lib.hid hone2; clear pv hX hone hone2
      go_wp2_with fail
      refine wp_rely S [⟨[], [], [], fun _ v => v = .agg (rpL R vr vc).toArray, fun _ v => []⟩, ⟨[0], [], [], fun _ v => v = .bool false, fun _ v => []⟩, ⟨[0, 1], [], [], fun _ v => v = .bool true, fun _ v => []⟩, ⟨[0, 1, 2], [], [], fun _ v => v = (.bool true), fun _ v => []⟩, ⟨[0, 1, 2, 3], [], [], fun _ v => v = undef, fun _ v => []⟩, ⟨[0, 1, 2, 3, 4], [], [], fun _ v => v = undef, fun _ v => []⟩, ⟨[0, 1, 2, 3, 4, 5], [], [], fun _ v => v = undef, fun _ v => []⟩, ⟨[0, 1, 2, 3], [], [], fun _ v => v = undef, fun _ v => []⟩, ⟨[0, 1, 2, 3, 7], [], [], fun _ v => v = undef, fun _ v => []⟩, ⟨[0, 1, 2, 3, 4, 5, 6, 7, 8], [], [], fun _ v => v = undef, fun _ v => []⟩, ⟨[0, 1, 2, 3, 4, 5, 6, 7, 8, 9], [], [], fun _ v => v = .bool true, fun _ v => []⟩] ?A4 ?hA4 kR kR kR [0, 1, 2, 3, 4, 5, 6, 7, 8, 9, 10] kR ?hok4 ?fin4
      case hA4 => intro u; simp only [putAll, List.length_cons, List.length_nil, Nat.zero_add, Nat.reduceAdd, dstAt, List.getElem?_toArray, List.getElem?_cons_zero, List.getElem?_cons_succ, Option.bind_some, Act.put, List.setIfInBounds_toArray, List.set_cons_zero, List.set_cons_succ]; rfl
      case hok4 =>
        intro i hi
        obtain rfl | rfl | rfl | rfl | rfl | rfl | rfl | rfl | rfl | rfl | rfl : i = 0 ∨ i = 1 ∨ i = 2 ∨ i = 3 ∨ i = 4 ∨ i = 5 ∨ i = 6 ∨ i = 7 ∨ i = 8 ∨ i = 9 ∨ i = 10 := by simp only [List.length_cons, List.length_nil, Nat.zero_add, Nat.reduceAdd] at hi; omega
        · clear hi
          refine step_of rfl rfl rfl ?_
          intro u G w hf S
          simp only [resOf, spec, RSpec.resAt, z0, z1, z2, z3, z4, z5, z6, z7, ptrBlk] at S ⊢
          refine does_load 53 (.tmp 4) g4 rfl _ _ _ (S.get (r := blk g4 _) pk) _ Try.underlying53 rfl 46 kR lN ?_; exact ⟨rfl, S⟩
        · clear hi
          refine step_of rfl rfl rfl ?_
          intro u G w hf S
          have f0 : u 0 = .agg (rpL R vr vc).toArray := hf 0 (by simp)
          simp only [resOf, spec, RSpec.resAt, z0, z1, z2, z3, z4, z5, z6, z7, ptrBlk] at S ⊢
          simp only [f0]
          refine does_fn (args := [(.agg (rpL R vr vc).toArray)]) Try.func41 kR kR (PV.out w (S.sl (v := vr) pk) (S.sl (v := vc) pk)) rfl ?_
          rintro e w1 ⟨rfl, T⟩
          exact ⟨_, rfl, rfl, S.call T⟩
        · clear hi
          refine step_of rfl rfl rfl ?_
          intro u G w hf S
          have f1 : u 1 = .bool false := hf 1 (by simp)
          simp only [resOf, spec, RSpec.resAt, z0, z1, z2, z3, z4, z5, z6, z7, ptrBlk] at S ⊢
          simp only [f1]
          simp only [does]
          go_simp
          try first | exact S | exact ⟨vv, S⟩ | exact vv
        · clear hi
          refine step_of rfl rfl rfl ?_
          intro u G w hf S
          have f2 : u 2 = .bool true := hf 2 (by simp)
          simp only [resOf, spec, RSpec.resAt, z0, z1, z2, z3, z4, z5, z6, z7, ptrBlk] at S ⊢
          simp only [f2]
          simp only [does]
          go_simp
          try first | exact S | exact ⟨vv, S⟩ | exact vv
        · clear hi
          refine step_of_x rfl rfl ?_
          intro u G w hf S
          have f3 : u 3 = (.bool true) := hf 3 (by simp)
          simp only [resOf, spec, RSpec.resAt, z0, z1, z2, z3, z4, z5, z6, z7, ptrBlk] at S ⊢
          simp only [f3]
          refine ⟨rfl, ?_⟩
          first | exact ⟨rfl, S⟩ | exact ⟨trivial, S⟩
        · clear hi
          refine step_of_x rfl rfl ?_
          intro u G w hf S
          have f3 : u 3 = (.bool true) := hf 3 (by simp)
          have f4 : u 4 = undef := hf 4 (by simp)
          simp only [resOf, spec, RSpec.resAt, z0, z1, z2, z3, z4, z5, z6, z7, ptrBlk] at S ⊢
          simp only [f3, f4]
          refine ⟨rfl, ?_⟩
          first | exact ⟨rfl, S⟩ | exact ⟨trivial, S⟩
        · clear hi
          refine step_of_x rfl rfl ?_
          intro u G w hf S
          have f3 : u 3 = (.bool true) := hf 3 (by simp)
          have f5 : u 5 = undef := hf 5 (by simp)
          simp only [resOf, spec, RSpec.resAt, z0, z1, z2, z3, z4, z5, z6, z7, ptrBlk] at S ⊢
          simp only [f3, f5]
          refine ⟨rfl, ?_⟩
          first | exact ⟨rfl, S⟩ | exact ⟨trivial, S⟩
        · clear hi
          refine step_of_x rfl rfl ?_
          intro u G w hf S
          have f3 : u 3 = (.bool true) := hf 3 (by simp)
          simp only [resOf, spec, RSpec.resAt, z0, z1, z2, z3, z4, z5, z6, z7, ptrBlk] at S ⊢
          simp only [f3]
          refine ⟨rfl, ?_⟩
          first | exact ⟨rfl, S⟩ | exact ⟨trivial, S⟩
        · clear hi
          refine step_of_x rfl rfl ?_
          intro u G w hf S
          have f3 : u 3 = (.bool true) := hf 3 (by simp)
          have f7 : u 7 = undef := hf 7 (by simp)
          simp only [resOf, spec, RSpec.resAt, z0, z1, z2, z3, z4, z5, z6, z7, ptrBlk] at S ⊢
          simp only [f3, f7]
          refine ⟨rfl, ?_⟩
          first | exact ⟨rfl, S⟩ | exact ⟨trivial, S⟩
        · clear hi
          refine step_of_x rfl rfl ?_
          intro u G w hf S
          have f3 : u 3 = (.bool true) := hf 3 (by simp)
          have f6 : u 6 = undef := hf 6 (by simp)
          have f8 : u 8 = undef := hf 8 (by simp)
          simp only [resOf, spec, RSpec.resAt, z0, z1, z2, z3, z4, z5, z6, z7, ptrBlk] at S ⊢
          simp only [f3, f6, f8]
          refine ⟨rfl, ?_⟩
          first | exact ⟨rfl, S⟩ | exact ⟨trivial, S⟩
        · clear hi
          refine step_of rfl rfl rfl ?_
          intro u G w hf S
          have f3 : u 3 = (.bool true) := hf 3 (by simp)
          have f9 : u 9 = undef := hf 9 (by simp)
          simp only [resOf, spec, RSpec.resAt, z0, z1, z2, z3, z4, z5, z6, z7, ptrBlk] at S ⊢
          simp only [f3, f9]
          simp only [does]
          go_simp
          try first | exact S | exact ⟨vv, S⟩ | exact vv
      case fin4 =>
        intro u w hf S
        have f0 : u 0 = .agg (rpL R vr vc).toArray := hf 0 (by simp)
        have f1 : u 1 = .bool false := hf 1 (by simp)
        have f2 : u 2 = .bool true := hf 2 (by simp)
        have f3 : u 3 = (.bool true) := hf 3 (by simp)
        have f4 : u 4 = undef := hf 4 (by simp)
        have f5 : u 5 = undef := hf 5 (by simp)
        have f6 : u 6 = undef := hf 6 (by simp)
        have f7 : u 7 = undef := hf 7 (by simp)
        have f8 : u 8 = undef := hf 8 (by simp)
        have f9 : u 9 = undef := hf 9 (by simp)
        have f10 : u 10 = .bool true := hf 10 (by simp)
        simp only [resOf, spec, RSpec.resAt, z0, z1, z2, z3, z4, z5, z6, z7, ptrBlk] at S
        clear hf
        simp only [List.length_cons, List.length_nil, Nat.zero_add, Nat.reduceAdd, List.drop_succ_cons, List.drop_zero, f0, f1, f2, f3, f4, f5, f6, f7, f8, f9, f10]
        clear f0 f1 f2 f3 f4 f5 f6 f7 f8 f9 f10
        go_wp2_with (first | ((with_reducible refine iD 2 (.alloc 53) ?_); refine step_alloc (dst := some 2) S 53 (.agg ((rpL rpZ (.slice none 0 0) (.slice none 0 0)).toArray)) ((rpL rpZ (.slice none 0 0) (.slice none 0 0)).toArray) kR rfl gw ?_; clear S; intro g2 w S) | ((with_reducible refine iD 13 (.build 53 _) ?_); refine step_buildZ 53 (.agg ((rpL rpZ (.slice none 0 0) (.slice none 0 0)).toArray)) (fun w => by kernel_rfl) gw ?_) | ((with_reducible refine iO none (.store 53 (.tmp 2) (.tmp 13)) ?_); refine step_store S 53 (.tmp 2) (.tmp 13) _ _ rfl rfl _ _ pk 46 kR lN lN on1 gw ?_; clear S; intro w S) | ((with_reducible refine iO _ (.load 5 _) ?_); refine step_load1 5 _ _ _ rfl (cL) _ Try.underlying5 rfl gw ?_) | ((with_reducible refine iD 4 (.alloc 53) ?_); refine step_alloc (dst := some 4) S 53 (.agg ((rpL rpZ (.slice none 0 0) (.slice none 0 0)).toArray)) ((rpL rpZ (.slice none 0 0) (.slice none 0 0)).toArray) kR rfl gw ?_; clear S; intro g4 w S) | ((with_reducible refine iO none (.store 53 (.tmp 4) (.tmp 22)) ?_); refine step_store S 53 (.tmp 4) (.tmp 22) _ _ rfl rfl _ _ pk 46 kR lN lN on1 gw ?_; clear S; intro w S) | ((with_reducible refine iO _ (.load 24 _) ?_); refine step_load1 24 _ _ _ rfl (cL) _ Try.underlying24 rfl gw ?_) | ((with_reducible refine iO none (.store 3 (.tmp 34) (.tmp 33)) ?_); refine step_store1 S 3 (.tmp 34) (.tmp 33) _ _ (.int _ _) rfl rfl _ _ pk kR kR rfl lN gw ?_; clear S; intro w S; try simp only [List.setIfInBounds_toArray, List.set_cons_zero, List.set_cons_succ] at S) | ((with_reducible refine iO none (.store 5 (.tmp 40) (.tmp 39)) ?_); first | (refine step_store1 S 5 (.tmp 40) (.tmp 39) _ _ (.int _ _) rfl rfl _ _ pk kR rfl rfl lN gw ?_; clear S; intro w S; try simp only [List.setIfInBounds_toArray, List.set_cons_zero, List.set_cons_succ] at S) | (refine step_storeR S 5 (.tmp 40) (.tmp 39) _ _ (.int _ _) rfl rfl _ _ _ _ pk lE kR rfl rfl gw ?_; clear S; intro w S) | (refine step_storeS S 5 (.tmp 40) (.tmp 39) _ _ (.int _ _) rfl rfl _ _ _ _ _ pk lE kR rfl rfl gw ?_; clear S; intro w S)) | ((with_reducible refine iO none (.store 32 (.tmp 43) (.tmp 42)) ?_); first | (refine step_store1 S 32 (.tmp 43) (.tmp 42) _ _ (.int _ _) rfl rfl _ _ pk kR rfl rfl lN gw ?_; clear S; intro w S; try simp only [List.setIfInBounds_toArray, List.set_cons_zero, List.set_cons_succ] at S) | (refine step_storeR S 32 (.tmp 43) (.tmp 42) _ _ (.int _ _) rfl rfl _ _ _ _ pk lE kR rfl rfl gw ?_; clear S; intro w S) | (refine step_storeS S 32 (.tmp 43) (.tmp 42) _ _ (.int _ _) rfl rfl _ _ _ _ _ pk lE kR rfl rfl gw ?_; clear S; intro w S)) | ((with_reducible refine iO _ (.load 50 _) ?_); refine step_load1 50 _ _ _ rfl (cL) _ Try.underlying50 rfl gw ?_) | ((with_reducible refine iO none (.store 50 (.tmp 77) (.tmp 76)) ?_); first | (refine step_store1 S 50 (.tmp 77) (.tmp 76) _ _ (.slice _ _ _) rfl rfl _ _ pk kR rfl rfl lN gw ?_; clear S; intro w S; try simp only [List.setIfInBounds_toArray, List.set_cons_zero, List.set_cons_succ] at S) | (refine step_storeR S 50 (.tmp 77) (.tmp 76) _ _ (.slice _ _ _) rfl rfl _ _ _ _ pk lE kR rfl rfl gw ?_; clear S; intro w S) | (refine step_storeS S 50 (.tmp 77) (.tmp 76) _ _ (.slice _ _ _) rfl rfl _ _ _ _ _ pk lE kR rfl rfl gw ?_; clear S; intro w S)) | ((with_reducible refine iO none (.store 3 (.tmp 84) (.tmp 83)) ?_); refine step_store1 S 3 (.tmp 84) (.tmp 83) _ _ (.int _ _) rfl rfl _ _ pk kR kR rfl lN gw ?_; clear S; intro w S; try simp only [List.setIfInBounds_toArray, List.set_cons_zero, List.set_cons_succ] at S) | ((with_reducible refine iO none (.store 33 (.tmp 90) (.tmp 89)) ?_); first | (refine step_store1 S 33 (.tmp 90) (.tmp 89) _ _ (.int _ _) rfl rfl _ _ pk kR rfl rfl lN gw ?_; clear S; intro w S; try simp only [List.setIfInBounds_toArray, List.set_cons_zero, List.set_cons_succ] at S) | (refine step_storeR S 33 (.tmp 90) (.tmp 89) _ _ (.int _ _) rfl rfl _ _ _ _ pk lE kR rfl rfl gw ?_; clear S; intro w S) | (refine step_storeS S 33 (.tmp 90) (.tmp 89) _ _ (.int _ _) rfl rfl _ _ _ _ _ pk lE kR rfl rfl gw ?_; clear S; intro w S)) | ((with_reducible refine iO _ (.load 51 _) ?_); refine step_load1 51 _ _ _ rfl (cL) _ Try.underlying51 rfl gw ?_) | (at_builtin; refine step_appendRc S (.tmp 103) (.tmp 122) _ _ rfl pk _ _ rfl sL lE gw ?_; clear S; intro v123 w S; (try simp only [z4] at S)) | ((with_reducible refine iO none (.store 51 (.tmp 124) (.tmp 123)) ?_); first | (refine step_store1 S 51 (.tmp 124) (.tmp 123) _ _ (.slice _ _ _) rfl rfl _ _ pk kR rfl rfl lN gw ?_; clear S; intro w S; try simp only [List.setIfInBounds_toArray, List.set_cons_zero, List.set_cons_succ] at S) | (refine step_storeR S 51 (.tmp 124) (.tmp 123) _ _ (.slice _ _ _) rfl rfl _ _ _ _ pk lE kR rfl rfl gw ?_; clear S; intro w S) | (refine step_storeS S 51 (.tmp 124) (.tmp 123) _ _ (.slice _ _ _) rfl rfl _ _ _ _ _ pk lE kR rfl rfl gw ?_; clear S; intro w S)) | ((with_reducible refine iO _ (.slice 22 _ _ _ _) ?_); refine step_cutL 22 5 1 _ _ _ _ _ _ _ 13 rfl rfl (by first | rfl | omega) (by first | (first | omega | assumption | (exact Hid.out (by assumption)) | (simp only [List.length_append, List.length_cons, List.length_nil]; omega)) | decide) Try.underlying22 kR gw ?_) | ((with_reducible refine iO none (.store 36 (.tmp 136) (.tmp 134)) ?_); refine step_store S 36 (.tmp 136) (.tmp 134) _ _ rfl rfl _ _ pk 36 kR lN lN on1 gw ?_; clear S; intro w S) | ((with_reducible refine iO _ (.load 53 _) ?_); first | (refine step_load S 53 _ _ rfl _ _ _ pk _ Try.underlying53 rfl 46 kR lN gw ?_) | (refine step_loadO 53 _ _ rfl _ _ _ (S.old_heap (Hid.out (by assumption))) _ Try.underlying53 rfl 46 kR lN gw ?_) | (refine step_loadR 53 _ _ _ rfl _ (S.old_range hy) _ Try.underlying53 rfl 46 kR lN _ rfl gw ?_)) | ((with_reducible refine iO _ (.convert 22 9 _) ?_); refine step_conv 22 9 5 _ _ _ rfl Try.underlying22 Try.underlying5 Try.underlying9 bS gw ?_) | ((with_reducible refine iD 148 (.build 53 _) ?_); refine step_buildZ 53 (.agg ((rpL rpZ (.slice none 0 0) (.slice none 0 0)).toArray)) (fun w => by kernel_rfl) gw ?_) | ((with_reducible refine iO none (.store 53 (.tmp 2) (.tmp 148)) ?_); refine step_store S 53 (.tmp 2) (.tmp 148) _ _ rfl rfl _ _ pk 46 kR lN lN on1 gw ?_; clear S; intro w S) | ((with_reducible refine iO none (.store 53 (.tmp 2) (.tmp 149)) ?_); refine step_store S 53 (.tmp 2) (.tmp 149) _ _ rfl rfl _ _ pk 46 kR lN lN on1 gw ?_; clear S; intro w S) | fail)
        refine ret_row_tmp rfl g2 53 _ (S.get pk) _ Try.underlying53 46 kR lN rfl rfl rfl ?_
        exact ⟨nilV, nilV, by rw [HX.out.1, HX.out.2]; rfl, by rw [HX.out.2]; exact S.nil.zRp⟩
    · have pe := fun w h1 h2 => PE.out vr vc w hv h1 h2
      rw [hv] at pv hOk
      rw [Bool.true_and] at hOk
      obtain ⟨Z, hZ⟩ : ∃ Z, Z = encP R := ⟨_, rfl⟩
      rw [← hZ] at pe hOk
      have hd := strB_eqb Z b
      rw [hOk] at hd
      obtain ⟨d, hde⟩ : ∃ d, d = dpOk b := ⟨_, rfl⟩
      rw [← hde] at hd hE0
      clear hOk hv hde hZ PE
      have PV := Lib.hid pv; have PE := Lib.hid pe; have HD := Lib.hid hd; have HE0 := Lib.hid hE0; have HDR := Lib.hid hDR; have HONE := Lib.hid hone; have HONE2 := Lib.hid hone2; clear pv pe hd hE0 hDR hone hone2
      go_wp2_with fail
      refine wp_rely S [⟨[], [], [], fun _ v => v = .agg (rpL R vr vc).toArray, fun _ v => []⟩, ⟨[0], [], [], fun _ v => v = .bool true, fun _ v => []⟩, ⟨[0, 1], [], [], fun _ v => v = .bool false, fun _ v => []⟩, ⟨[0, 1, 2], [], [], fun _ v => v = (.bool false), fun _ v => []⟩, ⟨[0, 1, 2, 3], [], [], fun _ v => v = .agg (rpL R vr vc).toArray, fun _ v => []⟩, ⟨[0, 1, 2, 3, 4], [], [], fun _ v => ∃ y, v = y, fun _ v => [row8 v Z]⟩, ⟨[0, 1, 2, 3, 4, 5], [], [5], fun _ v => v = .string (strB Z), fun _ v => []⟩, ⟨[0, 1, 2, 3], [], [], fun _ v => v = (.slice (some ⟨bb, off, none⟩) b.length c0), fun _ v => []⟩, ⟨[0, 1, 2, 3, 7], [], [], fun _ v => v = .string (strB b), fun _ v => []⟩, ⟨[0, 1, 2, 3, 4, 5, 6, 7, 8], [], [], fun _ v => v = .bool (!d), fun _ v => []⟩, ⟨[0, 1, 2, 3, 4, 5, 6, 7, 8, 9], [], [], fun _ v => v = .bool (!d), fun _ v => []⟩] ?A5 ?hA5 kR kR kR [0, 1, 2, 3, 4, 5, 6, 7, 8, 9, 10] kR ?hok5 ?fin5
      case hA5 => intro u; simp only [putAll, List.length_cons, List.length_nil, Nat.zero_add, Nat.reduceAdd, dstAt, List.getElem?_toArray, List.getElem?_cons_zero, List.getElem?_cons_succ, Option.bind_some, Act.put, List.setIfInBounds_toArray, List.set_cons_zero, List.set_cons_succ]; rfl
      case hok5 =>
        intro i hi
        obtain rfl | rfl | rfl | rfl | rfl | rfl | rfl | rfl | rfl | rfl | rfl : i = 0 ∨ i = 1 ∨ i = 2 ∨ i = 3 ∨ i = 4 ∨ i = 5 ∨ i = 6 ∨ i = 7 ∨ i = 8 ∨ i = 9 ∨ i = 10 := by simp only [List.length_cons, List.length_nil, Nat.zero_add, Nat.reduceAdd] at hi; omega
        · clear hi
          refine step_of rfl rfl rfl ?_
          intro u G w hf S
          simp only [resOf, spec, RSpec.resAt, z0, z1, z2, z3, z4, z5, z6, z7, ptrBlk] at S ⊢
          refine does_load 53 (.tmp 4) g4 rfl _ _ _ (S.get (r := blk g4 _) pk) _ Try.underlying53 rfl 46 kR lN ?_; exact ⟨rfl, S⟩
        · clear hi
          refine step_of rfl rfl rfl ?_
          intro u G w hf S
          have f0 : u 0 = .agg (rpL R vr vc).toArray := hf 0 (by simp)
          simp only [resOf, spec, RSpec.resAt, z0, z1, z2, z3, z4, z5, z6, z7, ptrBlk] at S ⊢
          simp only [f0]
          refine does_fn (args := [(.agg (rpL R vr vc).toArray)]) Try.func41 kR kR (PV.out w (S.sl (v := vr) pk) (S.sl (v := vc) pk)) rfl ?_
          rintro e w1 ⟨rfl, T⟩
          exact ⟨_, rfl, rfl, S.call T⟩
        · clear hi
          refine step_of rfl rfl rfl ?_
          intro u G w hf S
          have f1 : u 1 = .bool true := hf 1 (by simp)
          simp only [resOf, spec, RSpec.resAt, z0, z1, z2, z3, z4, z5, z6, z7, ptrBlk] at S ⊢
          simp only [f1]
          simp only [does]
          go_simp
          try first | exact S | exact ⟨vv, S⟩ | exact vv
        · clear hi
          refine step_of rfl rfl rfl ?_
          intro u G w hf S
          have f2 : u 2 = .bool false := hf 2 (by simp)
          simp only [resOf, spec, RSpec.resAt, z0, z1, z2, z3, z4, z5, z6, z7, ptrBlk] at S ⊢
          simp only [f2]
          simp only [does]
          go_simp
          try first | exact S | exact ⟨vv, S⟩ | exact vv
        · clear hi
          refine step_of_g rfl rfl ?_
          intro u G w hf S
          have f3 : u 3 = (.bool false) := hf 3 (by simp)
          simp only [resOf, spec, RSpec.resAt, z0, z1, z2, z3, z4, z5, z6, z7, ptrBlk] at S ⊢
          simp only [f3]
          refine ⟨rfl, ?_⟩
          refine does_load 53 (.tmp 4) g4 rfl _ _ _ (S.get (r := blk g4 _) pk) _ Try.underlying53 rfl 46 kR lN ?_; exact ⟨rfl, S⟩
        · clear hi
          refine step_of_g rfl rfl ?_
          intro u G w hf S
          have f3 : u 3 = (.bool false) := hf 3 (by simp)
          have f4 : u 4 = .agg (rpL R vr vc).toArray := hf 4 (by simp)
          simp only [resOf, spec, RSpec.resAt, z0, z1, z2, z3, z4, z5, z6, z7, ptrBlk] at S ⊢
          simp only [f3, f4]
          refine ⟨rfl, ?_⟩
          refine does_fn (args := [(.agg (rpL R vr vc).toArray)]) Try.func42 kR kR (PE.out w (S.sl (v := vr) pk) (S.sl (v := vc) pk)) rfl ?_
          rintro e w1 ⟨y, rfl, T⟩
          exact ⟨_, rfl, ⟨_, rfl⟩, S.call T⟩
        · clear hi
          refine step_of_g rfl rfl ?_
          intro u G w hf S
          have f3 : u 3 = (.bool false) := hf 3 (by simp)
          have f5 : ∃ y, u 5 = y := hf 5 (by simp)
          obtain ⟨y142, f5⟩ := f5
          simp only [resOf, spec, RSpec.resAt, z0, z1, z2, z3, z4, z5, z6, z7, ptrBlk] at S ⊢
          simp only [f3, f5] at S ⊢
          try simp only [ptrBlk] at S
          refine ⟨rfl, ?_⟩
          refine does_conv 22 9 5 (.tmp 142) y142 _ rfl Try.underlying22 Try.underlying5 Try.underlying9 (S.bs (v := y142) (xs := Z) pk) ?_; exact ⟨rfl, S⟩
        · clear hi
          refine step_of_g rfl rfl ?_
          intro u G w hf S
          have f3 : u 3 = (.bool false) := hf 3 (by simp)
          simp only [resOf, spec, RSpec.resAt, z0, z1, z2, z3, z4, z5, z6, z7, ptrBlk] at S ⊢
          simp only [f3]
          refine ⟨rfl, ?_⟩
          simp only [does]
          go_simp
          try first | exact S | exact ⟨vv, S⟩ | exact vv
        · clear hi
          refine step_of_g rfl rfl ?_
          intro u G w hf S
          have f3 : u 3 = (.bool false) := hf 3 (by simp)
          have f7 : u 7 = (.slice (some ⟨bb, off, none⟩) b.length c0) := hf 7 (by simp)
          simp only [resOf, spec, RSpec.resAt, z0, z1, z2, z3, z4, z5, z6, z7, ptrBlk] at S ⊢
          simp only [f3, f7]
          refine ⟨rfl, ?_⟩
          refine does_conv 22 9 5 (.tmp 144) _ _ rfl Try.underlying22 Try.underlying5 Try.underlying9 (S.oldB HB.out) ?_; exact ⟨rfl, S⟩
        · clear hi
          refine step_of_g rfl rfl ?_
          intro u G w hf S
          have f3 : u 3 = (.bool false) := hf 3 (by simp)
          have f5 : ∃ y, u 5 = y := hf 5 (by simp)
          obtain ⟨y142, f5⟩ := f5
          have f6 : u 6 = .string (strB Z) := hf 6 (by simp)
          have f8 : u 8 = .string (strB b) := hf 8 (by simp)
          simp only [resOf, spec, RSpec.resAt, z0, z1, z2, z3, z4, z5, z6, z7, ptrBlk] at S ⊢
          simp only [f3, f5, f6, f8]
          refine ⟨rfl, ?_⟩
          simp only [does]; go_simp; first | (refine ⟨?_, S⟩; rw [HD.out]) | (rw [HD.out])
        · clear hi
          refine step_of rfl rfl rfl ?_
          intro u G w hf S
          have f3 : u 3 = (.bool false) := hf 3 (by simp)
          have f5 : ∃ y, u 5 = y := hf 5 (by simp)
          obtain ⟨y142, f5⟩ := f5
          have f9 : u 9 = .bool (!d) := hf 9 (by simp)
          simp only [resOf, spec, RSpec.resAt, z0, z1, z2, z3, z4, z5, z6, z7, ptrBlk] at S ⊢
          simp only [f3, f5, f9]
          simp only [does]
          go_simp
          try first | exact S | exact ⟨vv, S⟩ | exact vv
      case fin5 =>
        intro u w hf S
        have f0 : u 0 = .agg (rpL R vr vc).toArray := hf 0 (by simp)
        have f1 : u 1 = .bool true := hf 1 (by simp)
        have f2 : u 2 = .bool false := hf 2 (by simp)
        have f3 : u 3 = (.bool false) := hf 3 (by simp)
        have f4 : u 4 = .agg (rpL R vr vc).toArray := hf 4 (by simp)
        have f5 : ∃ y, u 5 = y := hf 5 (by simp)
        obtain ⟨y142, f5⟩ := f5
        have f6 : u 6 = .string (strB Z) := hf 6 (by simp)
        have f7 : u 7 = (.slice (some ⟨bb, off, none⟩) b.length c0) := hf 7 (by simp)
        have f8 : u 8 = .string (strB b) := hf 8 (by simp)
        have f9 : u 9 = .bool (!d) := hf 9 (by simp)
        have f10 : u 10 = .bool (!d) := hf 10 (by simp)
        simp only [resOf, spec, RSpec.resAt, z0, z1, z2, z3, z4, z5, z6, z7, ptrBlk] at S
        clear hf
        simp only [List.length_cons, List.length_nil, Nat.zero_add, Nat.reduceAdd, List.drop_succ_cons, List.drop_zero, f0, f1, f2, f3, f4, f5, f6, f7, f8, f9, f10]
        try simp only [f0, f1, f2, f3, f4, f5, f6, f7, f8, f9, f10, ptrBlk] at S
        clear f0 f1 f2 f3 f4 f5 f6 f7 f8 f9 f10
        cases d
        · have hX : dpE b = 11 ∧ dpR b = rpZ := ⟨HE0.out, by rw [HDR.out, HE0.out]; exact if_neg (by decide)⟩
          clear HE0 HDR
          have HX := Lib.hid hX; clear hX
          go_wp2_with (first | ((with_reducible refine iD 2 (.alloc 53) ?_); refine step_alloc (dst := some 2) S 53 (.agg ((rpL rpZ (.slice none 0 0) (.slice none 0 0)).toArray)) ((rpL rpZ (.slice none 0 0) (.slice none 0 0)).toArray) kR rfl gw ?_; clear S; intro g2 w S) | ((with_reducible refine iD 13 (.build 53 _) ?_); refine step_buildZ 53 (.agg ((rpL rpZ (.slice none 0 0) (.slice none 0 0)).toArray)) (fun w => by kernel_rfl) gw ?_) | ((with_reducible refine iO none (.store 53 (.tmp 2) (.tmp 13)) ?_); refine step_store S 53 (.tmp 2) (.tmp 13) _ _ rfl rfl _ _ pk 46 kR lN lN on1 gw ?_; clear S; intro w S) | ((with_reducible refine iO _ (.load 5 _) ?_); refine step_load1 5 _ _ _ rfl (cL) _ Try.underlying5 rfl gw ?_) | ((with_reducible refine iD 4 (.alloc 53) ?_); refine step_alloc (dst := some 4) S 53 (.agg ((rpL rpZ (.slice none 0 0) (.slice none 0 0)).toArray)) ((rpL rpZ (.slice none 0 0) (.slice none 0 0)).toArray) kR rfl gw ?_; clear S; intro g4 w S) | ((with_reducible refine iO none (.store 53 (.tmp 4) (.tmp 22)) ?_); refine step_store S 53 (.tmp 4) (.tmp 22) _ _ rfl rfl _ _ pk 46 kR lN lN on1 gw ?_; clear S; intro w S) | ((with_reducible refine iO _ (.load 24 _) ?_); refine step_load1 24 _ _ _ rfl (cL) _ Try.underlying24 rfl gw ?_) | ((with_reducible refine iO none (.store 3 (.tmp 34) (.tmp 33)) ?_); refine step_store1 S 3 (.tmp 34) (.tmp 33) _ _ (.int _ _) rfl rfl _ _ pk kR kR rfl lN gw ?_; clear S; intro w S; try simp only [List.setIfInBounds_toArray, List.set_cons_zero, List.set_cons_succ] at S) | ((with_reducible refine iO none (.store 5 (.tmp 40) (.tmp 39)) ?_); first | (refine step_store1 S 5 (.tmp 40) (.tmp 39) _ _ (.int _ _) rfl rfl _ _ pk kR rfl rfl lN gw ?_; clear S; intro w S; try simp only [List.setIfInBounds_toArray, List.set_cons_zero, List.set_cons_succ] at S) | (refine step_storeR S 5 (.tmp 40) (.tmp 39) _ _ (.int _ _) rfl rfl _ _ _ _ pk lE kR rfl rfl gw ?_; clear S; intro w S) | (refine step_storeS S 5 (.tmp 40) (.tmp 39) _ _ (.int _ _) rfl rfl _ _ _ _ _ pk lE kR rfl rfl gw ?_; clear S; intro w S)) | ((with_reducible refine iO none (.store 32 (.tmp 43) (.tmp 42)) ?_); first | (refine step_store1 S 32 (.tmp 43) (.tmp 42) _ _ (.int _ _) rfl rfl _ _ pk kR rfl rfl lN gw ?_; clear S; intro w S; try simp only [List.setIfInBounds_toArray, List.set_cons_zero, List.set_cons_succ] at S) | (refine step_storeR S 32 (.tmp 43) (.tmp 42) _ _ (.int _ _) rfl rfl _ _ _ _ pk lE kR rfl rfl gw ?_; clear S; intro w S) | (refine step_storeS S 32 (.tmp 43) (.tmp 42) _ _ (.int _ _) rfl rfl _ _ _ _ _ pk lE kR rfl rfl gw ?_; clear S; intro w S)) | ((with_reducible refine iO _ (.load 50 _) ?_); refine step_load1 50 _ _ _ rfl (cL) _ Try.underlying50 rfl gw ?_) | ((with_reducible refine iO none (.store 50 (.tmp 77) (.tmp 76)) ?_); first | (refine step_store1 S 50 (.tmp 77) (.tmp 76) _ _ (.slice _ _ _) rfl rfl _ _ pk kR rfl rfl lN gw ?_; clear S; intro w S; try simp only [List.setIfInBounds_toArray, List.set_cons_zero, List.set_cons_succ] at S) | (refine step_storeR S 50 (.tmp 77) (.tmp 76) _ _ (.slice _ _ _) rfl rfl _ _ _ _ pk lE kR rfl rfl gw ?_; clear S; intro w S) | (refine step_storeS S 50 (.tmp 77) (.tmp 76) _ _ (.slice _ _ _) rfl rfl _ _ _ _ _ pk lE kR rfl rfl gw ?_; clear S; intro w S)) | ((with_reducible refine iO none (.store 3 (.tmp 84) (.tmp 83)) ?_); refine step_store1 S 3 (.tmp 84) (.tmp 83) _ _ (.int _ _) rfl rfl _ _ pk kR kR rfl lN gw ?_; clear S; intro w S; try simp only [List.setIfInBounds_toArray, List.set_cons_zero, List.set_cons_succ] at S) | ((with_reducible refine iO none (.store 33 (.tmp 90) (.tmp 89)) ?_); first | (refine step_store1 S 33 (.tmp 90) (.tmp 89) _ _ (.int _ _) rfl rfl _ _ pk kR rfl rfl lN gw ?_; clear S; intro w S; try simp only [List.setIfInBounds_toArray, List.set_cons_zero, List.set_cons_succ] at S) | (refine step_storeR S 33 (.tmp 90) (.tmp 89) _ _ (.int _ _) rfl rfl _ _ _ _ pk lE kR rfl rfl gw ?_; clear S; intro w S) | (refine step_storeS S 33 (.tmp 90) (.tmp 89) _ _ (.int _ _) rfl rfl _ _ _ _ _ pk lE kR rfl rfl gw ?_; clear S; intro w S)) | ((with_reducible refine iO _ (.load 51 _) ?_); refine step_load1 51 _ _ _ rfl (cL) _ Try.underlying51 rfl gw ?_) | (at_builtin; refine step_appendRc S (.tmp 103) (.tmp 122) _ _ rfl pk _ _ rfl sL lE gw ?_; clear S; intro v123 w S; (try simp only [z4] at S)) | ((with_reducible refine iO none (.store 51 (.tmp 124) (.tmp 123)) ?_); first | (refine step_store1 S 51 (.tmp 124) (.tmp 123) _ _ (.slice _ _ _) rfl rfl _ _ pk kR rfl rfl lN gw ?_; clear S; intro w S; try simp only [List.setIfInBounds_toArray, List.set_cons_zero, List.set_cons_succ] at S) | (refine step_storeR S 51 (.tmp 124) (.tmp 123) _ _ (.slice _ _ _) rfl rfl _ _ _ _ pk lE kR rfl rfl gw ?_; clear S; intro w S) | (refine step_storeS S 51 (.tmp 124) (.tmp 123) _ _ (.slice _ _ _) rfl rfl _ _ _ _ _ pk lE kR rfl rfl gw ?_; clear S; intro w S)) | ((with_reducible refine iO _ (.slice 22 _ _ _ _) ?_); refine step_cutL 22 5 1 _ _ _ _ _ _ _ 13 rfl rfl (by first | rfl | omega) (by first | (first | omega | assumption | (exact Hid.out (by assumption)) | (simp only [List.length_append, List.length_cons, List.length_nil]; omega)) | decide) Try.underlying22 kR gw ?_) | ((with_reducible refine iO none (.store 36 (.tmp 136) (.tmp 134)) ?_); refine step_store S 36 (.tmp 136) (.tmp 134) _ _ rfl rfl _ _ pk 36 kR lN lN on1 gw ?_; clear S; intro w S) | ((with_reducible refine iO _ (.load 53 _) ?_); first | (refine step_load S 53 _ _ rfl _ _ _ pk _ Try.underlying53 rfl 46 kR lN gw ?_) | (refine step_loadO 53 _ _ rfl _ _ _ (S.old_heap (Hid.out (by assumption))) _ Try.underlying53 rfl 46 kR lN gw ?_) | (refine step_loadR 53 _ _ _ rfl _ (S.old_range hy) _ Try.underlying53 rfl 46 kR lN _ rfl gw ?_)) | ((with_reducible refine iO _ (.convert 22 9 _) ?_); refine step_conv 22 9 5 _ _ _ rfl Try.underlying22 Try.underlying5 Try.underlying9 bS gw ?_) | ((with_reducible refine iD 148 (.build 53 _) ?_); refine step_buildZ 53 (.agg ((rpL rpZ (.slice none 0 0) (.slice none 0 0)).toArray)) (fun w => by kernel_rfl) gw ?_) | ((with_reducible refine iO none (.store 53 (.tmp 2) (.tmp 148)) ?_); refine step_store S 53 (.tmp 2) (.tmp 148) _ _ rfl rfl _ _ pk 46 kR lN lN on1 gw ?_; clear S; intro w S) | ((with_reducible refine iO none (.store 53 (.tmp 2) (.tmp 149)) ?_); refine step_store S 53 (.tmp 2) (.tmp 149) _ _ rfl rfl _ _ pk 46 kR lN lN on1 gw ?_; clear S; intro w S) | fail)
          refine ret_row_tmp rfl g2 53 _ (S.get pk) _ Try.underlying53 46 kR lN rfl rfl rfl ?_
          exact ⟨nilV, nilV, by rw [HX.out.1, HX.out.2]; rfl, by rw [HX.out.2]; exact S.nil.zRp⟩
        · have hX : dpE b = 0 ∧ dpR b = R := ⟨HE0.out, by rw [HDR.out, HE0.out]; exact if_pos rfl⟩
          clear HE0 HDR
          have HX := Lib.hid hX; clear hX
          go_wp2_with (first | ((with_reducible refine iO none (.store 53 (.tmp 2) (.tmp 149)) ?_); refine step_store S 53 (.tmp 2) (.tmp 149) g2 _ rfl rfl _ _ pk 46 kR (rpL_size _ _ _) (rpL_size _ _ _) (rpL_one _ _ _ HONE.out HONE2.out) gw ?_; clear S; intro w S) | ((with_reducible refine iD 2 (.alloc 53) ?_); refine step_alloc (dst := some 2) S 53 (.agg ((rpL rpZ (.slice none 0 0) (.slice none 0 0)).toArray)) ((rpL rpZ (.slice none 0 0) (.slice none 0 0)).toArray) kR rfl gw ?_; clear S; intro g2 w S) | ((with_reducible refine iD 13 (.build 53 _) ?_); refine step_buildZ 53 (.agg ((rpL rpZ (.slice none 0 0) (.slice none 0 0)).toArray)) (fun w => by kernel_rfl) gw ?_) | ((with_reducible refine iO none (.store 53 (.tmp 2) (.tmp 13)) ?_); refine step_store S 53 (.tmp 2) (.tmp 13) _ _ rfl rfl _ _ pk 46 kR lN lN on1 gw ?_; clear S; intro w S) | ((with_reducible refine iO _ (.load 5 _) ?_); refine step_load1 5 _ _ _ rfl (cL) _ Try.underlying5 rfl gw ?_) | ((with_reducible refine iD 4 (.alloc 53) ?_); refine step_alloc (dst := some 4) S 53 (.agg ((rpL rpZ (.slice none 0 0) (.slice none 0 0)).toArray)) ((rpL rpZ (.slice none 0 0) (.slice none 0 0)).toArray) kR rfl gw ?_; clear S; intro g4 w S) | ((with_reducible refine iO none (.store 53 (.tmp 4) (.tmp 22)) ?_); refine step_store S 53 (.tmp 4) (.tmp 22) _ _ rfl rfl _ _ pk 46 kR lN lN on1 gw ?_; clear S; intro w S) | ((with_reducible refine iO _ (.load 24 _) ?_); refine step_load1 24 _ _ _ rfl (cL) _ Try.underlying24 rfl gw ?_) | ((with_reducible refine iO none (.store 3 (.tmp 34) (.tmp 33)) ?_); refine step_store1 S 3 (.tmp 34) (.tmp 33) _ _ (.int _ _) rfl rfl _ _ pk kR kR rfl lN gw ?_; clear S; intro w S; try simp only [List.setIfInBounds_toArray, List.set_cons_zero, List.set_cons_succ] at S) | ((with_reducible refine iO none (.store 5 (.tmp 40) (.tmp 39)) ?_); first | (refine step_store1 S 5 (.tmp 40) (.tmp 39) _ _ (.int _ _) rfl rfl _ _ pk kR rfl rfl lN gw ?_; clear S; intro w S; try simp only [List.setIfInBounds_toArray, List.set_cons_zero, List.set_cons_succ] at S) | (refine step_storeR S 5 (.tmp 40) (.tmp 39) _ _ (.int _ _) rfl rfl _ _ _ _ pk lE kR rfl rfl gw ?_; clear S; intro w S) | (refine step_storeS S 5 (.tmp 40) (.tmp 39) _ _ (.int _ _) rfl rfl _ _ _ _ _ pk lE kR rfl rfl gw ?_; clear S; intro w S)) | ((with_reducible refine iO none (.store 32 (.tmp 43) (.tmp 42)) ?_); first | (refine step_store1 S 32 (.tmp 43) (.tmp 42) _ _ (.int _ _) rfl rfl _ _ pk kR rfl rfl lN gw ?_; clear S; intro w S; try simp only [List.setIfInBounds_toArray, List.set_cons_zero, List.set_cons_succ] at S) | (refine step_storeR S 32 (.tmp 43) (.tmp 42) _ _ (.int _ _) rfl rfl _ _ _ _ pk lE kR rfl rfl gw ?_; clear S; intro w S) | (refine step_storeS S 32 (.tmp 43) (.tmp 42) _ _ (.int _ _) rfl rfl _ _ _ _ _ pk lE kR rfl rfl gw ?_; clear S; intro w S)) | ((with_reducible refine iO _ (.load 50 _) ?_); refine step_load1 50 _ _ _ rfl (cL) _ Try.underlying50 rfl gw ?_) | ((with_reducible refine iO none (.store 50 (.tmp 77) (.tmp 76)) ?_); first | (refine step_store1 S 50 (.tmp 77) (.tmp 76) _ _ (.slice _ _ _) rfl rfl _ _ pk kR rfl rfl lN gw ?_; clear S; intro w S; try simp only [List.setIfInBounds_toArray, List.set_cons_zero, List.set_cons_succ] at S) | (refine step_storeR S 50 (.tmp 77) (.tmp 76) _ _ (.slice _ _ _) rfl rfl _ _ _ _ pk lE kR rfl rfl gw ?_; clear S; intro w S) | (refine step_storeS S 50 (.tmp 77) (.tmp 76) _ _ (.slice _ _ _) rfl rfl _ _ _ _ _ pk lE kR rfl rfl gw ?_; clear S; intro w S)) | ((with_reducible refine iO none (.store 3 (.tmp 84) (.tmp 83)) ?_); refine step_store1 S 3 (.tmp 84) (.tmp 83) _ _ (.int _ _) rfl rfl _ _ pk kR kR rfl lN gw ?_; clear S; intro w S; try simp only [List.setIfInBounds_toArray, List.set_cons_zero, List.set_cons_succ] at S) | ((with_reducible refine iO none (.store 33 (.tmp 90) (.tmp 89)) ?_); first | (refine step_store1 S 33 (.tmp 90) (.tmp 89) _ _ (.int _ _) rfl rfl _ _ pk kR rfl rfl lN gw ?_; clear S; intro w S; try simp only [List.setIfInBounds_toArray, List.set_cons_zero, List.set_cons_succ] at S) | (refine step_storeR S 33 (.tmp 90) (.tmp 89) _ _ (.int _ _) rfl rfl _ _ _ _ pk lE kR rfl rfl gw ?_; clear S; intro w S) | (refine step_storeS S 33 (.tmp 90) (.tmp 89) _ _ (.int _ _) rfl rfl _ _ _ _ _ pk lE kR rfl rfl gw ?_; clear S; intro w S)) | ((with_reducible refine iO _ (.load 51 _) ?_); refine step_load1 51 _ _ _ rfl (cL) _ Try.underlying51 rfl gw ?_) | (at_builtin; refine step_appendRc S (.tmp 103) (.tmp 122) _ _ rfl pk _ _ rfl sL lE gw ?_; clear S; intro v123 w S; (try simp only [z4] at S)) | ((with_reducible refine iO none (.store 51 (.tmp 124) (.tmp 123)) ?_); first | (refine step_store1 S 51 (.tmp 124) (.tmp 123) _ _ (.slice _ _ _) rfl rfl _ _ pk kR rfl rfl lN gw ?_; clear S; intro w S; try simp only [List.setIfInBounds_toArray, List.set_cons_zero, List.set_cons_succ] at S) | (refine step_storeR S 51 (.tmp 124) (.tmp 123) _ _ (.slice _ _ _) rfl rfl _ _ _ _ pk lE kR rfl rfl gw ?_; clear S; intro w S) | (refine step_storeS S 51 (.tmp 124) (.tmp 123) _ _ (.slice _ _ _) rfl rfl _ _ _ _ _ pk lE kR rfl rfl gw ?_; clear S; intro w S)) | ((with_reducible refine iO _ (.slice 22 _ _ _ _) ?_); refine step_cutL 22 5 1 _ _ _ _ _ _ _ 13 rfl rfl (by first | rfl | omega) (by first | (first | omega | assumption | (exact Hid.out (by assumption)) | (simp only [List.length_append, List.length_cons, List.length_nil]; omega)) | decide) Try.underlying22 kR gw ?_) | ((with_reducible refine iO none (.store 36 (.tmp 136) (.tmp 134)) ?_); refine step_store S 36 (.tmp 136) (.tmp 134) _ _ rfl rfl _ _ pk 36 kR lN lN on1 gw ?_; clear S; intro w S) | ((with_reducible refine iO _ (.load 53 _) ?_); first | (refine step_load S 53 _ _ rfl _ _ _ pk _ Try.underlying53 rfl 46 kR lN gw ?_) | (refine step_loadO 53 _ _ rfl _ _ _ (S.old_heap (Hid.out (by assumption))) _ Try.underlying53 rfl 46 kR lN gw ?_) | (refine step_loadR 53 _ _ _ rfl _ (S.old_range hy) _ Try.underlying53 rfl 46 kR lN _ rfl gw ?_)) | ((with_reducible refine iO _ (.convert 22 9 _) ?_); refine step_conv 22 9 5 _ _ _ rfl Try.underlying22 Try.underlying5 Try.underlying9 bS gw ?_) | ((with_reducible refine iD 148 (.build 53 _) ?_); refine step_buildZ 53 (.agg ((rpL rpZ (.slice none 0 0) (.slice none 0 0)).toArray)) (fun w => by kernel_rfl) gw ?_) | ((with_reducible refine iO none (.store 53 (.tmp 2) (.tmp 148)) ?_); refine step_store S 53 (.tmp 2) (.tmp 148) _ _ rfl rfl _ _ pk 46 kR lN lN on1 gw ?_; clear S; intro w S) | ((with_reducible refine iO none (.store 53 (.tmp 2) (.tmp 149)) ?_); refine step_store S 53 (.tmp 2) (.tmp 149) _ _ rfl rfl _ _ pk 46 kR lN lN on1 gw ?_; clear S; intro w S) | fail)
          refine ret_row_tmp rfl g2 53 _ (S.get pk) _ Try.underlying53 46 kR lN rfl rfl rfl ?_
          exact ⟨vr, vc, by rw [HX.out.1, HX.out.2]; rfl, by rw [HX.out.2]; exact S.sub (by repeat (first | exact Sub.nil _ | refine Sub.cons pk ?_))⟩
end Go.Proofs.Ytfhkmmagpnojmaa
