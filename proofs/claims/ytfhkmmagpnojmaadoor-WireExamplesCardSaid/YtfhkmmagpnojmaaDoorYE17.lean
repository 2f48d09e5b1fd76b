/- Several texts under one header: what the claim needs of DecQ, SplP, Lnk, LnkR, Ver, Vfy, LgP. No condition but those that each names. -/
import Derived.Test.YtfhkmmagpnojmaaDoorYE1
import Derived.Test.YtfhkmmagpnojmaaDoorYE16
import Derived.Test.YtfhkmmagpnojmaaDoorYE5
import Derived.Test.YtfhkmmagpnojmaaDoorYE13
import Derived.Test.YtfhkmmagpnojmaaDoorYE8
set_option linter.unusedSimpArgs false
set_option linter.unusedVariables false

/- The request of some bytes: what the program's DecodeRequest returns. No condition but the reach. -/
namespace Go.Proofs.YtfhkmmagpnojmaaDoor
open Go.RowKit

/-- whole, for a request. -/
theorem wholeR_s (bv : Value) (b : List UInt8) (go : Nat) (w0 w1 : World) (G0 : List Res) (S : Has w0 w1 (blk go (.cells (rqL rqZ).toArray 69 (0, 0)) :: G0)) (hb : Bs w0 bv b) (h3 : 3 ≤ b.length) (hl : b.length ≤ 140737488355328) :
    Calls Tryd.prog 59 #[bv, .func (.func 60) #[] #[.pointer (some ⟨go, 0, none⟩)]] w1 fun e w' =>
      ∃ cs, e = .returned (.bool (decide (b.length = 49 + bsz (b.getD 2 0) ∧ val (b.take 2) = b.length))) ∧ Has w0 w' (blk go (.cells cs 69 (0, 0)) :: G0) ∧ (b.length = 49 + bsz (b.getD 2 0) → cs = (rqL (rqP b)).toArray) := by
  refine (whole_s bv b 60 Tryd.f60 [.pointer (some ⟨go, 0, none⟩)] w0 w1 _ G0 S hb (by omega) hl Tryd.func60 kR kR (49 + bsz (b.getD 2 0) ≤ b.length) (49 + bsz (b.getD 2 0))
    [blk go (.cells (rqL (rqX b)).toArray 69 (0, 0))] (fun cs => [blk go (.cells cs 69 (0, 0))]) (fun g w G S => ?_)).mono fun e w' h => ?_
  · refine (decClos_s g go bv b w0 w G S hb h3 hl).mono fun e w' h => ?_
    rcases h with ⟨h1, h2, h3⟩ | ⟨h1, h2, q, cs, h3⟩
    · exact .inl ⟨h1, h2, h3⟩
    · exact .inr ⟨by omega, h2, q, cs, h3⟩
  · rcases h with ⟨h1, rfl, h3⟩ | ⟨h1, rfl, cs, h3⟩
    · refine ⟨_, ?_, h3, fun h => by rw [rqX_rqP b h]⟩
      congr 2
      rw [Bool.eq_iff_iff, decide_eq_true_eq, decide_eq_true_eq]
      omega
    · refine ⟨cs, ?_, h3, fun h => absurd h (by omega)⟩
      rw [decide_eq_false (by omega)]
set_option maxRecDepth 100000 in
set_option maxHeartbeats 8000000 in
theorem decodeRequest_s (bv : Value) (b : List UInt8) (w0 : World) (hb : Bs w0 bv b) (hl : b.length ≤ 140737488355328) :
    Calls Tryd.prog 34 #[bv] w0 fun e w' => e = .returned (.tuple #[.agg (rqL (dcR b)).toArray, .int .i64 (dcE b)]) ∧ Has w0 w' [] := by
  have S := Has.start w0
  obtain ⟨a0, c0, rfl, k1, k2⟩ := Sl.shape hb
  unfold maxLen at k2
  by_cases h3 : b.length < 3
  · have hE : dcE b = 10 := if_pos h3
    have hR : dcR b = rqZ := if_neg (by rw [hE]; decide)
    rw [hE, hR]
    have i1 : (b.length : Int) < 3 := by omega
    have HB := Lib.hid hb; clear hb
    clear hE hR
    go_enter Tryd.func34, Tryd.ntmps34
    go_wp2_with (first | ((with_reducible refine iD 2 (.alloc 69) ?_); refine step_alloc (dst := some 2) S 69 (.agg ((rqL rqZ).toArray)) ((rqL rqZ).toArray) kR rfl gw ?_; clear S; intro g2 w S) | ((with_reducible refine iD 9 (.build 69 _) ?_); refine step_buildZ 69 (.agg ((rqL rqZ).toArray)) (fun w => by kernel_rfl) gw ?_) | ((with_reducible refine iO none (.store 69 (.tmp 2) (.tmp 9)) ?_); refine step_store S 69 (.tmp 2) (.tmp 9) _ _ rfl rfl _ _ pk 40 kR lN lN on1 gw ?_; clear S; intro w S) | fail)
    refine ret_row_tmp rfl g2 69 _ (S.get pk) _ Tryd.underlying69 40 kR lN rfl rfl rfl ?_
    exact ⟨rfl, S.nil⟩
  have i1 : ¬ (b.length : Int) < 3 := by omega
  have hE0 : dcE b = if dcOk b then 0 else 11 := if_neg h3
  have p1 := fun go w G0 S => wholeR_s (.slice a0 b.length c0) b go w0 w G0 S hb (by omega) hl
  by_cases hx : b.length = 49 + bsz (b.getD 2 0) ∧ val (b.take 2) = b.length
  · have hd : dcOk b = rqV (rqP b) := by unfold dcOk; rw [decide_eq_true hx, Bool.true_and]
    have p2 := fun w => checkRequest_s (rqP b) w
    unfold rqE at p2
    rw [hd] at hE0
    have p3 : ∀ go w G0, Has w0 w (blk go (.cells (rqL rqZ).toArray 69 (0, 0)) :: G0) → Calls Tryd.prog 59 #[.slice a0 b.length c0, .func (.func 60) #[] #[.pointer (some ⟨go, 0, none⟩)]] w fun e w' => e = .returned (.bool true) ∧ Has w0 w' (blk go (.cells (rqL (rqP b)).toArray 69 (0, 0)) :: G0) := fun go w G0 S => (p1 go w G0 S).mono fun e w' h => by
      obtain ⟨cs, h1, h2, h3⟩ := h
      rw [decide_eq_true hx] at h1
      rw [h3 hx.1] at h2
      exact ⟨h1, h2⟩
    unfold dcR
    rw [hE0]
    obtain ⟨X, hX⟩ : ∃ X, X = rqP b := ⟨_, rfl⟩
    rw [← hX] at p2 p3 ⊢
    cases hv : rqV X
    · rw [hv] at p2
      simp only [Bool.false_eq_true, if_false] at p2 ⊢
      have HB := Lib.hid hb; have P2 := Lib.hid p2; have P3 := Lib.hid p3; clear hb p2 p3
      clear p1 hx hd hE0 hX hv h3
      go_enter Tryd.func34, Tryd.ntmps34
      go_wp2_with (first | (go_at_call 59; (with_reducible refine (P3.out g4 _ _ S).mono ?_); rintro e w1 ⟨rfl, S1⟩; clear S; have S := S1; clear S1) | ((with_reducible refine iD 2 (.alloc 69) ?_); refine step_alloc (dst := some 2) S 69 (.agg ((rqL rqZ).toArray)) ((rqL rqZ).toArray) kR rfl gw ?_; clear S; intro g2 w S) | ((with_reducible refine iD 4 (.alloc 69) ?_); refine step_alloc (dst := some 4) S 69 (.agg ((rqL rqZ).toArray)) ((rqL rqZ).toArray) kR rfl gw ?_; clear S; intro g4 w S) | ((with_reducible refine iD 11 (.makeFunc _ _ _) ?_); refine step_makeF _ [.tmp 4] [.pointer (some ⟨g4, 0, none⟩)] rfl gw ?_) | ((with_reducible refine iO _ (.load 69 _) ?_); first | (refine step_load S 69 _ _ rfl _ _ _ pk _ Tryd.underlying69 rfl 40 kR lN gw ?_) | (refine step_loadO 69 _ _ rfl _ _ _ (S.old_heap (Hid.out (by assumption))) _ Tryd.underlying69 rfl 40 kR lN gw ?_) | (refine step_loadR 69 _ _ _ rfl _ (S.old_range hy) _ Tryd.underlying69 rfl 40 kR lN _ rfl gw ?_)) | (go_at_call 36; (with_reducible refine (P2.out _).mono ?_); rintro e w1 ⟨rfl, T⟩; replace S := S.call T; clear T; (try simp only [z4, z5] at S)) | ((with_reducible refine iD 20 (.build 69 _) ?_); refine step_buildZ 69 (.agg ((rqL rqZ).toArray)) (fun w => by kernel_rfl) gw ?_) | ((with_reducible refine iO none (.store 69 (.tmp 2) (.tmp 20)) ?_); refine step_store S 69 (.tmp 2) (.tmp 20) _ _ rfl rfl _ _ pk 40 kR lN lN on1 gw ?_; clear S; intro w S) | fail)
      refine ret_row_tmp rfl g2 69 _ (S.get pk) _ Tryd.underlying69 40 kR lN rfl rfl rfl ?_
      exact ⟨rfl, S.nil⟩
    · rw [hv] at p2
      simp only [if_true] at p2 ⊢
      have HB := Lib.hid hb; have P2 := Lib.hid p2; have P3 := Lib.hid p3; clear hb p2 p3
      clear p1 hx hd hE0 hX hv h3
      go_enter Tryd.func34, Tryd.ntmps34
      go_wp2_with (first | (go_at_call 59; (with_reducible refine (P3.out g4 _ _ S).mono ?_); rintro e w1 ⟨rfl, S1⟩; clear S; have S := S1; clear S1) | ((with_reducible refine iD 2 (.alloc 69) ?_); refine step_alloc (dst := some 2) S 69 (.agg ((rqL rqZ).toArray)) ((rqL rqZ).toArray) kR rfl gw ?_; clear S; intro g2 w S) | ((with_reducible refine iD 4 (.alloc 69) ?_); refine step_alloc (dst := some 4) S 69 (.agg ((rqL rqZ).toArray)) ((rqL rqZ).toArray) kR rfl gw ?_; clear S; intro g4 w S) | ((with_reducible refine iD 11 (.makeFunc _ _ _) ?_); refine step_makeF _ [.tmp 4] [.pointer (some ⟨g4, 0, none⟩)] rfl gw ?_) | ((with_reducible refine iO _ (.load 69 _) ?_); first | (refine step_load S 69 _ _ rfl _ _ _ pk _ Tryd.underlying69 rfl 40 kR lN gw ?_) | (refine step_loadO 69 _ _ rfl _ _ _ (S.old_heap (Hid.out (by assumption))) _ Tryd.underlying69 rfl 40 kR lN gw ?_) | (refine step_loadR 69 _ _ _ rfl _ (S.old_range hy) _ Tryd.underlying69 rfl 40 kR lN _ rfl gw ?_)) | (go_at_call 36; (with_reducible refine (P2.out _).mono ?_); rintro e w1 ⟨rfl, T⟩; replace S := S.call T; clear T; (try simp only [z4, z5] at S)) | ((with_reducible refine iO none (.store 69 (.tmp 2) (.tmp 21)) ?_); refine step_store S 69 (.tmp 2) (.tmp 21) _ _ rfl rfl _ _ pk 40 kR lN lN on1 gw ?_; clear S; intro w S) | fail)
      refine ret_row_tmp rfl g2 69 _ (S.get pk) _ Tryd.underlying69 40 kR lN rfl rfl rfl ?_
      exact ⟨rfl, S.nil⟩
  · have hd : dcOk b = false := by unfold dcOk; rw [decide_eq_false hx, Bool.false_and]
    have hE : dcE b = 11 := by rw [hE0, hd]; rfl
    have hR : dcR b = rqZ := if_neg (by rw [hE]; decide)
    rw [hE, hR]
    have p3 : ∀ go w G0, Has w0 w (blk go (.cells (rqL rqZ).toArray 69 (0, 0)) :: G0) → Calls Tryd.prog 59 #[.slice a0 b.length c0, .func (.func 60) #[] #[.pointer (some ⟨go, 0, none⟩)]] w fun e w' => e = .returned (.bool false) ∧ ∃ cs, Has w0 w' (blk go (.cells cs 69 (0, 0)) :: G0) := fun go w G0 S => (p1 go w G0 S).mono fun e w' h => by
      obtain ⟨cs, h1, h2, h3⟩ := h
      rw [decide_eq_false hx] at h1
      exact ⟨h1, cs, h2⟩
    have HB := Lib.hid hb; have P3 := Lib.hid p3; clear hb p3
    clear p1 hx hd hE0 hE hR h3
    go_enter Tryd.func34, Tryd.ntmps34
    go_wp2_with (first | (go_at_call 59; (with_reducible refine (P3.out g4 _ _ S).mono ?_); rintro e w1 ⟨rfl, cs, S1⟩; clear S; have S := S1; clear S1) | ((with_reducible refine iD 2 (.alloc 69) ?_); refine step_alloc (dst := some 2) S 69 (.agg ((rqL rqZ).toArray)) ((rqL rqZ).toArray) kR rfl gw ?_; clear S; intro g2 w S) | ((with_reducible refine iD 4 (.alloc 69) ?_); refine step_alloc (dst := some 4) S 69 (.agg ((rqL rqZ).toArray)) ((rqL rqZ).toArray) kR rfl gw ?_; clear S; intro g4 w S) | ((with_reducible refine iD 11 (.makeFunc _ _ _) ?_); refine step_makeF _ [.tmp 4] [.pointer (some ⟨g4, 0, none⟩)] rfl gw ?_) | ((with_reducible refine iD 20 (.build 69 _) ?_); refine step_buildZ 69 (.agg ((rqL rqZ).toArray)) (fun w => by kernel_rfl) gw ?_) | ((with_reducible refine iO none (.store 69 (.tmp 2) (.tmp 20)) ?_); refine step_store S 69 (.tmp 2) (.tmp 20) _ _ rfl rfl _ _ pk 40 kR lN lN on1 gw ?_; clear S; intro w S) | fail)
    refine ret_row_tmp rfl g2 69 _ (S.get pk) _ Tryd.underlying69 40 kR lN rfl rfl rfl ?_
    exact ⟨rfl, S.nil⟩
end Go.Proofs.YtfhkmmagpnojmaaDoor

/- How streams are cut, in plain words: portions, frames of encoded requests; decoding of encodings. No program, no condition. -/
namespace Go.Proofs.YtfhkmmagpnojmaaDoor
open Go.RowKit

theorem dcOk_encR (r : Rq) (h : rqV r = true) : dcOk (encR r) = true := by
  obtain ⟨h1, _, h3⟩ := encR_parts r
  unfold dcOk
  rw [refR_encR r h, h, Bool.and_true, decide_eq_true_eq, h1]
  exact ⟨encR_length r, h3⟩
theorem dcE_encR (r : Rq) (h : rqV r = true) : dcE (encR r) = 0 := by
  have hl := encR_length r
  unfold dcE
  rw [if_neg (by omega), if_pos (dcOk_encR r h)]
theorem dcR_encR (r : Rq) (h : rqV r = true) : dcR (encR r) = r := by
  unfold dcR
  rw [if_pos (dcE_encR r h), refR_encR r h]
end Go.Proofs.YtfhkmmagpnojmaaDoor

/- The link of a record after a previous link: the program's Link. No condition but the table of constants and the reach. -/
namespace Go.Proofs.YtfhkmmagpnojmaaDoor
open Go.RowKit

/-- The bytes that a link is the sum of. -/
def lnkB (prev : List UInt8) (t : UInt64) (k : UInt8) (c : I64) (b : List UInt8) : List UInt8 := ((prev ++ numB t.toNat 8) ++ numB k.toNat 1) ++ numB c.v.toNat 2 ++ sumD b
def lnkD (prev : List UInt8) (t : UInt64) (k : UInt8) (c : I64) (b : List UInt8) : List UInt8 := sumD (lnkB prev t k c b)
/-- Whether a tick, a kind and a code are those of a valid record. -/
def lkV (t : UInt64) (k : UInt8) (c : I64) : Bool := rcdV ⟨t, k, c, zs32, rfl⟩
def lnkE (t : UInt64) (k : UInt8) (c : I64) (n : Nat) : Int := if lkV t k c = false then 2 else if 64 < n then 4 else 0
def lnkR (prev : List UInt8) (t : UInt64) (k : UInt8) (c : I64) (b : List UInt8) : List UInt8 := if lnkE t k c b.length = 0 then lnkD prev t k c b else zs32
theorem lnkR_length (prev : List UInt8) (t : UInt64) (k : UInt8) (c : I64) (b : List UInt8) : (lnkR prev t k c b).length = 32 := by
  unfold lnkR
  split
  · exact sumD_length _
  · rfl
theorem sum_go (v : Value) (xs : List UInt8) (w : World) (h : xs.length ≤ 8192) (hv : Bs w v xs) (hK : KT w) :
    Calls Tryd.prog 42 #[v] w fun e w' => e = .returned (.tuple #[.agg (arr8 (sumD xs)), .int .i64 0]) ∧ Has w w' [] := by
  have := sum_s v xs w hv hK
  rwa [smD_eq xs h, show smE xs.length = 0 from if_pos h] at this
theorem build_wr (a : Option Addr) (n c : Nat) (w : World) : (Instr.build 104 #[(0, .slice a n c)]).run Tryd.prog w = .ok (.agg #[.slice a n c]) w := by kernel_rfl
set_option maxRecDepth 100000 in
set_option maxHeartbeats 8000000 in
theorem link_s (prev : List UInt8) (t : UInt64) (k : UInt8) (c : I64) (bv : Value) (b : List UInt8) (w0 : World) (hp : prev.length = 32) (hb : Bs w0 bv b) (hK : KT w0) (hl : b.length ≤ 140737488351232) :
    Calls Tryd.prog 16 #[.agg (arr8 prev), .int .u64 (t.toNat : Int), by8 k, .int .i64 c.v, bv] w0 fun e w' => e = .returned (.tuple #[.agg (arr8 (lnkR prev t k c b)), .int .i64 (lnkE t k c b.length)]) ∧ Has w0 w' [] := by
  have S := Has.start w0
  obtain ⟨a0, c0, rfl, k1, k2⟩ := Sl.shape hb
  unfold maxLen at k2
  have pv := fun w => validRecord_s ⟨t, k, c, zs32, rfl⟩ w
  rw [show rcdV ⟨t, k, c, zs32, rfl⟩ = lkV t k c from rfl] at pv
  cases hv : lkV t k c
  · have hE : lnkE t k c b.length = 2 := if_pos hv
    have hR : lnkR prev t k c b = zs32 := if_neg (by rw [hE]; decide)
    rw [hE, hR]
    rw [hv] at pv
    have PV := Lib.hid pv; have HB := Lib.hid hb; have HK := Lib.hid hK; have HP := Lib.hid hp; clear pv hb hK hp
    clear hE hR hv
    go_enter Tryd.func16, Tryd.ntmps16
    go_wp2_with (first | ((with_reducible refine iD 18 (.build 50 _) ?_); refine step_buildRc3 (.tmp 15) (.tmp 16) (.tmp 17) t k c rfl rfl rfl gw ?_) | ((with_reducible refine iD 5 (.box 22 (.tmp 0)) ?_); refine step_boxA (dst := some 5) S 22 (.tmp 0) _ rfl rfl ?_; clear S; intro g5 w S) | ((with_reducible refine iD 10 (.alloc 22) ?_); refine step_alloc (dst := some 10) S 22 (.agg (arr8 (List.replicate 32 0))) (arr8 (List.replicate 32 0)) kR rfl rfl ?_; clear S; intro g10 w S) | (go_at_call 46; (with_reducible refine (PV.out _).mono ?_); rintro e w1 ⟨rfl, T⟩; replace S := S.call T; clear T; (try simp only [z4, z5] at S)) | ((with_reducible refine iD 21 (.build 22 _) ?_); refine step_buildZ 22 (.agg (arr8 (List.replicate 32 0))) (fun w => by kernel_rfl) rfl ?_) | ((with_reducible refine iO none (.store 22 (.tmp 10) (.tmp 21)) ?_); refine step_store S 22 (.tmp 10) (.tmp 21) _ _ rfl rfl _ _ pk 32 kR lN lN on1 rfl ?_; clear S; intro w S) | fail)
    refine ret_row_tmp rfl g10 22 _ (S.get pk) _ Tryd.underlying22 32 kR lN rfl rfl rfl ?_
    exact ⟨rfl, S.nil⟩
  rw [hv] at pv
  by_cases h64 : 64 < b.length
  · have hE : lnkE t k c b.length = 4 := by unfold lnkE; rw [hv]; exact if_pos h64
    have hR : lnkR prev t k c b = zs32 := if_neg (by rw [hE]; decide)
    rw [hE, hR]
    have i1 : 64 < (b.length : Int) := by omega
    have PV := Lib.hid pv; have HB := Lib.hid hb; have HK := Lib.hid hK; have HP := Lib.hid hp; clear pv hb hK hp
    clear hE hR hv
    go_enter Tryd.func16, Tryd.ntmps16
    go_wp2_with (first | ((with_reducible refine iD 18 (.build 50 _) ?_); refine step_buildRc3 (.tmp 15) (.tmp 16) (.tmp 17) t k c rfl rfl rfl gw ?_) | ((with_reducible refine iD 5 (.box 22 (.tmp 0)) ?_); refine step_boxA (dst := some 5) S 22 (.tmp 0) _ rfl rfl ?_; clear S; intro g5 w S) | ((with_reducible refine iD 10 (.alloc 22) ?_); refine step_alloc (dst := some 10) S 22 (.agg (arr8 (List.replicate 32 0))) (arr8 (List.replicate 32 0)) kR rfl rfl ?_; clear S; intro g10 w S) | (go_at_call 46; (with_reducible refine (PV.out _).mono ?_); rintro e w1 ⟨rfl, T⟩; replace S := S.call T; clear T; (try simp only [z4, z5] at S)) | ((with_reducible refine iD 25 (.build 22 _) ?_); refine step_buildZ 22 (.agg (arr8 (List.replicate 32 0))) (fun w => by kernel_rfl) rfl ?_) | ((with_reducible refine iO none (.store 22 (.tmp 10) (.tmp 25)) ?_); refine step_store S 22 (.tmp 10) (.tmp 25) _ _ rfl rfl _ _ pk 32 kR lN lN on1 rfl ?_; clear S; intro w S) | fail)
    refine ret_row_tmp rfl g10 22 _ (S.get pk) _ Tryd.underlying22 32 kR lN rfl rfl rfl ?_
    exact ⟨rfl, S.nil⟩
  have hE : lnkE t k c b.length = 0 := by unfold lnkE; rw [hv]; exact if_neg h64
  have hR : lnkR prev t k c b = lnkD prev t k c b := if_pos hE
  rw [hE, hR]
  have i1 : ¬ 64 < (b.length : Int) := by omega
  have hcv : 0 ≤ c.v ∧ c.v ≤ 65535 := by
    have : decide (t.toNat ≤ 4611686018427387904 ∧ k.toNat ≤ 6 ∧ 0 ≤ c.v ∧ c.v ≤ 65535) = true := hv
    exact (of_decide_eq_true this).2.2
  obtain ⟨hc0, hc1⟩ := hcv
  have ht := t.toNat_lt
  have hk := k.toNat_lt
  have pcl := fun v w h => clone8_s v prev w h (by omega)
  have ps := fun v w h1 h2 => sum_go v b w (by omega) h1 h2
  obtain ⟨D1, hD1⟩ : ∃ D, D = sumD b := ⟨_, rfl⟩
  have hD1l : D1.length = 32 := by rw [hD1]; exact sumD_length _
  have hbw := build_wr
  have p1 := fun g v w F S => wuint_i (t.toNat : Int) t.toNat rfl 8 8 rfl g v prev w0 w F S (by omega) (by decide) (by omega)
  have l1 : (prev ++ numB t.toNat 8).length = 40 := by simp [numB_length, hp]
  obtain ⟨X1, hX1⟩ : ∃ X, X = prev ++ numB t.toNat 8 := ⟨_, rfl⟩
  rw [← hX1] at p1 l1
  have p2 := fun g v w F S => wuint_i (k.toNat : Int) k.toNat rfl 1 1 rfl g v X1 w0 w F S (by omega) (by decide) (by omega)
  have l2 : (X1 ++ numB k.toNat 1).length = 41 := by simp [numB_length, l1]
  obtain ⟨X2, hX2⟩ : ∃ X, X = X1 ++ numB k.toNat 1 := ⟨_, rfl⟩
  rw [← hX2] at p2 l2
  have p3 := fun g v w F S => wuint_i c.v c.v.toNat (by omega) 2 2 rfl g v X2 w0 w F S (by omega) (by decide) (by omega)
  have l3 : (X2 ++ numB c.v.toNat 2).length = 43 := by simp [numB_length, l2]
  obtain ⟨X3, hX3⟩ : ∃ X, X = X2 ++ numB c.v.toNat 2 := ⟨_, rfl⟩
  rw [← hX3] at p3 l3
  have hL : lnkB prev t k c b = X3 ++ D1 := by unfold lnkB; rw [← hX1, ← hX2, ← hX3, ← hD1]
  have h4 : X3.length + D1.length ≤ 140737488355328 := by omega
  have p4 := fun v w h1 h2 => sum_go v (X3 ++ D1) w (by rw [List.length_append]; omega) h1 h2
  obtain ⟨D2, hD2⟩ : ∃ D, D = sumD (X3 ++ D1) := ⟨_, rfl⟩
  have hLD : lnkD prev t k c b = D2 := by unfold lnkD; rw [hL, hD2]
  have hD2l : D2.length = 32 := by rw [hD2]; exact sumD_length _
  rw [← hD1] at ps
  rw [← hD2] at p4
  rw [hLD]
  have PV := Lib.hid pv; have HB := Lib.hid hb; have HK := Lib.hid hK; have HP := Lib.hid hp; have PCL := Lib.hid pcl; have PS := Lib.hid ps; have P1 := Lib.hid p1; have P2 := Lib.hid p2; have P3 := Lib.hid p3; have P4 := Lib.hid p4; have H4 := Lib.hid h4; have HD1L := Lib.hid hD1l; have HD2L := Lib.hid hD2l; clear pv hb hK hp pcl ps p1 p2 p3 p4 h4 hD1l hD2l
  clear hE hR hv hX1 hX2 hX3 hL hLD hD1 hD2 l1 l2 l3
  go_enter Tryd.func16, Tryd.ntmps16
  go_wp2_with (first | ((with_reducible refine iD 18 (.build 50 _) ?_); refine step_buildRc3 (.tmp 15) (.tmp 16) (.tmp 17) t k c rfl rfl rfl gw ?_) | (go_at_call 48; (with_reducible refine (P1.out g38 (.slice a36 prev.length c36) _ _ (S.pick2 (r := wrt g38 _) (s := row8 _ prev) pk pk)).mono ?_); rintro e w1 ⟨rfl, v1, S1⟩; clear S; have S := S1; clear S1; have _t := P1; clear P1) | (go_at_call 48; (with_reducible refine (P2.out g38 v1 _ _ S).mono ?_); rintro e w1 ⟨rfl, v2, S1⟩; clear S; have S := S1; clear S1; have _t2 := P2; clear P2) | (go_at_call 48; (with_reducible refine (P3.out g38 v2 _ _ S).mono ?_); rintro e w1 ⟨rfl, v3, S1⟩; clear S; have S := S1; clear S1) | ((with_reducible refine iD 5 (.box 22 (.tmp 0)) ?_); refine step_boxA (dst := some 5) S 22 (.tmp 0) _ rfl rfl ?_; clear S; intro g5 w S) | ((with_reducible refine iD 10 (.alloc 22) ?_); refine step_alloc (dst := some 10) S 22 (.agg (arr8 (List.replicate 32 0))) (arr8 (List.replicate 32 0)) kR rfl rfl ?_; clear S; intro g10 w S) | (go_at_call 46; (with_reducible refine (PV.out _).mono ?_); rintro e w1 ⟨rfl, T⟩; replace S := S.call T; clear T; (try simp only [z4, z5] at S)) | (go_at_call 42; (with_reducible refine (PS.out _ _ (S.oldB HB.out) kT).mono ?_); rintro e w1 ⟨rfl, T⟩; replace S := S.call T; clear T; (try simp only [z4, z5] at S)) | ((with_reducible refine iD 12 (.alloc 22) ?_); refine step_alloc (dst := some 12) S 22 (.agg (arr8 (List.replicate 32 0))) (arr8 (List.replicate 32 0)) kR rfl rfl ?_; clear S; intro g12 w S) | ((with_reducible refine iO none (.store 22 (.tmp 12) (.tmp 29)) ?_); refine step_store S 22 (.tmp 12) (.tmp 29) _ _ rfl rfl _ _ pk 32 kR lN lN on1 rfl ?_; clear S; intro w S) | (go_at_call 47; (with_reducible refine (PCL.out _ _ (S.bs_blkN (g := g5) pk HP.out (by decide))).mono ?_); rintro e w1 ⟨v36, rfl, T⟩; replace S := S.call T; clear T; (try simp only [z4, z5] at S); obtain ⟨a36, c36, rfl, _, _⟩ := Sl.shape (S.bs (v := v36) (xs := prev) pk)) | ((with_reducible refine iD 38 (.box 104 (.tmp 37)) ?_); refine step_boxA (dst := some 38) S 104 (.tmp 37) _ rfl rfl ?_; clear S; intro g38 w S) | fail)
  refine wp_relyW (e1 := noRes) 5 (S.pick (r := row8 v3 X3) pk) [sv [] ((.pointer (some ⟨g38, 0, none⟩))), sv [0] (.pointer (some ⟨g38, 0, none⟩)), sv [0, 1] (.pointer (some ⟨g38, 0, none⟩)), sv [0, 1, 2] v3, sv [] (.slice (some ⟨g12, 0, none⟩) 32 32), ⟨[0, 1, 2, 3, 4], [], [], fun _ v => True, fun _ v => [row8 v (X3 ++ D1)]⟩, ⟨[0, 1, 2, 3, 4, 5], [], [5], fun _ v => v = .tuple #[.agg (arr8 D2), .int .i64 0], fun _ v => []⟩, sv [0, 1, 2, 3, 4, 5, 6] (.agg (arr8 D2)), sv [0, 1, 2, 3, 4, 5, 6] (.int .i64 0)] ?A1 ?hA1 kR kR kR [0, 1, 2, 3, 4, 5, 6, 7, 8] kR (of_decide_eq_true rfl) ?hok1 ?fin1
  case hA1 => intro u; simp only [putAll, List.length_cons, List.length_nil, Nat.zero_add, Nat.reduceAdd, dstAt, List.getElem?_toArray, List.getElem?_cons_zero, List.getElem?_cons_succ, Option.bind_some, Act.put, List.setIfInBounds_toArray, List.set_cons_zero, List.set_cons_succ]; rfl
  case hok1 =>
    intro i hi
    obtain rfl | rfl | rfl | rfl | rfl | rfl | rfl | rfl | rfl : i = 0 ∨ i = 1 ∨ i = 2 ∨ i = 3 ∨ i = 4 ∨ i = 5 ∨ i = 6 ∨ i = 7 ∨ i = 8 := by simp only [List.length_cons, List.length_nil, Nat.zero_add, Nat.reduceAdd] at hi; omega
    · rw [if_neg (by decide)]; intro r0; exact oP []
    · rw [if_neg (by decide)]; intro r0; exact oP [0]
    · rw [if_neg (by decide)]; intro r0; exact oP [1]
    · clear hi
      rw [if_neg (by decide)]; intro r0
      refine step_of rfl rfl rfl ?_
      intro u G w hf S
      have f2 : u 2 = .pointer (some ⟨g38, 0, none⟩) := hf 2 (by simp)
      simp only [fl, z4, z5, z6, z7, ptrBlk] at S ⊢
      simp only [f2]
      refine does_load1 25 (.tmp 52) _ _ rfl (S.cell (g := g38) pk rfl) _ Tryd.underlying25 rfl ?_; exact ⟨rfl, S⟩
    · rw [if_neg (by decide)]; intro r0; exact oP []
    · clear hi
      rw [if_pos rfl]
      refine step_ofW rfl rfl rfl ?_
      intro u G w hf S
      have f3 : u 3 = v3 := hf 3 (by simp)
      have f4 : u 4 = .slice (some ⟨g12, 0, none⟩) 32 32 := hf 4 (by simp)
      simp only [fl, z4, z5, z6, z7, ptrBlk] at S ⊢
      simp only [f3, f4]
      refine does_append8 (.tmp 53) (.tmp 54) v3 X3 rfl S _ D1 rfl (S.bs_blkN (g := g12) pk HD1L.out (by decide)) H4.out ?_; intro v' w' S; exact ⟨trivial, S.taken1⟩
    · clear hi
      rw [if_neg (by decide)]; intro r0
      refine step_of rfl rfl rfl ?_
      intro u G w hf S
      simp only [fl, z4, z5, z6, z7, ptrBlk] at S ⊢
      refine does_fn (args := [u 5]) Tryd.func42 kR kR (P4.out _ _ (S.bs (xs := X3 ++ D1) pk) kT) rfl ?_
      rintro e w1 ⟨rfl, T⟩
      exact ⟨_, rfl, rfl, S.call T⟩
    · rw [if_neg (by decide)]; intro r0; exact oP [6]
    · rw [if_neg (by decide)]; intro r0; exact oP [6]
  case fin1 =>
    intro u w hf S
    have hvA := allV hf
    simp only [AllV, RSpec.valAt, sv, Nat.zero_add, Nat.reduceAdd] at hvA
    simp only [fl, z4, z5, z6, z7, ptrBlk] at S
    clear hf
    simp only [List.length_cons, List.length_nil, Nat.zero_add, Nat.reduceAdd, List.drop_succ_cons, List.drop_zero, hvA]
    try simp only [hvA, ptrBlk] at S
    clear hvA
    generalize u 5 = v55 at S ⊢
    go_wp2_with (first | ((with_reducible refine iO none (.store 22 (.tmp 10) (.tmp 57)) ?_); refine step_store S 22 (.tmp 10) (.tmp 57) _ _ rfl rfl _ _ pk 32 kR lN lN on1 rfl ?_; clear S; intro w S) | fail)
    refine ret_row_tmp rfl g10 22 _ (S.get pk) _ Tryd.underlying22 32 kR lN rfl rfl rfl ?_
    exact ⟨rfl, S.nil⟩
end Go.Proofs.YtfhkmmagpnojmaaDoor

/- The link of a record as the specification has it; WireLinks' walk. No condition but the table of constants and the reach. -/
namespace Go.Proofs.YtfhkmmagpnojmaaDoor
open Go.RowKit

theorem eql32 (xs ys : List UInt8) (hx : xs.length = 32) (hy : ys.length = 32) (w' : World) : (binOp .eql 22 (.agg (arr8 xs)) (.agg (arr8 ys))).run Tryd.prog w' = .ok (.bool (decide (xs = ys))) w' := by
  have := eql_bytes (P := Tryd.prog) 22 5 32 Tryd.underlying22 Tryd.underlying5 kR xs ys hx hy w'
  exact this
theorem neq32 (xs ys : List UInt8) (hx : xs.length = 32) (hy : ys.length = 32) (w' : World) : (binOp .neq 22 (.agg (arr8 xs)) (.agg (arr8 ys))).run Tryd.prog w' = .ok (.bool (decide (xs ≠ ys))) w' := by
  have := neq_bytes (P := Tryd.prog) 22 5 32 Tryd.underlying22 Tryd.underlying5 kR xs ys hx hy w'
  simpa [arr8] using this
end Go.Proofs.YtfhkmmagpnojmaaDoor

/- A chain of records: its validity; the program's Verify. No condition but the table of constants and the reach. -/
namespace Go.Proofs.YtfhkmmagpnojmaaDoor
open Go.RowKit

set_option maxRecDepth 100000 in
set_option maxHeartbeats 1000000 in
theorem long_s (v : Value) (b : List UInt8) (w0 : World) (h : Bs w0 v b) : Calls Tryd.prog 52 #[v] w0 fun e w' => e = .returned (.bool (decide (64 < b.length))) ∧ Has w0 w' [] := by
  have S := Has.start w0
  obtain ⟨a0, c0, rfl, k1, k2⟩ := h.shape
  clear h
  have e : decide ((64 : Int) < (b.length : Int)) = decide (64 < b.length) := by rw [Bool.eq_iff_iff, decide_eq_true_eq, decide_eq_true_eq]; omega
  have E := Lib.hid e; clear e
  go_enter Tryd.func52, Tryd.ntmps52
  go_wp2_with (first | fail)
  go_ret
  exact ⟨by rw [← E.out]; rfl, S⟩
end Go.Proofs.YtfhkmmagpnojmaaDoor

/- The program's Verify. No condition but the table of constants and the reach. -/
namespace Go.Proofs.YtfhkmmagpnojmaaDoor
open Go.RowKit

/-- How many records hold, one after another, from a previous link on. -/
def vfN (prev : List UInt8) : List Rcd → List (List UInt8) → Nat
  | x :: xs, b :: bs => if lnkD prev x.tick x.kind x.code b = x.link then 1 + vfN x.link xs bs else 0
  | _, _ => 0
def vfR (prev : List UInt8) (l : List Rcd) (bs : List (List UInt8)) : Nat × Int :=
  if 32 < l.length then (0, 4) else if bs.length ≠ l.length then (0, 2) else if chV l = false then (0, 8) else if (bs.any fun b => decide (64 < b.length)) = true then (0, 4) else (vfN prev l bs, 0)
abbrev cdV (x : Rcd) : Int := x.code.v
theorem vfN_step (L : List UInt8) (l : List Rcd) (bs : List (List UInt8)) (k : Nat) (x : Rcd) (b : List UInt8) (hx : l[k]? = some x) (hb : bs[k]? = some b) :
    vfN L (l.drop k) (bs.drop k) = if lnkD L x.tick x.kind x.code b = x.link then 1 + vfN x.link (l.drop (k + 1)) (bs.drop (k + 1)) else 0 := by
  obtain ⟨h1, rfl⟩ := List.getElem?_eq_some_iff.1 hx
  obtain ⟨h2, rfl⟩ := List.getElem?_eq_some_iff.1 hb
  rw [List.drop_eq_getElem_cons h1, List.drop_eq_getElem_cons h2]
  rfl
set_option maxRecDepth 100000 in
set_option maxHeartbeats 8000000 in
theorem verify_s (prev : List UInt8) (rv fv : Value) (l : List Rcd) (ps : List (Value × List UInt8)) (w0 : World) (hp : prev.length = 32) (hr : Sl w0 35 rv l.length (l.flatMap rcdL)) (hf : Fr w0 fv ps) (hK : KT w0) :
    Calls Tryd.prog 18 #[.agg (arr8 prev), rv, fv] w0 fun e w' => e = .returned (.tuple #[.int .i64 ((vfR prev l (ps.map (·.2))).1 : Int), .int .i64 (vfR prev l (ps.map (·.2))).2]) ∧ Has w0 w' [] := by
  have S := Has.start w0
  obtain ⟨a0, c0, rfl, k1, k2⟩ := Sl.shape hr
  obtain ⟨a1, c1, rfl, k3, k4⟩ := Sl.shape hf.1
  unfold maxLen at k2 k4
  by_cases h1 : 32 < l.length
  · rw [show vfR prev l (ps.map (·.2)) = (0, 4) from if_pos h1]
    have i1 : 32 < (l.length : Int) := by omega
    have HR := Lib.hid hr; have HF := Lib.hid hf; have HK := Lib.hid hK; clear hr hf hK
    go_enter Tryd.func18, Tryd.ntmps18
    go_wp2_with (first | ((with_reducible refine iD 3 (.box 22 (.tmp 0)) ?_); refine step_boxA (dst := some 3) S 22 (.tmp 0) _ rfl gw ?_; clear S; intro g3 w S) | fail)
    go_ret2
    exact ⟨rfl, S.nil⟩
  have i1 : ¬ 32 < (l.length : Int) := by omega
  by_cases h2 : ps.length = l.length
  rotate_left
  · rw [show vfR prev l (ps.map (·.2)) = (0, 2) by unfold vfR; rw [if_neg h1, List.length_map, if_pos h2]]
    have i2 : ((ps.length : Int) == (l.length : Int)) = false := beq_false_of_ne (fun h => h2 (by omega))
    have HR := Lib.hid hr; have HF := Lib.hid hf; have HK := Lib.hid hK; clear hr hf hK
    go_enter Tryd.func18, Tryd.ntmps18
    go_wp2_with (first | ((with_reducible refine iD 3 (.box 22 (.tmp 0)) ?_); refine step_boxA (dst := some 3) S 22 (.tmp 0) _ rfl gw ?_; clear S; intro g3 w S) | fail)
    go_ret2
    exact ⟨rfl, S.nil⟩
  have hbc := build_ch
  have pch := fun n w h => chainV_s n (.slice a0 l.length c0) l w h
  have pco := fun w h => containsF_s (.slice a1 ps.length c1) ps 52 Tryd.f52 (fun x => decide (64 < x.2.length)) w h Tryd.func52 kR kR (fun x _ w h => long_s x.1 x.2 w h)
  cases h3 : chV l with
  | false =>
    rw [show vfR prev l (ps.map (·.2)) = (0, 8) by unfold vfR; rw [if_neg h1, List.length_map, if_neg (by omega), if_pos h3]]
    rw [h3] at pch
    have i2 : ((ps.length : Int) == (l.length : Int)) = true := by rw [h2]; simp
    have HR := Lib.hid hr; have HF := Lib.hid hf; have HK := Lib.hid hK; have PCH := Lib.hid pch; have PCO := Lib.hid pco; have H2 := Lib.hid h2; clear hr hf hK pch pco h2
    go_enter Tryd.func18, Tryd.ntmps18
    go_wp2_with (first | ((with_reducible refine iD 3 (.box 22 (.tmp 0)) ?_); refine step_boxA (dst := some 3) S 22 (.tmp 0) _ rfl gw ?_; clear S; intro g3 w S) | (go_at_call 50; (with_reducible refine (PCH.out _ _ (S.old HR.out)).mono ?_); rintro e w1 ⟨rfl, T⟩; replace S := S.call T; clear T; (try simp only [z4, z5] at S)) | fail)
    go_ret2
    exact ⟨rfl, S.nil⟩
  | true =>
  have h3' := (chV_iff l).1 h3
  rw [h3] at pch
  obtain ⟨P, hP⟩ : ∃ P, P = ps.any fun x => decide (64 < x.2.length) := ⟨_, rfl⟩
  have hP2 : ((ps.map (·.2)).any fun b => decide (64 < b.length)) = P := by rw [hP, List.any_map]; rfl
  rw [← hP] at pco
  cases P with
  | true =>
    rw [show vfR prev l (ps.map (·.2)) = (0, 4) by unfold vfR; rw [if_neg h1, List.length_map, if_neg (by omega), if_neg (by rw [h3]; decide), if_pos hP2]]
    have i2 : ((ps.length : Int) == (l.length : Int)) = true := by rw [h2]; simp
    clear hP hP2 h3
    have HR := Lib.hid hr; have HF := Lib.hid hf; have HK := Lib.hid hK; have PCH := Lib.hid pch; have PCO := Lib.hid pco; have H2 := Lib.hid h2; clear hr hf hK pch pco h2
    go_enter Tryd.func18, Tryd.ntmps18
    go_wp2_with (first | ((with_reducible refine iD 3 (.box 22 (.tmp 0)) ?_); refine step_boxA (dst := some 3) S 22 (.tmp 0) _ rfl gw ?_; clear S; intro g3 w S) | (go_at_call 50; (with_reducible refine (PCH.out _ _ (S.old HR.out)).mono ?_); rintro e w1 ⟨rfl, T⟩; replace S := S.call T; clear T; (try simp only [z4, z5] at S)) | (go_at_call 51; (with_reducible refine (PCO.out _ (S.oldF HF.out)).mono ?_); rintro e w1 ⟨rfl, T⟩; replace S := S.call T; clear T; (try simp only [z4, z5] at S)) | fail)
    go_ret2
    exact ⟨rfl, S.nil⟩
  | false =>
  obtain ⟨N, hN⟩ : ∃ N, N = vfN prev l (ps.map (·.2)) := ⟨_, rfl⟩
  rw [show vfR prev l (ps.map (·.2)) = (N, 0) by unfold vfR; rw [if_neg h1, List.length_map, if_neg (by omega), if_neg (by rw [h3]; decide), if_neg (by rw [hP2]; decide), hN]]
  have i2 : ((ps.length : Int) == (l.length : Int)) = true := by rw [h2]; simp
  have hlen : ∀ p ∈ ps, p.2.length ≤ 64 := fun p hm => by
    have := List.any_eq_false.1 hP.symm p hm
    simp only [decide_eq_true_eq] at this
    omega
  have hval := h3'.2
  have eg : Tryd.prog.eqGuardType Tryd.prog.depth 22 = false := by kernel_rfl
  clear hP hP2 h3 h3'
  have H2 := Lib.hid h2; have HR := Lib.hid hr; have HF := Lib.hid hf; have HK := Lib.hid hK; have PCH := Lib.hid pch; have PCO := Lib.hid pco; have HLEN := Lib.hid hlen; have HVAL := Lib.hid hval; have HN := Lib.hid hN; have HP := Lib.hid hp; clear h2 hr hf hK pch pco hlen hval hN hp
  go_enter Tryd.func18, Tryd.ntmps18
  go_wp2_with (first | ((with_reducible refine iD 3 (.box 22 (.tmp 0)) ?_); refine step_boxA (dst := some 3) S 22 (.tmp 0) _ rfl gw ?_; clear S; intro g3 w S) | (go_at_call 50; (with_reducible refine (PCH.out _ _ (S.old HR.out)).mono ?_); rintro e w1 ⟨rfl, T⟩; replace S := S.call T; clear T; (try simp only [z4, z5] at S)) | (go_at_call 51; (with_reducible refine (PCO.out _ (S.oldF HF.out)).mono ?_); rintro e w1 ⟨rfl, T⟩; replace S := S.call T; clear T; (try simp only [z4, z5] at S)) | fail)
  go_loopw [28] (fun u wr => ∃ (k : Nat) (L : List UInt8), k ≤ l.length ∧ u = .int .i64 (k : Int) ∧ L.length = 32 ∧ N = k + vfN L (l.drop k) ((ps.map (·.2)).drop k) ∧ Has w0 wr [blk g3 (.cells (arr8 L) 22 (0, 0))]) (fun u _ => l.length - (intOf u).toNat)
  case atStart => exact ⟨0, prev, Nat.zero_le _, rfl, HP.out, by rw [HN.out]; simp, S⟩
  case round =>
    clear S
    obtain ⟨k, L, hk, rfl, hL, hn, S⟩ := hrel
    by_cases hlt : k < l.length
    · have hx : l[k]? = some l[k] := List.getElem?_eq_getElem hlt
      have hlt2 : k < ps.length := by rw [H2.out]; exact hlt
      have hy : ps[k]? = some ps[k] := List.getElem?_eq_getElem hlt2
      have hyb : (ps.map (·.2))[k]? = some (ps[k]).2 := by rw [List.getElem?_map, hy]; rfl
      obtain ⟨b, off, rfl, hcell⟩ := HR.out.atA (by omega)
      obtain ⟨b2, off2, rfl, hcell2⟩ := HF.out.1.atA (by omega)
      have hrg := HR.out.elem rcdL_length (by decide) k _ hx
      have hcf := hcell2 k (ps[k]).1 (by rw [List.getElem?_map, hy]; rfl)
      have hm : ps[k] ∈ ps := List.getElem_mem hlt2
      have hbs := HF.out.2 _ hm
      have hl64 := HLEN.out _ hm
      have hv := HVAL.out _ (List.getElem_mem hlt)
      rw [vfN_step L l (ps.map (·.2)) k _ _ hx hyb] at hn
      obtain ⟨x, hxe⟩ : ∃ x, x = l[k] := ⟨_, rfl⟩
      obtain ⟨p, hpe⟩ : ∃ p, p = ps[k] := ⟨_, rfl⟩
      rw [← hxe] at hrg hv hn
      rw [← hpe] at hcf hbs hl64 hn
      have hE0 : lnkE x.tick x.kind x.code p.2.length = 0 := by
        unfold lnkE
        rw [if_neg (by rw [show lkV x.tick x.kind x.code = true from hv]; decide), if_neg (by omega)]
      have pk := fun w h1 h2 => link_s L x.tick x.kind x.code p.1 p.2 w hL h1 h2 (by omega)
      rw [hE0, show lnkR L x.tick x.kind x.code p.2 = lnkD L x.tick x.kind x.code p.2 from if_pos hE0] at pk
      obtain ⟨D, hD⟩ : ∃ D, D = lnkD L x.tick x.kind x.code p.2 := ⟨_, rfl⟩
      have hDl : D.length = 32 := by rw [hD]; exact sumD_length _
      rw [← hD] at hn pk
      have hki : (k : Int) < (l.length : Int) := by omega
      have hki3 : (k : Int) < (ps.length : Int) := by omega
      have hki2 : (k : Int) < 9223372036854775807 := by omega
      have he := fun w' => neq32 D x.link hDl x.len w'
      have hxl := x.len
      by_cases hd : D = x.link
      · rw [if_pos hd] at hn
        have hnx : N = (k + 1) + vfN x.link (l.drop (k + 1)) ((ps.map (·.2)).drop (k + 1)) := by omega
        rw [decide_eq_false (by simpa using hd)] at he
        clear hx hy hyb hcell hcell2 hm hl64 hv hxe hpe hE0 hD hn
        have HRG := Lib.hid hrg; have HCF := Lib.hid hcf; have HBS := Lib.hid hbs; have HDL := Lib.hid hDl; have HNX := Lib.hid hnx; have PK := Lib.hid pk; have HL := Lib.hid hL; have HD := Lib.hid hd; have HXL := Lib.hid hxl; clear hrg hcf hbs hDl hnx pk hL hd hxl
        clear hlt2
        go_upto_region 12 with (first | ((with_reducible refine iO _ (.load 50 _) ?_); first | (refine step_loadR 50 _ _ _ rfl _ (S.old_range hy) _ Tryd.underlying50 rfl 35 kR lN _ rfl gw ?_) | (refine step_loadP S 50 _ _ _ rfl _ _ _ pk 35 _ pT lN _ Tryd.underlying50 rfl kR gw ?_)) | ((with_reducible refine iD 9 (.alloc 50) ?_); refine step_alloc (dst := some 9) S 50 (.agg ((rcdL rcdZ).toArray)) ((rcdL rcdZ).toArray) kR rfl gw ?_; clear S; intro g9 w S) | ((with_reducible refine iO none (.store 50 (.tmp 9) (.tmp 32)) ?_); refine step_store S 50 (.tmp 9) (.tmp 32) _ _ rfl rfl _ _ pk 35 kR lN lN on1 gw ?_; clear S; intro w S) | fail)
        refine wp_rely S [sv [] (.agg (arr8 L)), sv [] (.pointer (some ⟨g9, 0, none⟩)), sv [1] (.int .u64 (x.tick.toNat : Int)), sv [] (.pointer (some ⟨g9, 1, none⟩)), sv [3] (by8 x.kind), sv [] (.pointer (some ⟨g9, 2, none⟩)), sv [5] (.int .i64 (cdV x)), sv [] ((.slice (some ⟨b2, off2, none⟩) ps.length c1)), sv [] ((.int .i64 (k : Int))), sv [7, 8] (.pointer (some ⟨b2, off2 + k, none⟩)), sv [7, 8, 9] p.1, sv [0, 1, 2, 3, 4, 5, 6, 7, 8, 9, 10] (.tuple #[.agg (arr8 D), .int .i64 0]), sv [0, 1, 2, 3, 4, 5, 6, 7, 8, 9, 10, 11] ((.tuple #[.agg (arr8 D), .int .i64 0])), sv [0, 1, 2, 3, 4, 5, 6, 7, 8, 9, 10, 11, 12] (.agg (arr8 D)), sv [0, 1, 2, 3, 4, 5, 6, 7, 8, 9, 10, 11, 12] (.int .i64 0), ⟨[], [], [], fun _ v => ∃ g, v = .pointer (some ⟨g, 0, none⟩), fun _ v => [blk (ptrBlk v) (.cells (arr8 (List.replicate 32 0)) 22 (0, 0))]⟩, ⟨[0, 1, 2, 3, 4, 5, 6, 7, 8, 9, 10, 11, 12, 13, 15], [15], [], fun _ v => True, fun d v => [blk (ptrBlk (d 15)) (.cells ((arr8 D)) 22 (0, 0))]⟩, sv [0, 1, 2, 3, 4, 5, 6, 7, 8, 9, 10, 11, 12, 13, 14, 15, 16] (.int .i64 0)] ?A1 ?hA1 kR kR kR [0, 1, 2, 3, 4, 5, 6, 7, 8, 9, 10, 11, 12, 13, 14, 16, 17] kR ?hok1 ?fin1
        case hA1 => intro u; simp only [putAll, List.length_cons, List.length_nil, Nat.zero_add, Nat.reduceAdd, dstAt, List.getElem?_toArray, List.getElem?_cons_zero, List.getElem?_cons_succ, Option.bind_some, Act.put, List.setIfInBounds_toArray, List.set_cons_zero, List.set_cons_succ]; rfl
        case hok1 =>
          intro i hi
          obtain rfl | rfl | rfl | rfl | rfl | rfl | rfl | rfl | rfl | rfl | rfl | rfl | rfl | rfl | rfl | rfl | rfl | rfl : i = 0 ∨ i = 1 ∨ i = 2 ∨ i = 3 ∨ i = 4 ∨ i = 5 ∨ i = 6 ∨ i = 7 ∨ i = 8 ∨ i = 9 ∨ i = 10 ∨ i = 11 ∨ i = 12 ∨ i = 13 ∨ i = 14 ∨ i = 15 ∨ i = 16 ∨ i = 17 := by simp only [List.length_cons, List.length_nil, Nat.zero_add, Nat.reduceAdd] at hi; omega
          · clear hi
            refine step_of rfl rfl rfl ?_
            intro u G w hf S
            simp only [fl, z4, z5, z6, z7, ptrBlk] at S ⊢
            refine does_load 22 (.tmp 3) g3 rfl _ _ _ (S.get (r := blk g3 _) pk) _ Tryd.underlying22 rfl 32 kR lN ?_; exact ⟨rfl, S⟩
          · exact oP []
          · clear hi
            refine step_of rfl rfl rfl ?_
            intro u G w hf S
            have f1 : u 1 = .pointer (some ⟨g9, 0, none⟩) := hf 1 (by simp)
            simp only [fl, z4, z5, z6, z7, ptrBlk] at S ⊢
            simp only [f1]
            refine does_load1 23 (.tmp 35) _ _ rfl (S.cell (g := g9) pk co) _ Tryd.underlying23 rfl ?_; exact ⟨rfl, S⟩
          · exact oP []
          · clear hi
            refine step_of rfl rfl rfl ?_
            intro u G w hf S
            have f3 : u 3 = .pointer (some ⟨g9, 1, none⟩) := hf 3 (by simp)
            simp only [fl, z4, z5, z6, z7, ptrBlk] at S ⊢
            simp only [f3]
            refine does_load1 5 (.tmp 37) _ _ rfl (S.cell (g := g9) pk co) _ Tryd.underlying5 rfl ?_; exact ⟨rfl, S⟩
          · exact oP []
          · clear hi
            refine step_of rfl rfl rfl ?_
            intro u G w hf S
            have f5 : u 5 = .pointer (some ⟨g9, 2, none⟩) := hf 5 (by simp)
            simp only [fl, z4, z5, z6, z7, ptrBlk] at S ⊢
            simp only [f5]
            refine does_load1 24 (.tmp 39) _ _ rfl (S.cell (g := g9) pk co) _ Tryd.underlying24 rfl ?_; exact ⟨rfl, S⟩
          · exact oP []
          · exact oP []
          · exact oP [7, 8]
          · clear hi
            refine step_of rfl rfl rfl ?_
            intro u G w hf S
            have f9 : u 9 = .pointer (some ⟨b2, off2 + k, none⟩) := hf 9 (by simp)
            simp only [fl, z4, z5, z6, z7, ptrBlk] at S ⊢
            simp only [f9]
            refine does_load1 25 (.tmp 43) _ _ rfl (S.old_cell hy) _ Tryd.underlying25 rfl ?_; exact ⟨rfl, S⟩
          · clear hi
            refine step_of rfl rfl rfl ?_
            intro u G w hf S
            have f0 : u 0 = .agg (arr8 L) := hf 0 (by simp)
            have f2 : u 2 = .int .u64 (x.tick.toNat : Int) := hf 2 (by simp)
            have f4 : u 4 = by8 x.kind := hf 4 (by simp)
            have f6 : u 6 = .int .i64 (cdV x) := hf 6 (by simp)
            have f10 : u 10 = p.1 := hf 10 (by simp)
            simp only [fl, z4, z5, z6, z7, ptrBlk] at S ⊢
            simp only [f0, f2, f4, f6, f10]
            refine does_fn (args := [(.agg (arr8 L)), (.int .u64 (x.tick.toNat : Int)), (by8 x.kind), (.int .i64 (cdV x)), (p.1)]) Tryd.func16 kR kR (PK.out w (S.oldB HBS.out) kT) rfl ?_
            rintro e w1 ⟨rfl, T⟩
            exact ⟨_, rfl, rfl, S.call T⟩
          · exact oP [11]
          · exact oP [12]
          · exact oP [12]
          · clear hi
            refine step_of rfl rfl rfl ?_
            intro u G w hf S
            simp only [fl, z4, z5, z6, z7, ptrBlk] at S ⊢
            refine does_alloc S 22 (.agg (arr8 (List.replicate 32 0))) (arr8 (List.replicate 32 0)) kR rfl ?_; intro g w1 S; exact ⟨⟨g, rfl⟩, S⟩
          · clear hi
            refine step_of rfl rfl rfl ?_
            intro u G w hf S
            have f13 : u 13 = .agg (arr8 D) := hf 13 (by simp)
            have f15 : ∃ g, u 15 = .pointer (some ⟨g, 0, none⟩) := hf 15 (by simp)
            obtain ⟨g10, f15⟩ := f15
            have m15 : mask [0, 1, 2, 3, 4, 5, 6, 7, 8, 9, 10, 11, 12, 13, 15] u 15 = u 15 := rfl
            simp only [fl, z4, z5, z6, z7, m15, ptrBlk] at S ⊢
            simp only [m15, f13, f15] at S ⊢
            try simp only [ptrBlk] at S
            refine does_store S 22 (.tmp 10) (.tmp 46) _ rfl rfl 32 kR lN lN on1 ?_; intro w1 S; exact ⟨trivial, S⟩
          · exact oP [14]
        case fin1 =>
          intro u w hf S
          have f15 : ∃ g, u 15 = .pointer (some ⟨g, 0, none⟩) := hf 15 (by simp)
          obtain ⟨g10, f15⟩ := f15
          have m16_15 : mask [0, 1, 2, 3, 4, 5, 6, 7, 8, 9, 10, 11, 12, 13, 15] u 15 = u 15 := rfl
          have hvA := allV hf
          simp only [AllV, RSpec.valAt, sv, Nat.zero_add, Nat.reduceAdd, m16_15] at hvA
          simp only [fl, z4, z5, z6, z7, m16_15, ptrBlk] at S
          clear hf
          simp only [List.length_cons, List.length_nil, Nat.zero_add, Nat.reduceAdd, List.drop_succ_cons, List.drop_zero, f15, hvA]
          try simp only [f15, hvA, ptrBlk] at S
          clear f15 hvA m16_15
          go_wp2_with (first | ((with_reducible refine iO _ (.load 22 _) ?_); first | (refine step_load S 22 _ _ rfl _ _ _ pk _ Tryd.underlying22 rfl 32 kR lN gw ?_) | (refine step_loadO 22 _ _ rfl _ _ _ (S.old_heap (Hid.out (by assumption))) _ Tryd.underlying22 rfl 32 kR lN gw ?_) | (refine step_loadR 22 _ _ _ rfl _ (S.old_range hy) _ Tryd.underlying22 rfl 32 kR lN _ rfl gw ?_)) | ((with_reducible refine iO _ (.load 22 _) ?_); first | (refine step_loadR 22 _ _ _ rfl _ (S.old_range hy) _ Tryd.underlying22 rfl 32 kR lN _ rfl gw ?_) | (refine step_loadP S 22 _ _ _ rfl _ _ _ pk 32 _ pT lN _ Tryd.underlying22 rfl kR gw ?_)) | ((with_reducible refine iO none (.store 22 (.tmp 3) (.tmp 58)) ?_); refine step_store S 22 (.tmp 3) (.tmp 58) _ _ rfl rfl _ _ pk 32 kR lN lN on1 gw ?_; clear S; intro w S) | fail)
          go_roundw
          case rel =>
            refine ⟨k + 1, D, by omega, by go_num, HDL.out, ?_, S.sub (by repeat (first | exact Sub.nil _ | refine Sub.cons pk ?_))⟩
            rw [HD.out]
            exact HNX.out
          case measure => simp [intOf]; omega
      · rw [if_neg hd] at hn
        rw [decide_eq_true hd] at he
        clear hx hy hyb hcell hcell2 hm hl64 hv hxe hpe hE0 hD
        have hn1 : N = k := by omega
        clear hn
        have HRG := Lib.hid hrg; have HCF := Lib.hid hcf; have HBS := Lib.hid hbs; have HDL := Lib.hid hDl; have HN1 := Lib.hid hn1; have PK := Lib.hid pk; have HL := Lib.hid hL; have HD := Lib.hid hd; have HXL := Lib.hid hxl; clear hrg hcf hbs hDl hn1 pk hL hd hxl
        clear hlt2
        go_upto_region 12 with (first | ((with_reducible refine iO _ (.load 50 _) ?_); first | (refine step_loadR 50 _ _ _ rfl _ (S.old_range hy) _ Tryd.underlying50 rfl 35 kR lN _ rfl gw ?_) | (refine step_loadP S 50 _ _ _ rfl _ _ _ pk 35 _ pT lN _ Tryd.underlying50 rfl kR gw ?_)) | ((with_reducible refine iD 9 (.alloc 50) ?_); refine step_alloc (dst := some 9) S 50 (.agg ((rcdL rcdZ).toArray)) ((rcdL rcdZ).toArray) kR rfl gw ?_; clear S; intro g9 w S) | ((with_reducible refine iO none (.store 50 (.tmp 9) (.tmp 32)) ?_); refine step_store S 50 (.tmp 9) (.tmp 32) _ _ rfl rfl _ _ pk 35 kR lN lN on1 gw ?_; clear S; intro w S) | fail)
        refine wp_rely S [sv [] (.agg (arr8 L)), sv [] (.pointer (some ⟨g9, 0, none⟩)), sv [1] (.int .u64 (x.tick.toNat : Int)), sv [] (.pointer (some ⟨g9, 1, none⟩)), sv [3] (by8 x.kind), sv [] (.pointer (some ⟨g9, 2, none⟩)), sv [5] (.int .i64 (cdV x)), sv [] ((.slice (some ⟨b2, off2, none⟩) ps.length c1)), sv [] ((.int .i64 (k : Int))), sv [7, 8] (.pointer (some ⟨b2, off2 + k, none⟩)), sv [7, 8, 9] p.1, sv [0, 1, 2, 3, 4, 5, 6, 7, 8, 9, 10] (.tuple #[.agg (arr8 D), .int .i64 0]), sv [0, 1, 2, 3, 4, 5, 6, 7, 8, 9, 10, 11] ((.tuple #[.agg (arr8 D), .int .i64 0])), sv [0, 1, 2, 3, 4, 5, 6, 7, 8, 9, 10, 11, 12] (.agg (arr8 D)), sv [0, 1, 2, 3, 4, 5, 6, 7, 8, 9, 10, 11, 12] (.int .i64 0), ⟨[], [], [], fun _ v => ∃ g, v = .pointer (some ⟨g, 0, none⟩), fun _ v => [blk (ptrBlk v) (.cells (arr8 (List.replicate 32 0)) 22 (0, 0))]⟩, ⟨[0, 1, 2, 3, 4, 5, 6, 7, 8, 9, 10, 11, 12, 13, 15], [15], [], fun _ v => True, fun d v => [blk (ptrBlk (d 15)) (.cells ((arr8 D)) 22 (0, 0))]⟩, sv [0, 1, 2, 3, 4, 5, 6, 7, 8, 9, 10, 11, 12, 13, 14, 15, 16] (.int .i64 0)] ?A2 ?hA2 kR kR kR [0, 1, 2, 3, 4, 5, 6, 7, 8, 9, 10, 11, 12, 13, 14, 16, 17] kR ?hok2 ?fin2
        case hA2 => intro u; simp only [putAll, List.length_cons, List.length_nil, Nat.zero_add, Nat.reduceAdd, dstAt, List.getElem?_toArray, List.getElem?_cons_zero, List.getElem?_cons_succ, Option.bind_some, Act.put, List.setIfInBounds_toArray, List.set_cons_zero, List.set_cons_succ]; rfl
        case hok2 =>
          intro i hi
          obtain rfl | rfl | rfl | rfl | rfl | rfl | rfl | rfl | rfl | rfl | rfl | rfl | rfl | rfl | rfl | rfl | rfl | rfl : i = 0 ∨ i = 1 ∨ i = 2 ∨ i = 3 ∨ i = 4 ∨ i = 5 ∨ i = 6 ∨ i = 7 ∨ i = 8 ∨ i = 9 ∨ i = 10 ∨ i = 11 ∨ i = 12 ∨ i = 13 ∨ i = 14 ∨ i = 15 ∨ i = 16 ∨ i = 17 := by simp only [List.length_cons, List.length_nil, Nat.zero_add, Nat.reduceAdd] at hi; omega
          · clear hi
            refine step_of rfl rfl rfl ?_
            intro u G w hf S
            simp only [fl, z4, z5, z6, z7, ptrBlk] at S ⊢
            refine does_load 22 (.tmp 3) g3 rfl _ _ _ (S.get (r := blk g3 _) pk) _ Tryd.underlying22 rfl 32 kR lN ?_; exact ⟨rfl, S⟩
          · exact oP []
          · clear hi
            refine step_of rfl rfl rfl ?_
            intro u G w hf S
            have f1 : u 1 = .pointer (some ⟨g9, 0, none⟩) := hf 1 (by simp)
            simp only [fl, z4, z5, z6, z7, ptrBlk] at S ⊢
            simp only [f1]
            refine does_load1 23 (.tmp 35) _ _ rfl (S.cell (g := g9) pk co) _ Tryd.underlying23 rfl ?_; exact ⟨rfl, S⟩
          · exact oP []
          · clear hi
            refine step_of rfl rfl rfl ?_
            intro u G w hf S
            have f3 : u 3 = .pointer (some ⟨g9, 1, none⟩) := hf 3 (by simp)
            simp only [fl, z4, z5, z6, z7, ptrBlk] at S ⊢
            simp only [f3]
            refine does_load1 5 (.tmp 37) _ _ rfl (S.cell (g := g9) pk co) _ Tryd.underlying5 rfl ?_; exact ⟨rfl, S⟩
          · exact oP []
          · clear hi
            refine step_of rfl rfl rfl ?_
            intro u G w hf S
            have f5 : u 5 = .pointer (some ⟨g9, 2, none⟩) := hf 5 (by simp)
            simp only [fl, z4, z5, z6, z7, ptrBlk] at S ⊢
            simp only [f5]
            refine does_load1 24 (.tmp 39) _ _ rfl (S.cell (g := g9) pk co) _ Tryd.underlying24 rfl ?_; exact ⟨rfl, S⟩
          · exact oP []
          · exact oP []
          · exact oP [7, 8]
          · clear hi
            refine step_of rfl rfl rfl ?_
            intro u G w hf S
            have f9 : u 9 = .pointer (some ⟨b2, off2 + k, none⟩) := hf 9 (by simp)
            simp only [fl, z4, z5, z6, z7, ptrBlk] at S ⊢
            simp only [f9]
            refine does_load1 25 (.tmp 43) _ _ rfl (S.old_cell hy) _ Tryd.underlying25 rfl ?_; exact ⟨rfl, S⟩
          · clear hi
            refine step_of rfl rfl rfl ?_
            intro u G w hf S
            have f0 : u 0 = .agg (arr8 L) := hf 0 (by simp)
            have f2 : u 2 = .int .u64 (x.tick.toNat : Int) := hf 2 (by simp)
            have f4 : u 4 = by8 x.kind := hf 4 (by simp)
            have f6 : u 6 = .int .i64 (cdV x) := hf 6 (by simp)
            have f10 : u 10 = p.1 := hf 10 (by simp)
            simp only [fl, z4, z5, z6, z7, ptrBlk] at S ⊢
            simp only [f0, f2, f4, f6, f10]
            refine does_fn (args := [(.agg (arr8 L)), (.int .u64 (x.tick.toNat : Int)), (by8 x.kind), (.int .i64 (cdV x)), (p.1)]) Tryd.func16 kR kR (PK.out w (S.oldB HBS.out) kT) rfl ?_
            rintro e w1 ⟨rfl, T⟩
            exact ⟨_, rfl, rfl, S.call T⟩
          · exact oP [11]
          · exact oP [12]
          · exact oP [12]
          · clear hi
            refine step_of rfl rfl rfl ?_
            intro u G w hf S
            simp only [fl, z4, z5, z6, z7, ptrBlk] at S ⊢
            refine does_alloc S 22 (.agg (arr8 (List.replicate 32 0))) (arr8 (List.replicate 32 0)) kR rfl ?_; intro g w1 S; exact ⟨⟨g, rfl⟩, S⟩
          · clear hi
            refine step_of rfl rfl rfl ?_
            intro u G w hf S
            have f13 : u 13 = .agg (arr8 D) := hf 13 (by simp)
            have f15 : ∃ g, u 15 = .pointer (some ⟨g, 0, none⟩) := hf 15 (by simp)
            obtain ⟨g10, f15⟩ := f15
            have m15 : mask [0, 1, 2, 3, 4, 5, 6, 7, 8, 9, 10, 11, 12, 13, 15] u 15 = u 15 := rfl
            simp only [fl, z4, z5, z6, z7, m15, ptrBlk] at S ⊢
            simp only [m15, f13, f15] at S ⊢
            try simp only [ptrBlk] at S
            refine does_store S 22 (.tmp 10) (.tmp 46) _ rfl rfl 32 kR lN lN on1 ?_; intro w1 S; exact ⟨trivial, S⟩
          · exact oP [14]
        case fin2 =>
          intro u w hf S
          have f15 : ∃ g, u 15 = .pointer (some ⟨g, 0, none⟩) := hf 15 (by simp)
          obtain ⟨g10, f15⟩ := f15
          have m16_15 : mask [0, 1, 2, 3, 4, 5, 6, 7, 8, 9, 10, 11, 12, 13, 15] u 15 = u 15 := rfl
          have hvA := allV hf
          simp only [AllV, RSpec.valAt, sv, Nat.zero_add, Nat.reduceAdd, m16_15] at hvA
          simp only [fl, z4, z5, z6, z7, m16_15, ptrBlk] at S
          clear hf
          simp only [List.length_cons, List.length_nil, Nat.zero_add, Nat.reduceAdd, List.drop_succ_cons, List.drop_zero, f15, hvA]
          try simp only [f15, hvA, ptrBlk] at S
          clear f15 hvA m16_15
          go_wp2_with (first | ((with_reducible refine iO _ (.load 22 _) ?_); first | (refine step_load S 22 _ _ rfl _ _ _ pk _ Tryd.underlying22 rfl 32 kR lN gw ?_) | (refine step_loadO 22 _ _ rfl _ _ _ (S.old_heap (Hid.out (by assumption))) _ Tryd.underlying22 rfl 32 kR lN gw ?_) | (refine step_loadR 22 _ _ _ rfl _ (S.old_range hy) _ Tryd.underlying22 rfl 32 kR lN _ rfl gw ?_)) | ((with_reducible refine iO _ (.load 22 _) ?_); first | (refine step_loadR 22 _ _ _ rfl _ (S.old_range hy) _ Tryd.underlying22 rfl 32 kR lN _ rfl gw ?_) | (refine step_loadP S 22 _ _ _ rfl _ _ _ pk 32 _ pT lN _ Tryd.underlying22 rfl kR gw ?_)) | fail)
          go_ret2
          exact ⟨by rw [show N = k from HN1.out]; rfl, S.nil⟩
    · obtain rfl : k = l.length := by omega
      have hnN : N = l.length := by
        rw [List.drop_of_length_le (Nat.le_refl _)] at hn
        simpa [vfN] using hn
      have hki : ¬ (l.length : Int) < (l.length : Int) := by omega
      have HNN := Lib.hid hnN; clear hnN
      clear hn
      go_wp2_with (first | fail)
      go_ret2
      exact ⟨by rw [HNN.out]; rfl, S.nil⟩
end Go.Proofs.YtfhkmmagpnojmaaDoor

/- A log in plain words: its cells, its validity, one record more, the records from a number on. No condition. -/
namespace Go.Proofs.YtfhkmmagpnojmaaDoor
open Go.RowKit

/-- A log: its count, the link of its last record, its last records. -/
structure Lg where
  cnt : UInt32
  link : List UInt8
  recs : List Rcd
  len : link.length = 32
def lgZ : Lg := ⟨0, zs32, [], rfl⟩
/-- The cells of a log, its records' slice given. -/
def lgL (g : Lg) (v : Value) : List Value := .int .u32 (g.cnt.toNat : Int) :: (g.link.map by8 ++ [v])
theorem lgL_size (g : Lg) (v : Value) : (lgL g v).toArray.size = 34 := by simp [lgL, g.len]
theorem lgL_one (g : Lg) (v : Value) (h : v.oneCell' = true) : (lgL g v).toArray.all (·.oneCell') = true := by
  rw [Array.all_eq_true']
  intro u hu
  simp only [lgL, List.mem_toArray, List.mem_append, List.mem_cons, List.not_mem_nil, or_false] at hu
  rcases hu with rfl | hu | rfl
  · rfl
  · exact oneCell_u8 _ u hu
  · exact h
theorem lgL_0 (g : Lg) (v : Value) : (lgL g v).toArray[0]? = some (.int .u32 (g.cnt.toNat : Int)) := rfl
theorem lgL_link (g : Lg) (v : Value) : (((lgL g v).toArray.toList.drop 1).take 32).toArray = arr8 g.link := by
  have : (((lgL g v).toArray.toList.drop 1).take 32) = g.link.map by8 := by
    show ((g.link.map by8 ++ [v]).take 32) = _
    rw [List.take_append_of_le_length (by simp [g.len]), List.take_of_length_le (by simp [g.len])]
  rw [this]
  rfl
theorem lgL_33 (g : Lg) (v : Value) : (lgL g v).toArray[33]? = some v := by
  rw [List.getElem?_toArray]
  show (g.link.map by8 ++ [v])[32]? = some v
  rw [List.getElem?_append_right (by simp [g.len])]
  simp [g.len]
/-- The link of the last record, or zeros. -/
def lastK (l : List Rcd) : List UInt8 := match l.getLast? with | some x => x.link | none => zs32
def lgV (g : Lg) : Bool := decide (g.recs.length = min g.cnt.toNat 32) && (chV g.recs && decide (g.link = lastK g.recs))
/-- What a check of a log answers. -/
def lgE (g : Lg) : Int := if lgV g = true then 0 else 8
/-- The error of a record more. -/
def apE (g : Lg) (t : UInt64) (k : UInt8) (c : I64) (n : Nat) : Int :=
  if lgV g = false then 8 else if lnkE t k c n ≠ 0 then lnkE t k c n else if g.cnt.toNat = 4294967295 then 9 else 0
/-- The records kept beside one more. -/
def keepR (l : List Rcd) : List Rcd := l.drop (l.length + 1 - 32)
def newR (g : Lg) (t : UInt64) (k : UInt8) (c : I64) (b : List UInt8) : Rcd := ⟨t, k, c, lnkD g.link t k c b, sumD_length _⟩
def apR (g : Lg) (t : UInt64) (k : UInt8) (c : I64) (b : List UInt8) : Lg :=
  if apE g t k c b.length = 0 then ⟨g.cnt + 1, lnkD g.link t k c b, keepR g.recs ++ [newR g t k c b], sumD_length _⟩ else lgZ
/-- The records from a number on. -/
def sinceR (g : Lg) (first : UInt32) : List Rcd := if lgV g = true then g.recs.drop (min (max first.toNat (g.cnt.toNat - g.recs.length) - (g.cnt.toNat - g.recs.length)) g.recs.length) else []
theorem lgV_parts (g : Lg) (h : lgV g = true) : g.recs.length = min g.cnt.toNat 32 ∧ (∀ x ∈ g.recs, rcdV x = true) ∧ g.link = lastK g.recs := by
  simp only [lgV, Bool.and_eq_true, decide_eq_true_eq] at h
  exact ⟨h.1, ((chV_iff _).1 h.2.1).2, h.2.2⟩
end Go.Proofs.YtfhkmmagpnojmaaDoor
