/- Several texts under one header: what the claim needs of LgG, FrA, Alv8, RfS, RfU. No condition but those that each names. -/
import Derived.Test.YtfhkmmagpnojmaaDoorYR1
import Derived.Test.YtfhkmmagpnojmaaDoorYR8
import Derived.Test.YtfhkmmagpnojmaaDoorYR11
import Derived.Test.YtfhkmmagpnojmaaDoorYR5
import Derived.Test.YtfhkmmagpnojmaaDoorYR10
import Derived.Test.YtfhkmmagpnojmaaDoorYR7
import Derived.Deep.Cut
import Derived.Test.YtfhkmmagpnojmaaDoorYR9
import Derived.Test.YtfhkmmagpnojmaaDoorYR4
set_option linter.unusedSimpArgs false
set_option linter.unusedVariables false

/- The program's Append to a log. No condition but the table of constants and the reach. -/
namespace Go.Proofs.YtfhkmmagpnojmaaDoor
open Go.RowKit

theorem build_lgv (x : Int) (d0 d1 d2 d3 d4 d5 d6 d7 d8 d9 d10 d11 d12 d13 d14 d15 d16 d17 d18 d19 d20 d21 d22 d23 d24 d25 d26 d27 d28 d29 d30 d31 : UInt8) (a : Option Addr) (n c : Nat) (w : World) : (Instr.build 40 #[(0, .int .u32 x), (1, Value.agg ([d0, d1, d2, d3, d4, d5, d6, d7, d8, d9, d10, d11, d12, d13, d14, d15, d16, d17, d18, d19, d20, d21, d22, d23, d24, d25, d26, d27, d28, d29, d30, d31].map by8).toArray), (2, .slice a n c)]).run Tryd.prog w = .ok (.agg (Value.int .u32 x :: ([d0, d1, d2, d3, d4, d5, d6, d7, d8, d9, d10, d11, d12, d13, d14, d15, d16, d17, d18, d19, d20, d21, d22, d23, d24, d25, d26, d27, d28, d29, d30, d31].map by8 ++ [.slice a n c])).toArray) w := by kernel_rfl
theorem build_lg (x : Int) (D : List UInt8) (hD : D.length = 32) (v : Value) (hv : ∃ a n c, v = .slice a n c) (w : World) : (Instr.build 40 #[(0, .int .u32 x), (1, Value.agg (D.map by8).toArray), (2, v)]).run Tryd.prog w = .ok (.agg (Value.int .u32 x :: (D.map by8 ++ [v])).toArray) w := by
  obtain ⟨a, n, c, rfl⟩ := hv
  exact match D, hD with
  | [d0, d1, d2, d3, d4, d5, d6, d7, d8, d9, d10, d11, d12, d13, d14, d15, d16, d17, d18, d19, d20, d21, d22, d23, d24, d25, d26, d27, d28, d29, d30, d31], _ => build_lgv x d0 d1 d2 d3 d4 d5 d6 d7 d8 d9 d10 d11 d12 d13 d14 d15 d16 d17 d18 d19 d20 d21 d22 d23 d24 d25 d26 d27 d28 d29 d30 d31 a n c w
set_option maxRecDepth 100000 in
theorem does_buildLg {a : Act} {w : World} {dst : Option Tmp} {ty : TypeId} {pos : String} {after : Array Edge} {guard : Option (Nat × Bool)} {Post : Value → World → Prop} (x y z : Operand) (g : Lg) (v : Value) (xi : Int) (D : List UInt8)
    (hx : a.eval x = .int .u32 xi) (hxi : xi = (g.cnt.toNat : Int)) (hy : a.eval y = .agg (arr8 D)) (hD : g.link = D) (hz : a.eval z = v) (hv : ∃ a n c, v = .slice a n c)
    (h : Post (.agg (lgL g v).toArray) w) : does Tryd.prog a.eval ⟨dst, .build 40 #[(0, x), (1, y), (2, z)], ty, pos, after, guard⟩ w Post := by
  subst hD
  subst hxi
  refine does_val (v := .agg (lgL g v).toArray) ?_ h
  have hp : (#[(0, x), (1, y), (2, z)].map fun (i, x) => (i, a.eval x)) = #[(0, .int .u32 (g.cnt.toNat : Int)), (1, Value.agg (g.link.map by8).toArray), (2, v)] := by simp [hx, hy, hz, arr8]
  have := build_lg g.cnt.toNat g.link g.len v hv w
  simp only [execOp, hp, Sem.run_bind, this, Result.andThen_ok, Sem.run_pure]
  rfl
/-- What Append needs of a log and a record. -/
structure ApOk (g : Lg) (t : UInt64) (k : UInt8) (c : I64) (b : List UInt8) (G : Lg) (D : List UInt8) (x : Rcd) : Prop where
  c0 : 0 ≤ c.v
  c1 : c.v ≤ 65535
  b64 : b.length ≤ 64
  n : g.recs.length ≤ 32
  eD : D = lnkD g.link t k c b
  eDl : D.length = 32
  cnt : g.cnt.toNat + 1 < 4294967296
  g0 : (g.cnt.toNat : Int) + 1 = (G.cnt.toNat : Int)
  g1 : G.link = D
  g2 : G.recs = keepR g.recs ++ [x]
  x0 : x.tick = t
  x1 : x.kind = k
  x2 : x.code = c
  x3 : x.link = D
theorem apOk (g : Lg) (t : UInt64) (k : UInt8) (c : I64) (b : List UInt8) (hE : apE g t k c b.length = 0) : ∃ D x, ApOk g t k c b (apR g t k c b) D x := by
  have hv : lgV g = true := by
    cases hv : lgV g with
    | true => rfl
    | false => unfold apE at hE; rw [if_pos hv] at hE; cases hE
  have hk0 : lnkE t k c b.length = 0 := by
    unfold apE at hE
    rw [if_neg (by rw [hv]; decide)] at hE
    by_cases h : lnkE t k c b.length = 0
    · exact h
    · rw [if_pos h] at hE; exact hE
  have hc : g.cnt.toNat ≠ 4294967295 := by
    intro hc
    unfold apE at hE
    rw [if_neg (by rw [hv]; decide), if_neg (by rw [hk0]; decide), if_pos hc] at hE
    cases hE
  have hcv : lkV t k c = true ∧ b.length ≤ 64 := by
    cases hl : lkV t k c with
    | false => unfold lnkE at hk0; rw [if_pos hl] at hk0; cases hk0
    | true =>
      refine ⟨rfl, ?_⟩
      unfold lnkE at hk0
      rw [if_neg (by rw [hl]; decide)] at hk0
      by_cases h : 64 < b.length
      · rw [if_pos h] at hk0; cases hk0
      · omega
  have hb : 0 ≤ c.v ∧ c.v ≤ 65535 := by
    have : decide (t.toNat ≤ 4611686018427387904 ∧ k.toNat ≤ 6 ∧ 0 ≤ c.v ∧ c.v ≤ 65535) = true := hcv.1
    exact (of_decide_eq_true this).2.2
  have hcl := g.cnt.toNat_lt
  have hn := (lgV_parts g hv).1
  have hR : apR g t k c b = ⟨g.cnt + 1, lnkD g.link t k c b, keepR g.recs ++ [newR g t k c b], sumD_length _⟩ := by
    unfold apR
    rw [if_pos hE]
  refine ⟨lnkD g.link t k c b, newR g t k c b, hb.1, hb.2, hcv.2, by omega, rfl, sumD_length _, by omega, ?_, by rw [hR], by rw [hR], rfl, rfl, rfl, rfl⟩
  rw [hR]
  show _ = ((g.cnt + 1).toNat : Int)
  rw [UInt32.toNat_add]
  simp only [UInt32.toNat_one]
  omega
abbrev iv (c : I64) : Int := c.v
def MadeLg (w : World) (g : Lg) (E : Int) (e : Ending) (w' : World) : Prop := ∃ v, e = .returned (.tuple #[.agg (lgL g v).toArray, .int .i64 E]) ∧ Has w w' [rowRc v g.recs]
set_option maxRecDepth 100000 in
set_option maxHeartbeats 8000000 in
theorem append_s (g : Lg) (rv : Value) (t : UInt64) (k : UInt8) (c : I64) (bv : Value) (b : List UInt8) (w0 : World) (hr : Sl w0 35 rv g.recs.length (g.recs.flatMap rcdL)) (hb : Bs w0 bv b) (hK : KT w0) (hl : b.length ≤ 140737488351232) :
    Calls Tryd.prog 21 #[.agg (lgL g rv).toArray, .int .u64 (t.toNat : Int), by8 k, .int .i64 c.v, bv] w0 (MadeLg w0 (apR g t k c b) (apE g t k c b.length)) := by
  have S := Has.start w0
  obtain ⟨a0, c0, rfl, k1, k2⟩ := Sl.shape hr
  obtain ⟨a1, c1, rfl, k3, k4⟩ := Sl.shape hb
  unfold maxLen at k2 k4
  have pc := fun w h => checkLog_s g (.slice a0 g.recs.length c0) w h
  have q0 := lgL_0 g (.slice a0 g.recs.length c0)
  have q33 := lgL_33 g (.slice a0 g.recs.length c0)
  have qk := lgL_link g (.slice a0 g.recs.length c0)
  have hgl := g.len
  cases hv : lgV g with
  | false =>
    have hE : apE g t k c b.length = 8 := if_pos hv
    have hR : apR g t k c b = lgZ := if_neg (by rw [hE]; decide)
    rw [hE, hR]
    rw [show lgE g = 8 by unfold lgE; rw [hv]; rfl] at pc
    have PC := Lib.hid pc; have HB := Lib.hid hb; have HR := Lib.hid hr; have HK := Lib.hid hK; have Q0 := Lib.hid q0; have Q33 := Lib.hid q33; have QK := Lib.hid qk; have HGL := Lib.hid hgl; clear pc hb hr hK q0 q33 qk hgl
    clear hE hR hv
    go_enter Tryd.func21, Tryd.ntmps21
    go_wp2_with (first | ((with_reducible refine iD 5 (.box 40 (.tmp 0)) ?_); refine step_boxA (dst := some 5) S 40 (.tmp 0) _ rfl rfl ?_; clear S; intro g5 w S) | ((with_reducible refine iD 10 (.alloc 40) ?_); refine step_alloc (dst := some 10) S 40 (.agg ((lgL lgZ (.slice none 0 0)).toArray)) ((lgL lgZ (.slice none 0 0)).toArray) kR rfl rfl ?_; clear S; intro g10 w S) | ((with_reducible refine iO _ (.load 40 _) ?_); first | (refine step_load S 40 _ _ rfl _ _ _ pk _ Tryd.underlying40 rfl 34 kR lN rfl ?_) | (refine step_loadO 40 _ _ rfl _ _ _ (S.old_heap (Hid.out (by assumption))) _ Tryd.underlying40 rfl 34 kR lN rfl ?_) | (refine step_loadR 40 _ _ _ rfl _ (S.old_range hy) _ Tryd.underlying40 rfl 34 kR lN _ rfl rfl ?_)) | (go_at_call 23; (with_reducible refine (PC.out _ (S.old HR.out)).mono ?_); rintro e w1 ⟨rfl, T⟩; replace S := S.call T; clear T; (try simp only [z4, z5] at S)) | ((with_reducible refine iD 22 (.build 40 _) ?_); refine step_buildZ 40 (.agg ((lgL lgZ (.slice none 0 0)).toArray)) (fun w => by kernel_rfl) rfl ?_) | ((with_reducible refine iO none (.store 40 (.tmp 10) (.tmp 22)) ?_); refine step_store S 40 (.tmp 10) (.tmp 22) _ _ rfl rfl _ _ pk 34 kR lN lN on1 rfl ?_; clear S; intro w S) | fail)
    refine ret_row_tmp rfl g10 40 _ (S.get pk) _ Tryd.underlying40 34 kR lN rfl rfl rfl ?_
    exact ⟨_, rfl, S.nil.nilRc⟩
  | true =>
  obtain ⟨hn, hval, hlast⟩ := lgV_parts g hv
  rw [show lgE g = 0 by unfold lgE; rw [hv]; rfl] at pc
  have pl := fun w h1 h2 => link_s g.link t k c (.slice a1 b.length c1) b w g.len h1 h2 hl
  by_cases hk0 : lnkE t k c b.length = 0
  rotate_left
  · have hE : apE g t k c b.length = lnkE t k c b.length := by unfold apE; rw [if_neg (by rw [hv]; decide), if_pos hk0]
    have hR : apR g t k c b = lgZ := if_neg (by rw [hE]; exact hk0)
    rw [hE, hR]
    obtain ⟨D, hD⟩ : ∃ D, D = lnkR g.link t k c b := ⟨_, rfl⟩
    have hDl : D.length = 32 := by rw [hD]; exact lnkR_length _ _ _ _ _
    obtain ⟨E, hE2⟩ : ∃ D, D = lnkE t k c b.length := ⟨_, rfl⟩
    rw [← hD, ← hE2] at pl
    rw [← hE2] at hk0 ⊢
    have i1 : (E == 0) = false := beq_false_of_ne hk0
    have PC := Lib.hid pc; have PL := Lib.hid pl; have HB := Lib.hid hb; have HR := Lib.hid hr; have HK := Lib.hid hK; have Q0 := Lib.hid q0; have Q33 := Lib.hid q33; have QK := Lib.hid qk; have HDL := Lib.hid hDl; have HGL := Lib.hid hgl; clear pc pl hb hr hK q0 q33 qk hDl hgl
    clear hE hR hv hn hval hlast hD hE2
    go_enter Tryd.func21, Tryd.ntmps21
    go_wp2_with (first | ((with_reducible refine iD 5 (.box 40 (.tmp 0)) ?_); refine step_boxA (dst := some 5) S 40 (.tmp 0) _ rfl rfl ?_; clear S; intro g5 w S) | ((with_reducible refine iD 10 (.alloc 40) ?_); refine step_alloc (dst := some 10) S 40 (.agg ((lgL lgZ (.slice none 0 0)).toArray)) ((lgL lgZ (.slice none 0 0)).toArray) kR rfl rfl ?_; clear S; intro g10 w S) | ((with_reducible refine iO _ (.load 40 _) ?_); first | (refine step_load S 40 _ _ rfl _ _ _ pk _ Tryd.underlying40 rfl 34 kR lN rfl ?_) | (refine step_loadO 40 _ _ rfl _ _ _ (S.old_heap (Hid.out (by assumption))) _ Tryd.underlying40 rfl 34 kR lN rfl ?_) | (refine step_loadR 40 _ _ _ rfl _ (S.old_range hy) _ Tryd.underlying40 rfl 34 kR lN _ rfl rfl ?_)) | (go_at_call 23; (with_reducible refine (PC.out _ (S.old HR.out)).mono ?_); rintro e w1 ⟨rfl, T⟩; replace S := S.call T; clear T; (try simp only [z4, z5] at S)) | ((with_reducible refine iO _ (.load 22 _) ?_); first | (refine step_loadR 22 _ _ _ rfl _ (S.old_range hy) _ Tryd.underlying22 rfl 32 kR lN _ rfl rfl ?_) | (refine step_loadP S 22 _ _ _ rfl _ _ _ pk 32 _ pT lN _ Tryd.underlying22 rfl kR rfl ?_)) | (go_at_call 16; (with_reducible refine (PL.out _ (S.oldB HB.out) kT).mono ?_); rintro e w1 ⟨rfl, T⟩; replace S := S.call T; clear T; (try simp only [z4, z5] at S)) | ((with_reducible refine iD 13 (.alloc 22) ?_); refine step_alloc (dst := some 13) S 22 (.agg (arr8 (List.replicate 32 0))) (arr8 (List.replicate 32 0)) kR rfl rfl ?_; clear S; intro g13 w S) | ((with_reducible refine iO none (.store 22 (.tmp 13) (.tmp 32)) ?_); refine step_store S 22 (.tmp 13) (.tmp 32) _ _ rfl rfl _ _ pk 32 kR lN lN on1 rfl ?_; clear S; intro w S) | ((with_reducible refine iD 36 (.build 40 _) ?_); refine step_buildZ 40 (.agg ((lgL lgZ (.slice none 0 0)).toArray)) (fun w => by kernel_rfl) rfl ?_) | ((with_reducible refine iO none (.store 40 (.tmp 10) (.tmp 36)) ?_); refine step_store S 40 (.tmp 10) (.tmp 36) _ _ rfl rfl _ _ pk 34 kR lN lN on1 rfl ?_; clear S; intro w S) | fail)
    refine ret_row_tmp rfl g10 40 _ (S.get pk) _ Tryd.underlying40 34 kR lN rfl rfl rfl ?_
    exact ⟨_, rfl, S.nil.nilRc⟩
  rw [show lnkR g.link t k c b = lnkD g.link t k c b from if_pos hk0, hk0] at pl
  obtain ⟨D, hD⟩ : ∃ D, D = lnkD g.link t k c b := ⟨_, rfl⟩
  have hDl : D.length = 32 := by rw [hD]; exact sumD_length _
  rw [← hD] at pl
  by_cases hc : g.cnt.toNat = 4294967295
  · have hE : apE g t k c b.length = 9 := by unfold apE; rw [if_neg (by rw [hv]; decide), if_neg (by rw [hk0]; decide), if_pos hc]
    have hR : apR g t k c b = lgZ := if_neg (by rw [hE]; decide)
    rw [hE, hR]
    rw [hc] at q0
    have PC := Lib.hid pc; have PL := Lib.hid pl; have HB := Lib.hid hb; have HR := Lib.hid hr; have HK := Lib.hid hK; have Q0 := Lib.hid q0; have Q33 := Lib.hid q33; have QK := Lib.hid qk; have HDL := Lib.hid hDl; have HGL := Lib.hid hgl; clear pc pl hb hr hK q0 q33 qk hDl hgl
    clear hE hR hv hn hval hlast hD hk0 hc
    go_enter Tryd.func21, Tryd.ntmps21
    go_wp2_with (first | ((with_reducible refine iD 5 (.box 40 (.tmp 0)) ?_); refine step_boxA (dst := some 5) S 40 (.tmp 0) _ rfl rfl ?_; clear S; intro g5 w S) | ((with_reducible refine iD 10 (.alloc 40) ?_); refine step_alloc (dst := some 10) S 40 (.agg ((lgL lgZ (.slice none 0 0)).toArray)) ((lgL lgZ (.slice none 0 0)).toArray) kR rfl rfl ?_; clear S; intro g10 w S) | ((with_reducible refine iO _ (.load 40 _) ?_); first | (refine step_load S 40 _ _ rfl _ _ _ pk _ Tryd.underlying40 rfl 34 kR lN rfl ?_) | (refine step_loadO 40 _ _ rfl _ _ _ (S.old_heap (Hid.out (by assumption))) _ Tryd.underlying40 rfl 34 kR lN rfl ?_) | (refine step_loadR 40 _ _ _ rfl _ (S.old_range hy) _ Tryd.underlying40 rfl 34 kR lN _ rfl rfl ?_)) | (go_at_call 23; (with_reducible refine (PC.out _ (S.old HR.out)).mono ?_); rintro e w1 ⟨rfl, T⟩; replace S := S.call T; clear T; (try simp only [z4, z5] at S)) | ((with_reducible refine iO _ (.load 22 _) ?_); first | (refine step_loadR 22 _ _ _ rfl _ (S.old_range hy) _ Tryd.underlying22 rfl 32 kR lN _ rfl rfl ?_) | (refine step_loadP S 22 _ _ _ rfl _ _ _ pk 32 _ pT lN _ Tryd.underlying22 rfl kR rfl ?_)) | (go_at_call 16; (with_reducible refine (PL.out _ (S.oldB HB.out) kT).mono ?_); rintro e w1 ⟨rfl, T⟩; replace S := S.call T; clear T; (try simp only [z4, z5] at S)) | ((with_reducible refine iD 13 (.alloc 22) ?_); refine step_alloc (dst := some 13) S 22 (.agg (arr8 (List.replicate 32 0))) (arr8 (List.replicate 32 0)) kR rfl rfl ?_; clear S; intro g13 w S) | ((with_reducible refine iO none (.store 22 (.tmp 13) (.tmp 32)) ?_); refine step_store S 22 (.tmp 13) (.tmp 32) _ _ rfl rfl _ _ pk 32 kR lN lN on1 rfl ?_; clear S; intro w S) | ((with_reducible refine iO _ (.load 38 _) ?_); refine step_load1 38 _ _ _ rfl (cL) _ Tryd.underlying38 rfl rfl ?_) | ((with_reducible refine iD 41 (.build 40 _) ?_); refine step_buildZ 40 (.agg ((lgL lgZ (.slice none 0 0)).toArray)) (fun w => by kernel_rfl) rfl ?_) | ((with_reducible refine iO none (.store 40 (.tmp 10) (.tmp 41)) ?_); refine step_store S 40 (.tmp 10) (.tmp 41) _ _ rfl rfl _ _ pk 34 kR lN lN on1 rfl ?_; clear S; intro w S) | fail)
    refine ret_row_tmp rfl g10 40 _ (S.get pk) _ Tryd.underlying40 34 kR lN rfl rfl rfl ?_
    exact ⟨_, rfl, S.nil.nilRc⟩
  have hE : apE g t k c b.length = 0 := by unfold apE; rw [if_neg (by rw [hv]; decide), if_neg (by rw [hk0]; decide), if_neg hc]
  rw [hE]
  obtain ⟨D2, x, ok⟩ := apOk g t k c b hE
  obtain rfl : D = D2 := hD.trans ok.eD.symm
  have hG0 := ok.g0
  have hG1 := ok.g1
  have hG2 := ok.g2
  obtain ⟨hx0, hx1, hx2, hx3⟩ := And.intro ok.x0 (And.intro ok.x1 (And.intro ok.x2 ok.x3))
  have hcn := ok.cnt
  have hn32 := ok.n
  unfold MadeLg
  obtain ⟨GG, hG⟩ : ∃ GG, GG = apR g t k c b := ⟨_, rfl⟩
  rw [← hG] at hG0 hG1 hG2 ⊢
  clear ok hE hG
  rw [hG2]
  obtain ⟨lo, hlo⟩ : ∃ lo, lo = g.recs.length + 1 - 32 := ⟨_, rfl⟩
  have hkp : keepR g.recs = g.recs.drop lo := by rw [hlo]; rfl
  have hcut := Rs.cutM hr rfl lo (by omega)
  have hkl : (g.recs.drop lo).length = g.recs.length - lo := by simp
  rw [hkp]
  obtain ⟨KK, hKd⟩ : ∃ KK, KK = g.recs.drop lo := ⟨_, rfl⟩
  rw [← hKd] at hcut hkl ⊢
  obtain ⟨C, hC⟩ : ∃ C, C = g.cnt.toNat := ⟨_, rfl⟩
  rw [← hC] at q0 hG0 hc hcn
  have i1 : ((C : Int) == 4294967295) = false := beq_false_of_ne (by omega)
  have hwC : IntKind.u32.wrap ((C : Int) + 1) = (GG.cnt.toNat : Int) := by rw [IntKind.wrap_u32, ← hG0]; omega
  obtain ⟨n, hnn⟩ : ∃ n, n = g.recs.length := ⟨_, rfl⟩
  rw [← hnn] at hr pc q0 q33 qk hcut hkl k1 hlo hn32 ⊢
  have hlen : (n - lo + 1) * 56 ≤ 140737488355328 := by omega
  have hcap : n ≤ c0 := k1
  have PC := Lib.hid pc; have PL := Lib.hid pl; have HB := Lib.hid hb; have HR := Lib.hid hr; have HK := Lib.hid hK; have Q0 := Lib.hid q0; have Q33 := Lib.hid q33; have QK := Lib.hid qk; have HDL := Lib.hid hDl; have HG0 := Lib.hid hG0; have HG1 := Lib.hid hG1; have HG2 := Lib.hid hG2; have HX0 := Lib.hid hx0; have HX1 := Lib.hid hx1; have HX2 := Lib.hid hx2; have HX3 := Lib.hid hx3; have HCUT := Lib.hid hcut; have HKL := Lib.hid hkl; have HLEN := Lib.hid hlen; have HLO := Lib.hid hlo; have HGL := Lib.hid hgl; clear pc pl hb hr hK q0 q33 qk hDl hG0 hG1 hG2 hx0 hx1 hx2 hx3 hcut hkl hlen hlo hgl
  clear hv hn hval hlast hD hk0 hc hkp hKd hC hnn hcn
  go_enter Tryd.func21, Tryd.ntmps21
  go_upto_region 11 with (first | ((with_reducible refine iD 5 (.box 40 (.tmp 0)) ?_); refine step_boxA (dst := some 5) S 40 (.tmp 0) _ rfl rfl ?_; clear S; intro g5 w S) | ((with_reducible refine iD 10 (.alloc 40) ?_); refine step_alloc (dst := some 10) S 40 (.agg ((lgL lgZ (.slice none 0 0)).toArray)) ((lgL lgZ (.slice none 0 0)).toArray) kR rfl rfl ?_; clear S; intro g10 w S) | ((with_reducible refine iO _ (.load 40 _) ?_); first | (refine step_load S 40 _ _ rfl _ _ _ pk _ Tryd.underlying40 rfl 34 kR lN rfl ?_) | (refine step_loadO 40 _ _ rfl _ _ _ (S.old_heap (Hid.out (by assumption))) _ Tryd.underlying40 rfl 34 kR lN rfl ?_) | (refine step_loadR 40 _ _ _ rfl _ (S.old_range hy) _ Tryd.underlying40 rfl 34 kR lN _ rfl rfl ?_)) | (go_at_call 23; (with_reducible refine (PC.out _ (S.old HR.out)).mono ?_); rintro e w1 ⟨rfl, T⟩; replace S := S.call T; clear T; (try simp only [z4, z5] at S)) | ((with_reducible refine iO _ (.load 22 _) ?_); first | (refine step_loadR 22 _ _ _ rfl _ (S.old_range hy) _ Tryd.underlying22 rfl 32 kR lN _ rfl rfl ?_) | (refine step_loadP S 22 _ _ _ rfl _ _ _ pk 32 _ pT lN _ Tryd.underlying22 rfl kR rfl ?_)) | (go_at_call 16; (with_reducible refine (PL.out _ (S.oldB HB.out) kT).mono ?_); rintro e w1 ⟨rfl, T⟩; replace S := S.call T; clear T; (try simp only [z4, z5] at S)) | ((with_reducible refine iD 13 (.alloc 22) ?_); refine step_alloc (dst := some 13) S 22 (.agg (arr8 (List.replicate 32 0))) (arr8 (List.replicate 32 0)) kR rfl rfl ?_; clear S; intro g13 w S) | ((with_reducible refine iO none (.store 22 (.tmp 13) (.tmp 32)) ?_); refine step_store S 22 (.tmp 13) (.tmp 32) _ _ rfl rfl _ _ pk 32 kR lN lN on1 rfl ?_; clear S; intro w S) | ((with_reducible refine iO _ (.load 38 _) ?_); refine step_load1 38 _ _ _ rfl (cL) _ Tryd.underlying38 rfl rfl ?_) | ((with_reducible refine iO _ (.load 31 _) ?_); refine step_load1 31 _ _ _ rfl (cL) _ Tryd.underlying31 rfl rfl ?_) | fail)
  have hli : (if (n : Int) - 32 + 1 < 0 then 0 else (n : Int) - 32 + 1) = (lo : Int) := by have := HLO.out; split <;> omega
  have hln : lo ≤ n := by have := HLO.out; omega
  have HLI := Lib.hid hli; clear hli
  go_upto_region 12 with (first | ((with_reducible refine iD 54 (.slice 31 (.tmp 50) _ _ _) ?_); refine step_cutLHM 31 50 35 (.tmp 50) (.tmp 51) (.tmp 52) (.tmp 53) a0 n c0 _ _ _ _ _ _ lo n n rfl rfl rfl rfl HLI.out rfl rfl hln (Nat.le_refl _) hcap Tryd.underlying31 kR gw ?_) | ((with_reducible refine iO _ (.load 31 _) ?_); refine step_load1 31 _ _ _ rfl (cL) _ Tryd.underlying31 rfl rfl ?_) | fail)
  have S := S.pick (r := blk g10 _) pk
  refine wp_relyW (e1 := noRes) 13 (S.pick (r := blk g10 _) pk) [sv [] (.pointer (some ⟨g5, 0, none⟩)), sv [0] (.int .u32 (C : Int)), sv [0, 1] (.int .u32 (GG.cnt.toNat : Int)), sv [] (.agg (arr8 D)), sv [] ((.slice (cutA a0 n lo 35) (n - lo) (n - lo))), sv [] ((.int .u64 (t.toNat : Int))), sv [] (by8 k), sv [] ((.int .i64 (iv c))), sv [] (.agg (arr8 D)), sv [5, 6, 7, 8] (.agg (rcdL x).toArray), ⟨[5, 6, 7, 8, 9], [], [], fun _ v => ∃ y, v = y, fun _ v => [rowRc v [x]]⟩, ⟨[4, 5, 6, 7, 8, 9, 10], [10], [], fun _ v => ∃ y, v = y, fun _ v => [rowRc v (KK ++ [x])]⟩, ⟨[0, 1, 2, 3, 4, 5, 6, 7, 8, 9, 10, 11], [], [11], fun d v => v = .agg (lgL GG (d 11)).toArray, fun _ v => []⟩, ⟨[0, 1, 2, 3, 4, 5, 6, 7, 8, 9, 10, 11, 12], [], [11], fun _ v => True, fun d v => [blk g10 (.cells (lgL GG (d 11)).toArray 40 (0, 0))]⟩, sv [0, 1, 2, 3, 4, 5, 6, 7, 8, 9, 10, 11, 12, 13] (.int .i64 0)] ?A1 ?hA1 kR kR kR [0, 1, 2, 3, 4, 5, 6, 7, 8, 9, 11, 12, 13, 14] kR (of_decide_eq_true rfl) ?hok1 ?fin1
  case hA1 => intro u; simp only [putAll, List.length_cons, List.length_nil, Nat.zero_add, Nat.reduceAdd, dstAt, List.getElem?_toArray, List.getElem?_cons_zero, List.getElem?_cons_succ, Option.bind_some, Act.put, List.setIfInBounds_toArray, List.set_cons_zero, List.set_cons_succ]; rfl
  case hok1 =>
    intro i hi
    obtain rfl | rfl | rfl | rfl | rfl | rfl | rfl | rfl | rfl | rfl | rfl | rfl | rfl | rfl | rfl : i = 0 ∨ i = 1 ∨ i = 2 ∨ i = 3 ∨ i = 4 ∨ i = 5 ∨ i = 6 ∨ i = 7 ∨ i = 8 ∨ i = 9 ∨ i = 10 ∨ i = 11 ∨ i = 12 ∨ i = 13 ∨ i = 14 := by simp only [List.length_cons, List.length_nil, Nat.zero_add, Nat.reduceAdd] at hi; omega
    · rw [if_neg (by decide)]; intro r0; exact oP []
    · clear hi
      rw [if_neg (by decide)]; intro r0
      refine step_of rfl rfl rfl ?_
      intro u G w hf S
      have f0 : u 0 = .pointer (some ⟨g5, 0, none⟩) := hf 0 (by simp)
      simp only [fl, z4, z5, z6, z7, ptrBlk] at S ⊢
      simp only [f0]
      refine does_load1 38 (.tmp 55) _ _ rfl (S.cell (g := g5) pk co) _ Tryd.underlying38 rfl ?_; exact ⟨rfl, S⟩
    · rw [if_neg (by decide)]; intro r0; exact oP [1]
    · clear hi
      rw [if_neg (by decide)]; intro r0
      refine step_of rfl rfl rfl ?_
      intro u G w hf S
      simp only [fl, z4, z5, z6, z7, ptrBlk] at S ⊢
      refine does_load 22 (.tmp 13) g13 rfl _ _ _ (S.get (r := blk g13 _) pk) _ Tryd.underlying22 rfl 32 kR lN ?_; exact ⟨rfl, S⟩
    · rw [if_neg (by decide)]; intro r0; exact oP []
    · rw [if_neg (by decide)]; intro r0; exact oP []
    · rw [if_neg (by decide)]; intro r0; exact oP []
    · rw [if_neg (by decide)]; intro r0; exact oP []
    · clear hi
      rw [if_neg (by decide)]; intro r0
      refine step_of rfl rfl rfl ?_
      intro u G w hf S
      simp only [fl, z4, z5, z6, z7, ptrBlk] at S ⊢
      refine does_load 22 (.tmp 13) g13 rfl _ _ _ (S.get (r := blk g13 _) pk) _ Tryd.underlying22 rfl 32 kR lN ?_; exact ⟨rfl, S⟩
    · clear hi
      rw [if_neg (by decide)]; intro r0
      refine step_of rfl rfl rfl ?_
      intro u G w hf S
      have f5 : u 5 = (.int .u64 (t.toNat : Int)) := hf 5 (by simp)
      have f6 : u 6 = (by8 k) := hf 6 (by simp)
      have f7 : u 7 = (.int .i64 (iv c)) := hf 7 (by simp)
      have f8 : u 8 = .agg (arr8 D) := hf 8 (by simp)
      simp only [fl, z4, z5, z6, z7, ptrBlk] at S ⊢
      simp only [f5, f6, f7, f8]
      refine does_buildRc4 (.tmp 60) (.tmp 61) (.tmp 62) (.tmp 63) x (by rw [HX0.out]; rfl) (by rw [HX1.out]; rfl) (by rw [HX2.out]; rfl) (by rw [HX3.out]; rfl) ?_; exact ⟨rfl, S⟩
    · clear hi
      rw [if_neg (by decide)]; intro r0
      refine step_of rfl rfl rfl ?_
      intro u G w hf S
      have f9 : u 9 = .agg (rcdL x).toArray := hf 9 (by simp)
      simp only [fl, z4, z5, z6, z7, ptrBlk] at S ⊢
      simp only [f9]
      refine does_buildRc1 S (.tmp 64) x rfl ?_; intro y w1 S; exact ⟨⟨y, rfl⟩, S⟩
    · clear hi
      rw [if_neg (by decide)]; intro r0
      refine step_of rfl rfl rfl ?_
      intro u G w hf S
      have f4 : u 4 = (.slice (cutA a0 n lo 35) (n - lo) (n - lo)) := hf 4 (by simp)
      have f10 : ∃ y, u 10 = y := hf 10 (by simp)
      obtain ⟨y65, f10⟩ := f10
      simp only [fl, z4, z5, z6, z7, ptrBlk] at S ⊢
      simp only [f4, f10] at S ⊢
      try simp only [ptrBlk] at S
      refine does_appendRcX S (.tmp 59) (.tmp 65) (cutA a0 n lo 35) (n - lo) KK rfl HKL.out (S.old HCUT.out) y65 [x] rfl (S.sl (v := y65) pk) Nat.one_pos HLEN.out ?_; intro v' w' S; exact ⟨⟨_, rfl⟩, S.drop (Pick.tail (Pick.head _ _))⟩
    · clear hi
      rw [if_neg (by decide)]; intro r0
      refine step_of rfl rfl rfl ?_
      intro u G w hf S
      have f2 : u 2 = .int .u32 (GG.cnt.toNat : Int) := hf 2 (by simp)
      have f3 : u 3 = .agg (arr8 D) := hf 3 (by simp)
      have f10 : ∃ y, u 10 = y := hf 10 (by simp)
      obtain ⟨y65, f10⟩ := f10
      have f11 : ∃ y, u 11 = y := hf 11 (by simp)
      obtain ⟨y66, f11⟩ := f11
      have m11 : mask [0, 1, 2, 3, 4, 5, 6, 7, 8, 9, 10, 11] u 11 = u 11 := rfl
      simp only [fl, z4, z5, z6, z7, m11, ptrBlk] at S ⊢
      simp only [m11, f2, f3, f10, f11] at S ⊢
      try simp only [ptrBlk] at S
      refine does_buildLg (.tmp 57) (.tmp 58) (.tmp 66) GG _ _ D rfl rfl rfl HG1.out rfl (S.sl (v := y66) pk).isSl ?_; exact ⟨rfl, S⟩
    · clear hi
      rw [if_pos rfl]
      refine step_ofW rfl rfl rfl ?_
      intro u G w hf S
      have f10 : ∃ y, u 10 = y := hf 10 (by simp)
      obtain ⟨y65, f10⟩ := f10
      have f11 : ∃ y, u 11 = y := hf 11 (by simp)
      obtain ⟨y66, f11⟩ := f11
      have f12 : u 12 = .agg (lgL GG (u 11)).toArray := hf 12 (by simp)
      have m11 : mask [0, 1, 2, 3, 4, 5, 6, 7, 8, 9, 10, 11, 12] u 11 = u 11 := rfl
      simp only [fl, z4, z5, z6, z7, m11, ptrBlk] at S ⊢
      simp only [m11, f10, f11, f12] at S ⊢
      try simp only [ptrBlk] at S
      refine does_store (S.perm (List.Perm.swap _ _ _)) 40 (.tmp 10) (.tmp 67) _ rfl rfl 34 kR (lgL_size _ _) (lgL_size _ _) (lgL_one _ _ (one_sl (S.sl (v := y66) pk)).1) ?_; intro w1 S; exact ⟨trivial, S.unit.perm ((List.Perm.swap _ _ _).trans (List.Perm.cons _ (List.Perm.swap _ _ _)))⟩
    · rw [if_neg (by decide)]; intro r0; exact oP []
  case fin1 =>
    intro u w hf S
    have f10 : ∃ y, u 10 = y := hf 10 (by simp)
    obtain ⟨y65, f10⟩ := f10
    have f11 : ∃ y, u 11 = y := hf 11 (by simp)
    obtain ⟨y66, f11⟩ := f11
    have m12_11 : mask [0, 1, 2, 3, 4, 5, 6, 7, 8, 9, 10, 11] u 11 = u 11 := rfl
    have m13_11 : mask [0, 1, 2, 3, 4, 5, 6, 7, 8, 9, 10, 11, 12] u 11 = u 11 := rfl
    have hvA := allV hf
    simp only [AllV, RSpec.valAt, sv, Nat.zero_add, Nat.reduceAdd, m12_11, m13_11] at hvA
    simp only [fl, z4, z5, z6, z7, m12_11, m13_11, ptrBlk] at S
    clear hf
    simp only [List.length_cons, List.length_nil, Nat.zero_add, Nat.reduceAdd, List.drop_succ_cons, List.drop_zero, f10, f11, hvA]
    try simp only [f10, f11, hvA, ptrBlk] at S
    clear f10 f11 hvA m12_11 m13_11
    go_wp2_with (first | fail)
    all_goals
      have S := S.pick (r := blk g10 _) pk
      refine ret_row_tmp rfl g10 40 _ (S.get pk) _ Tryd.underlying40 34 kR lN rfl rfl rfl ?_
      exact ⟨_, rfl, S.sub (by repeat (first | exact Sub.nil _ | refine Sub.cons pk ?_))⟩
end Go.Proofs.YtfhkmmagpnojmaaDoor

/- The arrays of several byte slices as one thing; Split told so. No condition but the reach. -/
namespace Go.Proofs.YtfhkmmagpnojmaaDoor
open Go.RowKit

/-- The arrays of all these slices. -/
def allF (ps : List (Value × List UInt8)) : Res where
  foot := ps.flatMap fun p => (row8 p.1 p.2).foot
  holds w := ∀ p ∈ ps, (row8 p.1 p.2).holds w
  live w h g hg := by
    obtain ⟨p, hp, hg⟩ := List.mem_flatMap.1 hg
    exact (row8 p.1 p.2).live w (h p hp) g hg
  keep w w' hk h := fun p hp => (row8 p.1 p.2).keep w w' (fun g hg => hk g (List.mem_flatMap.2 ⟨p, hp, hg⟩)) (h p hp)
theorem Has.toAll {w0 w : World} {ps : List (Value × List UInt8)} {F : List Res} (S : Has w0 w (frs ps ++ F)) : Has w0 w (allF ps :: F) := by
  have ha := List.pairwise_append.1 S.apart
  refine ⟨S.below, ?_, ?_, List.pairwise_cons.2 ⟨fun s hs g hg => ?_, ha.2.1⟩⟩
  · intro r hr
    rcases List.mem_cons.1 hr with rfl | hr
    · exact fun p hp => S.holds _ (List.mem_append_left _ (frs_mem hp))
    · exact S.holds r (List.mem_append_right _ hr)
  · intro r hr g hg
    rcases List.mem_cons.1 hr with rfl | hr
    · obtain ⟨p, hp, hg⟩ := List.mem_flatMap.1 hg
      exact S.base _ (List.mem_append_left _ (frs_mem hp)) g hg
    · exact S.base r (List.mem_append_right _ hr) g hg
  · obtain ⟨p, hp, hg⟩ := List.mem_flatMap.1 hg
    exact ha.2.2 _ (frs_mem hp) s hs g hg
theorem Has.piece {w0 w : World} {l F : List Res} {ps : List (Value × List UInt8)} (S : Has w0 w l) (h : Pick l (allF ps) F) (p : Value × List UInt8) (hp : p ∈ ps) : Bs w p.1 p.2 := Sl.of_own (S.get h p hp)
/-- Pieces and a rest, and an error. -/
def MadeA3 (w : World) (X : List (List UInt8) × List UInt8) (E : Int) (e : Ending) (w' : World) : Prop := ∃ v1 v2 ps, e = .returned (.tuple #[v1, v2, .int .i64 E]) ∧ ps.map (·.2) = X.1 ∧ Has w w' [rowF v1 ps, row8 v2 X.2, allF ps]
theorem MadeF3.all {w w' : World} {X : List (List UInt8) × List UInt8} {E : Int} {e : Ending} (h : MadeF3 w X E e w') : MadeA3 w X E e w' := by
  obtain ⟨v1, v2, ps, he, hp, S⟩ := h
  refine ⟨v1, v2, ps, he, hp, ?_⟩
  have S2 : Has w w' (frs ps ++ [rowF v1 ps, row8 v2 X.2]) := S.perm (by
    have := List.perm_append_comm (l₁ := [rowF v1 ps, row8 v2 X.2]) (l₂ := frs ps)
    exact this)
  exact S2.toAll.perm ((List.Perm.swap _ _ _).trans (List.Perm.cons _ (List.Perm.swap _ _ _)))
theorem split_a (v : Value) (b : List UInt8) (w0 : World) (h : Bs w0 v b) (hl : b.length ≤ 4160) : Calls Tryd.prog 30 #[v] w0 (MadeA3 w0 (splitB b) 0) :=
  (split_s v b w0 h).mono fun e w' he => by
    rw [show spX b = splitB b from if_pos hl, show spE b.length = 0 from if_pos hl] at he
    exact he.all
end Go.Proofs.YtfhkmmagpnojmaaDoor

/- The examples that every outright row of wire asks first. No condition but the tables. -/
namespace Go.Proofs.YtfhkmmagpnojmaaDoor
open Go.RowKit

theorem build_rqK (k p q : Int) (w : World) : (Instr.build 69 #[(0, .int .u8 k), (2, .int .u8 p), (3, .int .u8 q)]).run Tryd.prog w = .ok (.agg ([Value.int .u8 k] ++ ([Value.int .u8 0, .int .u8 0, .int .u64 0, .int .u32 0] ++ zs32.map by8) ++ [Value.int .u8 p, .int .u8 q, .int .u32 0]).toArray) w := by kernel_rfl
set_option maxRecDepth 100000 in
/-- A request with a kind, a place and a count. -/
theorem step_buildRqK {ops : Array Oper} {rest : List Oper} {a : Act} {w : World} {Q : Exit → Act → World → Prop} {dst : Option Tmp} {ty : TypeId} {pos : String} {after : Array Edge} {gd : Option (Nat × Bool)} (x y z : Operand) (k p q : UInt8)
    (hx : a.eval x = by8 k) (hy : a.eval y = by8 p) (hz : a.eval z = by8 q)
    (hw : Region.wanted ⟨dst, .build 69 #[(0, x), (2, y), (3, z)], ty, pos, after, gd⟩ (yielded ops a.tmps) = true)
    (h : wpList Tryd.prog ops Q rest (a.put dst (.agg (rqL ⟨k, tokZ, p, q, 0⟩).toArray)) w) : wpList Tryd.prog ops Q (⟨dst, .build 69 #[(0, x), (2, y), (3, z)], ty, pos, after, gd⟩ :: rest) a w := by
  refine step_val (v := .agg (rqL ⟨k, tokZ, p, q, 0⟩).toArray) hw ?_ h
  have hp : (#[(0, x), (2, y), (3, z)].map fun (i, x) => (i, a.eval x)) = #[(0, .int .u8 (k.toNat : Int)), (2, .int .u8 (p.toNat : Int)), (3, .int .u8 (q.toNat : Int))] := by simp [hx, hy, hz]
  have := build_rqK k.toNat p.toNat q.toNat w
  simp only [execOp, hp, Sem.run_bind, this, Result.andThen_ok, Sem.run_pure]
  rfl
theorem build_rpK (k t n : Int) (w : World) : (Instr.build 79 #[(0, .int .u8 k), (2, .int .u64 t), (3, .int .i64 n)]).run Tryd.prog w = .ok (.agg ([Value.int .u8 k, .int .i64 0, .int .u64 t, .int .i64 n, .int .u8 0, .int .u64 0, .slice none 0 0, .int .i64 0, .int .u32 0, .slice none 0 0] ++ ([Value.int .u8 0, .int .u8 0, .int .u64 0, .int .u32 0] ++ zs32.map by8)).toArray) w := by kernel_rfl
def n5 : I64 := ⟨5, by omega⟩
def rp5 : Rp := { rpH 1 i64Z 3 with order := n5 }
theorem build_rp5 (w : World) : (Instr.build 79 #[(0, .int .u8 1), (2, .int .u64 3), (3, .int .i64 5)]).run Tryd.prog w = .ok (.agg (rpL rp5 nilV nilV).toArray) w := build_rpK 1 3 5 w
theorem build_lgZ (w : World) : (Instr.build 40 #[]).run Tryd.prog w = .ok (.agg (lgL lgZ nilV).toArray) w := by kernel_rfl
theorem build_ar32 (w : World) : (Instr.build 22 #[]).run Tryd.prog w = .ok (.agg (arr8 zs32)) w := by kernel_rfl
theorem step_buildRp5 {ops : Array Oper} {rest : List Oper} {a : Act} {w : World} {Q : Exit → Act → World → Prop} {dst : Option Tmp} {ty : TypeId} {pos : String} {after : Array Edge} {gd : Option (Nat × Bool)} (R : Rp) (hr : ∀ w, (Instr.build 79 #[(0, .int .u8 1), (2, .int .u64 3), (3, .int .i64 5)]).run Tryd.prog w = .ok (.agg (rpL R nilV nilV).toArray) w)
    (hw : Region.wanted ⟨dst, .build 79 #[(0, .const (.int .u8 1)), (2, .const (.int .u64 3)), (3, .const (.int .i64 5))], ty, pos, after, gd⟩ (yielded ops a.tmps) = true)
    (h : wpList Tryd.prog ops Q rest (a.put dst (.agg (rpL R nilV nilV).toArray)) w) : wpList Tryd.prog ops Q (⟨dst, .build 79 #[(0, .const (.int .u8 1)), (2, .const (.int .u64 3)), (3, .const (.int .i64 5))], ty, pos, after, gd⟩ :: rest) a w := by
  refine step_val (v := .agg (rpL R nilV nilV).toArray) hw ?_ h
  have hp : (#[(0, Operand.const (.int .u8 1)), (2, Operand.const (.int .u64 3)), (3, Operand.const (.int .i64 5))].map fun (i, x) => (i, a.eval x)) = #[(0, .int .u8 1), (2, .int .u64 3), (3, .int .i64 5)] := by simp [Act.eval]
  simp only [execOp, hp, Sem.run_bind, hr, Result.andThen_ok, Sem.run_pure]
def rq11 : Rq := ⟨1, tokZ, 2, 1, 0⟩
theorem rq11_v : rqV rq11 = true := rfl
theorem newR_all (g : Lg) (t : UInt64) (k : UInt8) (c : I64) (b : List UInt8) : (newR g t k c b).tick = t ∧ (newR g t k c b).kind = k ∧ (newR g t k c b).code = c ∧ (newR g t k c b).link = lnkD g.link t k c b := ⟨rfl, rfl, rfl, rfl⟩
theorem apR_all (g : Lg) (t : UInt64) (k : UInt8) (c : I64) (b : List UInt8) (h : apE g t k c b.length = 0) : (apR g t k c b).cnt = g.cnt + 1 ∧ (apR g t k c b).link = lnkD g.link t k c b ∧ (apR g t k c b).recs = keepR g.recs ++ [newR g t k c b] := by
  unfold apR
  rw [if_pos h]
  exact ⟨rfl, rfl, rfl⟩
theorem vfR_one (L : List UInt8) (x : Rcd) (b : List UInt8) (hv : rcdV x = true) (hb : b.length ≤ 64) (hl : lnkD L x.tick x.kind x.code b = x.link) : vfR L [x] [b] = (1, 0) := by
  have hc : chV [x] = true := by simp [chV, hv]
  have ha : ([b].any fun b => decide (64 < b.length)) = false := by simp; omega
  unfold vfR
  rw [if_neg (by simp), if_neg (by simp), hc, if_neg (by decide), ha, if_neg (by decide)]
  unfold vfN
  rw [hl, if_pos rfl]
  rfl
def fr02 : List UInt8 := [0, 2]
def d02 : List UInt8 := lnkD zs32 4 1 i64Z fr02
theorem d02_len : d02.length = 32 := sumD_length _
theorem d02_ne : d02 ≠ zs32 := by decide +kernel
theorem ap02 : apE lgZ 4 1 i64Z 2 = 0 := by decide
/-- The first record of a log, and the log. -/
structure Log02 (g : Lg) (x : Rcd) : Prop where
  cnt : g.cnt = 1
  link : g.link = d02
  recs : g.recs = [x]
  tick : x.tick = 4
  kind : x.kind = 1
  code : x.code = i64Z
  xl : x.link = d02
  vf : vfR zs32 [x] [fr02] = (1, 0)
theorem log02 : ∃ g x, apR lgZ 4 1 i64Z fr02 = g ∧ Log02 g x := by
  obtain ⟨h1, h2, h3⟩ := apR_all lgZ 4 1 i64Z fr02 ap02
  obtain ⟨g1, g2, g3, g4⟩ := newR_all lgZ 4 1 i64Z fr02
  have hz : lgZ.link = zs32 := rfl
  have hd : lnkD zs32 4 1 i64Z fr02 = d02 := by unfold d02; exact Eq.refl _
  rw [hz, hd] at h2 g4
  rw [show keepR lgZ.recs = [] from rfl, List.nil_append] at h3
  have hv : rcdV (newR lgZ 4 1 i64Z fr02) = true := by unfold rcdV; rw [g1, g2, g3]; decide
  have hl : lnkD zs32 (newR lgZ 4 1 i64Z fr02).tick (newR lgZ 4 1 i64Z fr02).kind (newR lgZ 4 1 i64Z fr02).code fr02 = (newR lgZ 4 1 i64Z fr02).link := by rw [g1, g2, g3, g4, hd]
  exact ⟨_, _, rfl, h1.trans (by decide), h2, h3, g1, g2, g3, g4, vfR_one _ _ _ hv (by decide) hl⟩
set_option maxRecDepth 100000 in
/-- A new slice of three byte slices. -/
theorem step_buildF3 {ops : Array Oper} {rest : List Oper} {a : Act} {w0 w : World} {l : List Res} {Q : Exit → Act → World → Prop} {dst : Option Tmp} {ty : TypeId} {pos : String} {after : Array Edge} {gd : Option (Nat × Bool)} (S : Has w0 w l) (x y z : Operand) (v1 v2 v3 : Value)
    (hx : a.eval x = v1) (hy : a.eval y = v2) (hz : a.eval z = v3) (h1 : v1.cells = #[v1]) (h2 : v2.cells = #[v2]) (h3 : v3.cells = #[v3])
    (hw : Region.wanted ⟨dst, .buildSlice 32 3 #[(0, x), (1, y), (2, z)], ty, pos, after, gd⟩ (yielded ops a.tmps) = true)
    (h : ∀ v' w', Has w0 w' (row v' 25 1 3 [v1, v2, v3] :: l) → wpList Tryd.prog ops Q rest (a.put dst v') w') : wpList Tryd.prog ops Q (⟨dst, .buildSlice 32 3 #[(0, x), (1, y), (2, z)], ty, pos, after, gd⟩ :: rest) a w :=
  step_buildL S 32 25 3 #[(0, x), (1, y), (2, z)] [v1, v2, v3] (.slice none 0 0) Tryd.underlying32 infoF2 rfl (by simp [hx, hy, hz]) rfl (fun u hu => by
    simp only [List.mem_cons, List.not_mem_nil, or_false] at hu
    rcases hu with rfl | rfl | rfl <;> assumption) (by decide) hw h
theorem Sl.rcd0 {w : World} {gr cr : Nat} {x : Rcd} (h : Sl w 35 (.slice (some ⟨gr, 0, none⟩) 1 cr) 1 ([x].flatMap rcdL)) : w.rangeAt gr 0 (rcdL x) := fun j v hj => by
  have := h.cellsAt j v (by simpa using hj)
  by_cases h0 : j = 0
  · subst h0; simpa [Addr.add] using this
  · simpa [Addr.add, h0] using this
theorem rcd_link {w : World} {gr : Nat} {x : Rcd} (h : w.rangeAt gr 0 (rcdL x)) : w.rangeAt gr 3 (x.link.map by8) := fun j v hj => by
  have := h (3 + j) v (by unfold rcdL; rw [List.getElem?_append_right (by simp)]; simpa using hj)
  rw [Nat.zero_add] at this
  exact this
theorem Has.frA {w0 w : World} {l F G : List Res} {v : Value} {ps : List (Value × List UInt8)} (S : Has w0 w l) (h : Pick l (rowF v ps) F) (h2 : Pick l (allF ps) G) : Fr w v ps := ⟨S.sl h, fun p hp => S.piece h2 p hp⟩
theorem fr3 {w : World} {v p q s : Value} {x y z : List UInt8} (h : Sl w 1 v 3 [p, q, s]) (h1 : Bs w p x) (h2 : Bs w q y) (h3 : Bs w s z) : Fr w v [(p, x), (q, y), (s, z)] := by
  refine ⟨h, fun u hu => ?_⟩
  simp only [List.mem_cons, List.not_mem_nil, or_false] at hu
  rcases hu with rfl | rfl | rfl <;> assumption
theorem fr1 {w : World} {v p : Value} {x : List UInt8} (h : Sl w 1 v 1 [p]) (h1 : Bs w p x) : Fr w v [(p, x)] := by
  refine ⟨h, fun u hu => ?_⟩
  simp only [List.mem_cons, List.not_mem_nil, or_false] at hu
  subst hu
  exact h1
theorem split10 : splitB [0, 3, 7, 0, 2, 0, 0, 0, 5, 1] = ([[0, 3, 7], [0, 2], [0, 0]], [0, 5, 1]) := by decide
theorem enc_rq11 : encRE rq11 = encR rq11 := if_pos rq11_v
theorem e_rq11 : rqE rq11 = 0 := if_pos rq11_v
theorem l_rq11 : (encR rq11).length = 51 := by decide
theorem h_rq11 : (encR rq11).take 3 = [0, 51, 1] := by decide
theorem t_rq11 : (encR rq11).drop 49 = [2, 1] := by decide
theorem enc_rp5 : encRp rp5 = [0, 15, 1, 0, 0, 0, 0, 0, 0, 0, 0, 0, 3, 0, 5] := by decide +kernel
theorem e_rp5 : rpE rp5 = 0 := by decide +kernel
theorem dE_rp5 : dpE [0, 15, 1, 0, 0, 0, 0, 0, 0, 0, 0, 0, 3, 0, 5] = 0 := by decide +kernel
theorem dR_rp5 : dpR [0, 15, 1, 0, 0, 0, 0, 0, 0, 0, 0, 0, 3, 0, 5] = rp5 := by decide +kernel
set_option maxRecDepth 100000 in
set_option maxHeartbeats 8000000 in
theorem alive_s (w0 : World) (hK : KT w0) : Calls Tryd.prog 29 #[] w0 fun e w' => e = .returned (.bool true) ∧ Has w0 w' [] := by
  have S := Has.start w0
  have p1 : ∀ v w, Bs w v [0, 3, 7, 0, 2, 0, 0, 0, 5, 1] → Calls Tryd.prog 30 #[v] w (MadeA3 w ([[0, 3, 7], [0, 2], [0, 0]], [0, 5, 1]) 0) := fun v w h => by
    have := split_a v _ w h (by decide)
    rw [split10] at this
    exact this
  have p2 : ∀ w, Calls Tryd.prog 32 #[.agg (rqL rq11).toArray] w (MadeE w (encR rq11) 0) := fun w => by
    have := encodeRequest_s rq11 w
    rw [enc_rq11, e_rq11] at this
    exact this
  have p3 : ∀ v w, Bs w v (encR rq11) → Calls Tryd.prog 34 #[v] w fun e w' => e = .returned (.tuple #[.agg (rqL rq11).toArray, .int .i64 0]) ∧ Has w w' [] := fun v w h => by
    have := decodeRequest_s v (encR rq11) w h (by rw [l_rq11]; decide)
    rw [dcR_encR rq11 rq11_v, dcE_encR rq11 rq11_v] at this
    exact this
  have p4 : ∀ w, Calls Tryd.prog 38 #[.agg (rpL rp5 nilV nilV).toArray] w (MadeE w [0, 15, 1, 0, 0, 0, 0, 0, 0, 0, 0, 0, 3, 0, 5] 0) := fun w => by
    have := encodeReply_s rp5 nilV nilV w (Sl.nil0 w 3) (Sl.nil0 w 35)
    rw [enc_rp5, e_rp5] at this
    exact this
  have p5 : ∀ v w, Bs w v [0, 15, 1, 0, 0, 0, 0, 0, 0, 0, 0, 0, 3, 0, 5] → Calls Tryd.prog 39 #[v] w fun e w' => ∃ vr vc, e = .returned (.tuple #[.agg (rpL rp5 vr vc).toArray, .int .i64 0]) ∧ Has w w' [rowSg vr rp5.robots, rowRc vc rp5.records] := fun v w h => by
    have := decodeReply_s v _ w h (by decide)
    rw [dE_rp5, dR_rp5] at this
    exact this
  obtain ⟨g, x, hg, hL⟩ := log02
  have p6 : ∀ bv w, Bs w bv [0, 2] → KT w → Calls Tryd.prog 21 #[.agg (lgL lgZ nilV).toArray, .int .u64 4, .int .u8 1, .int .i64 0, bv] w (MadeLg w g 0) := fun bv w h hk => by
    have := append_s lgZ nilV 4 1 i64Z bv fr02 w ⟨rfl, .inl ⟨none, rfl, rfl⟩⟩ h hk (by decide)
    rw [hg, show apE lgZ 4 1 i64Z fr02.length = 0 from ap02] at this
    exact this
  have p7 : ∀ rv fv pv w, Sl w 35 rv [x].length ([x].flatMap rcdL) → Fr w fv [(pv, [0, 2])] → KT w → Calls Tryd.prog 18 #[.agg (arr8 zs32), rv, fv] w fun e w' => e = .returned (.tuple #[.int .i64 1, .int .i64 0]) ∧ Has w w' [] := fun rv fv pv w h1 h2 h3 => by
    have := verify_s zs32 rv fv [x] [(pv, [0, 2])] w rfl h1 h2 h3
    rw [show ([(pv, [0, 2])].map (·.2) : List (List UInt8)) = [fr02] from rfl, hL.vf] at this
    exact this
  have q0 : (rqL rq11).toArray[0]? = some (.int .u8 1) := rfl
  have q2 : (rqL rq11).toArray[37]? = some (.int .u8 2) := rfl
  have q3 : (rqL rq11).toArray[38]? = some (.int .u8 1) := rfl
  have r2 : ∀ vr vc, (rpL rp5 vr vc).toArray[2]? = some (.int .u64 3) := fun _ _ => rfl
  have r3 : ∀ vr vc, (rpL rp5 vr vc).toArray[3]? = some (.int .i64 5) := fun _ _ => rfl
  have bz := build_rp5
  have lz := build_lgZ
  have az := build_ar32
  have j1 : ((encR rq11).length : Int) = 51 := by rw [l_rq11]; rfl
  have j2 : 3 ≤ (encR rq11).length := by rw [l_rq11]; decide
  have j3 : 49 ≤ (encR rq11).length := by rw [l_rq11]; decide
  have s1 : ((strB [0, 5, 1]).toList == [0, 5, 1]) = true := by rw [ByteArray.toList_eq, strB_list]; rfl
  have s2 : ((strB ((encR rq11).take 3)).toList == [0, 51, 1]) = true := by rw [ByteArray.toList_eq, strB_list, h_rq11]; rfl
  have s3 : ((strB ((encR rq11).drop 49)).toList == [2, 1]) = true := by rw [ByteArray.toList_eq, strB_list, t_rq11]; rfl
  have s4 : ((strB [0, 15, 1, 0, 0, 0, 0, 0, 0, 0, 0, 0, 3, 0, 5]).toList == [0, 15, 1, 0, 0, 0, 0, 0, 0, 0, 0, 0, 3, 0, 5]) = true := by rw [ByteArray.toList_eq, strB_list]; rfl
  generalize encR rq11 = X at p2 p3 j1 j2 j3 s2 s3
  obtain ⟨Q, hQ⟩ : ∃ Q, Q = rq11 := ⟨_, rfl⟩
  have hQ2 : (rqL ⟨1, tokZ, 2, 1, 0⟩).toArray = (rqL Q).toArray := by rw [hQ]; rfl
  rw [← hQ] at p2 p3 q0 q2 q3
  generalize rp5 = R at p4 p5 r2 r3 bz
  have HK := Lib.hid hK; have P1 := Lib.hid p1; have P2 := Lib.hid p2; have P3 := Lib.hid p3; have P4 := Lib.hid p4; have P5 := Lib.hid p5; have P6 := Lib.hid p6; have P7 := Lib.hid p7; have Q0 := Lib.hid q0; have Q2 := Lib.hid q2; have Q3 := Lib.hid q3; have R2 := Lib.hid r2; have R3 := Lib.hid r3; have J2 := Lib.hid j2; have J3 := Lib.hid j3; have HQ2 := Lib.hid hQ2; have HL := Lib.hid hL; have BZ := Lib.hid bz; have LZ := Lib.hid lz; have AZ := Lib.hid az; clear hK p1 p2 p3 p4 p5 p6 p7 q0 q2 q3 r2 r3 j2 j3 hQ2 hL bz lz az
  clear hg hQ
  go_enter Tryd.func29, Tryd.ntmps29
  go_upto_region 4 with (first | ((with_reducible refine iD 24 (.buildSlice 32 _ _) ?_); refine step_buildF3 S (.tmp 21) (.tmp 22) (.tmp 23) v21 v22 v23 rfl rfl rfl (one_sl (S.sl (v := v21) pk)).2 (one_sl (S.sl (v := v22) pk)).2 (one_sl (S.sl (v := v23) pk)).2 gw ?_; clear S; intro v24 w S) | ((with_reducible refine iD 12 (.buildSlice 25 _ _) ?_); refine step_build8 S 10 _ [0, 3, 7, 0, 2, 0, 0, 0, 5, 1] (by first | rfl | kernel_rfl) rfl (by decide) gw ?_; clear S; intro v12 w S) | (go_at_call 30; (with_reducible refine (P1.out _ _ (S.bs (v := v12) pk)).mono ?_); rintro e w1 ⟨v1, v2, ps, rfl, hps, T⟩; replace S := S.call T; clear T; (try simp only [z4, z5] at S); have HPS := Lib.hid hps; clear hps) | ((with_reducible refine iD 21 (.buildSlice 25 _ _) ?_); refine step_build8 S 3 _ [0, 3, 7] (by first | rfl | kernel_rfl) rfl (by decide) gw ?_; clear S; intro v21 w S) | ((with_reducible refine iD 22 (.buildSlice 25 _ _) ?_); refine step_build8 S 2 _ [0, 2] (by first | rfl | kernel_rfl) rfl (by decide) gw ?_; clear S; intro v22 w S) | ((with_reducible refine iD 23 (.buildSlice 25 _ _) ?_); refine step_build8 S 2 _ [0, 0] (by first | rfl | kernel_rfl) rfl (by decide) gw ?_; clear S; intro v23 w S) | (go_at_call 31; (with_reducible refine (sameF_s _ _ ps [(v21, [0, 3, 7]), (v22, [0, 2]), (v23, [0, 0])] _ (S.frA (v := v1) (ps := ps) pk pk) (fr3 (S.sl (v := v24) pk) (S.bs (v := v21) pk) (S.bs (v := v22) pk) (S.bs (v := v23) pk))).mono ?_); rintro e w1 ⟨rfl, T⟩; replace S := S.call T; clear T; (try simp only [z4, z5] at S); rw [show decide (List.map (fun x => x.snd) ps = List.map (fun x => x.snd) ([(v21, [0, 3, 7]), (v22, [0, 2]), (v23, [0, 0])] : List (Value × List UInt8))) = true from decide_eq_true HPS.out]) | ((with_reducible refine iO _ (.convert 25 9 _) ?_); refine step_conv 25 9 5 _ _ _ rfl Tryd.underlying25 Tryd.underlying5 Tryd.underlying9 bS gw ?_) | fail)
  have S := S.nil
  go_upto_region 8 with (first | ((with_reducible refine iD 34 (.build 69 _) ?_); refine step_buildRqK _ _ _ 1 2 1 rfl rfl rfl gw ?_; rw [HQ2.out]) | ((with_reducible refine iD 53 (.convert 25 9 _) ?_); refine step_conv 25 9 5 (.tmp 52) _ (X.take 3) rfl Tryd.underlying25 Tryd.underlying5 Tryd.underlying9 (Bs.cutH (S.bs (v := .slice a4 X.length c4) pk) 3 J2.out rfl) gw ?_) | ((with_reducible refine iD 59 (.convert 25 9 _) ?_); refine step_conv 25 9 5 (.tmp 58) _ (X.drop 49) rfl Tryd.underlying25 Tryd.underlying5 Tryd.underlying9 (Bs.cutL (S.bs (v := .slice a4 X.length c4) pk) 49 J3.out rfl) gw ?_) | (go_at_call 32; (with_reducible refine (P2.out _).mono ?_); rintro e w1 ⟨v4, rfl, T⟩; replace S := S.call T; clear T; (try simp only [z4, z5] at S); obtain ⟨a4, c4, rfl, _, _⟩ := Sl.shape (S.bs (v := v4) pk)) | (go_at_call 34; (with_reducible refine (P3.out _ _ (S.bs (v := .slice a4 X.length c4) pk)).mono ?_); rintro e w1 ⟨rfl, T⟩; replace S := S.call T; clear T; (try simp only [z4, z5] at S)) | ((with_reducible refine iD 5 (.alloc 69) ?_); refine step_alloc (dst := some 5) S 69 (.agg ((rqL rqZ).toArray)) ((rqL rqZ).toArray) kR rfl gw ?_; clear S; intro g5 w S) | ((with_reducible refine iO none (.store 69 (.tmp 5) (.tmp 41)) ?_); refine step_store S 69 (.tmp 5) (.tmp 41) _ _ rfl rfl _ _ pk 40 kR lN lN on1 gw ?_; clear S; intro w S) | ((with_reducible refine iO _ (.slice 25 _ _ _ _) ?_); refine step_cutH 25 5 1 _ _ _ _ _ _ _ 3 rfl rfl (by first | rfl | omega) (by first | (first | omega | assumption | (exact Hid.out (by assumption)) | (simp only [List.length_append, List.length_cons, List.length_nil]; omega)) | decide) Tryd.underlying25 kR gw ?_) | ((with_reducible refine iO _ (.slice 25 _ _ _ _) ?_); refine step_cutL 25 5 1 _ _ _ _ _ _ _ 49 rfl rfl (by first | rfl | omega) (by first | (first | omega | assumption | (exact Hid.out (by assumption)) | (simp only [List.length_append, List.length_cons, List.length_nil]; omega)) | decide) Tryd.underlying25 kR gw ?_) | ((with_reducible refine iO _ (.load 5 _) ?_); refine step_load1 5 _ _ _ rfl (cL) _ Tryd.underlying5 rfl gw ?_) | fail)
  have S := S.nil
  go_upto_region 12 with (first | ((with_reducible refine iD 82 (.build 79 _) ?_); refine step_buildRp5 R BZ.out gw ?_) | (go_at_call 39; (with_reducible refine (P5.out _ _ (S.bs (v := v7) pk)).mono ?_); rintro e w1 ⟨xr, xc, rfl, T⟩; replace S := S.call T; clear T; (try simp only [z4, z5] at S); have OX := Lib.hid (rpL_one R xr xc (one_sl (S.sl (v := xr) pk)).1 (one_sl (S.sl (v := xc) pk)).1); have R2X := Lib.hid (R2.out xr xc); have R3X := Lib.hid (R3.out xr xc)) | ((with_reducible refine iO none (.store 79 (.tmp 8) (.tmp 89)) ?_); refine step_store S 79 (.tmp 8) (.tmp 89) g8 _ rfl rfl _ _ pk 46 kR (rpL_size _ _ _) (rpL_size _ _ _) OX.out gw ?_; clear S; intro w S) | ((with_reducible refine iO _ (.convert 25 9 _) ?_); refine step_conv 25 9 5 _ _ _ rfl Tryd.underlying25 Tryd.underlying5 Tryd.underlying9 bS gw ?_) | (go_at_call 38; (with_reducible refine (P4.out _).mono ?_); rintro e w1 ⟨v7, rfl, T⟩; replace S := S.call T; clear T; (try simp only [z4, z5] at S)) | ((with_reducible refine iD 8 (.alloc 79) ?_); refine step_alloc (dst := some 8) S 79 (.agg ((rpL rpZ (.slice none 0 0) (.slice none 0 0)).toArray)) ((rpL rpZ (.slice none 0 0) (.slice none 0 0)).toArray) kR rfl gw ?_; clear S; intro g8 w S) | ((with_reducible refine iO _ (.load 3 _) ?_); refine step_load1 3 _ _ _ rfl (cL) _ Tryd.underlying3 rfl gw ?_) | ((with_reducible refine iO _ (.load 23 _) ?_); refine step_load1 23 _ _ _ rfl (cL) _ Tryd.underlying23 rfl gw ?_) | fail)
  have S := S.nil
  obtain ⟨e1, e2, e3, k1, k2, k3, k4, _⟩ := HL.out
  have l0 : ∀ rv, (lgL g rv).toArray[0]? = some (.int .u32 1) := fun rv => by rw [lgL_0, e1]; rfl
  have l33 : ∀ rv, (lgL g rv).toArray[33]? = some rv := lgL_33 g
  have lk : ∀ rv, (((lgL g rv).toArray.toList.drop 1).take 32).toArray = arr8 d02 := fun rv => by rw [lgL_link, e2]
  have L0 := Lib.hid l0; have L33 := Lib.hid l33; have LK := Lib.hid lk; have E3 := Lib.hid e3; have K1 := Lib.hid k1; have K2 := Lib.hid k2; have K3 := Lib.hid k3; have K4 := Lib.hid k4; clear l0 l33 lk e3 k1 k2 k3 k4
  clear e1 e2
  go_upto_region 14 with (first | ((with_reducible refine iO none (.store 40 (.tmp 9) (.tmp 116)) ?_); refine step_store S 40 (.tmp 9) (.tmp 116) _ _ rfl rfl _ _ pk 34 kR (lgL_size _ _) (lgL_size _ _) (lgL_one _ _ (one_sl (S.sl (v := rv) pk)).1) gw ?_; clear S; intro w S) | ((with_reducible refine iD 113 (.build 40 _) ?_); refine step_buildZ 40 _ LZ.out gw ?_) | ((with_reducible refine iD 119 (.build 22 _) ?_); refine step_buildZ 22 _ AZ.out gw ?_) | ((with_reducible refine iD 123 (.buildSlice 32 _ _) ?_); refine step_buildF1 S (.tmp 122) v122 rfl (one_sl (S.sl (v := v122) pk)).2 gw ?_; clear S; intro v123 w S) | ((with_reducible refine iD 121 (.load 31 _) ?_); refine step_load1 31 (.tmp 120) _ rv rfl (S.cell (g := g9) pk (L33.out rv)) _ Tryd.underlying31 rfl gw ?_) | ((with_reducible refine iD 114 (.buildSlice 25 _ _) ?_); refine step_build8 S 2 _ [0, 2] (by first | rfl | kernel_rfl) rfl (by decide) gw ?_; clear S; intro v114 w S) | (go_at_call 21; (with_reducible refine (P6.out _ _ (S.bs (v := v114) pk) kT).mono ?_); rintro e w1 ⟨rv, rfl, T⟩; replace S := S.call T; clear T; (try simp only [z4, z5] at S); rw [E3.out] at S) | ((with_reducible refine iD 9 (.alloc 40) ?_); refine step_alloc (dst := some 9) S 40 (.agg ((lgL lgZ (.slice none 0 0)).toArray)) ((lgL lgZ (.slice none 0 0)).toArray) kR rfl gw ?_; clear S; intro g9 w S) | ((with_reducible refine iD 122 (.buildSlice 25 _ _) ?_); refine step_build8 S 2 _ [0, 2] (by first | rfl | kernel_rfl) rfl (by decide) gw ?_; clear S; intro v122 w S) | (go_at_call 18; (with_reducible refine (P7.out rv v123 v122 _ (S.sl (v := rv) pk) (fr1 (S.sl (v := v123) pk) (S.bs (v := v122) pk)) kT).mono ?_); rintro e w1 ⟨rfl, T⟩; replace S := S.call T; clear T; (try simp only [z4, z5] at S)) | fail)
  have S := S.sub (show Sub _ [blk g9 (.cells (lgL g rv).toArray 40 (0, 0)), rowRc rv [x]] from (by repeat (first | exact Sub.nil _ | refine Sub.cons pk ?_)))
  obtain ⟨gr, cr, rfl, _⟩ := S.row_at (v := rv) pk (by simp)
  have S : Has w0 w1 [blk g9 (.cells (lgL g (.slice (some ⟨gr, 0, none⟩) 1 cr)).toArray 40 (0, 0)), rowRc (.slice (some ⟨gr, 0, none⟩) 1 cr) [x]] := S
  have k0 : ∀ w, Sl w 35 (.slice (some ⟨gr, 0, none⟩) 1 cr) 1 ([x].flatMap rcdL) → w.cell? ⟨gr, 0, none⟩ = some (.int .u64 4) := fun w h => by
    have := h.rcd0 0 _ (rcdL_0 x)
    rw [K1.out] at this
    exact this
  have k1 : ∀ w, Sl w 35 (.slice (some ⟨gr, 0, none⟩) 1 cr) 1 ([x].flatMap rcdL) → w.cell? ⟨gr, 1, none⟩ = some (.int .u8 1) := fun w h => by
    have := h.rcd0 1 _ (rcdL_1 x)
    rw [K2.out] at this
    exact this
  have k3 : ∀ w, Sl w 35 (.slice (some ⟨gr, 0, none⟩) 1 cr) 1 ([x].flatMap rcdL) → w.rangeAt gr 3 (d02.map by8) := fun w h => by
    have := rcd_link h.rcd0
    rw [K4.out] at this
    exact this
  have q1 : ∀ w, (binOp .eql 22 (.agg (arr8 d02)) (.agg (arr8 d02))).run Tryd.prog w = .ok (.bool true) w := fun w => by rw [eql32 _ _ d02_len d02_len, decide_eq_true rfl]
  have q4 : ∀ w, (binOp .neq 22 (.agg (arr8 d02)) (.agg (arr8 zs32))).run Tryd.prog w = .ok (.bool true) w := fun w => by rw [neq32 _ _ d02_len rfl, decide_eq_true d02_ne]
  have eg : Tryd.prog.eqGuardType Tryd.prog.depth 22 = false := by kernel_rfl
  have az := AZ.out
  have m0 := L0.out (.slice (some ⟨gr, 0, none⟩) 1 cr)
  have m33 := L33.out (.slice (some ⟨gr, 0, none⟩) 1 cr)
  have ms := lgL_size g (.slice (some ⟨gr, 0, none⟩) 1 cr)
  obtain ⟨C, hC⟩ : ∃ C, C = (lgL g (.slice (some ⟨gr, 0, none⟩) 1 cr)).toArray := ⟨_, rfl⟩
  have mk : ((C.toList.drop 1).take 32).toArray = arr8 d02 := by rw [hC]; exact LK.out _
  rw [← hC] at S m0 m33 ms
  clear hC
  have hdl := d02_len
  have K0 := Lib.hid k0; have K1 := Lib.hid k1; have K3 := Lib.hid k3; have M0 := Lib.hid m0; have M33 := Lib.hid m33; have MK := Lib.hid mk; have MS := Lib.hid ms; have HDL := Lib.hid hdl; clear k0 k1 k3 m0 m33 mk ms hdl
  refine wp_rely S [sv [] (.int .i64 0), sv [0] (.bool true), sv [0, 1] (.bool true), sv [0, 1, 2] (.pointer (some ⟨g9, 0, none⟩)), sv [0, 1, 2, 3] (.int .u32 1), sv [0, 1, 2, 3, 4] (.bool true), sv [0, 1, 2, 3, 4, 5] (.bool true), sv [0, 1, 2, 3, 4, 5, 6] (.bool true), sv [0, 1, 2, 3, 4, 5, 6, 7] (.pointer (some ⟨g9, 33, none⟩)), sv [0, 1, 2, 3, 4, 5, 6, 7, 8] (.slice (some ⟨gr, 0, none⟩) 1 cr), sv [0, 1, 2, 3, 4, 5, 6, 7, 8, 9] (.int .i64 1), sv [0, 1, 2, 3, 4, 5, 6, 7, 8, 9, 10] (.bool true), sv [0, 1, 2, 3, 4, 5, 6, 7, 8, 9, 10, 11] (.bool true), sv [0, 1, 2, 3, 4, 5, 6, 7, 8, 9, 10, 11, 12] (.bool true), sv [0, 1, 2, 3, 4, 5, 6, 7, 8, 9, 10, 11, 12, 13] (.pointer (some ⟨g9, 33, none⟩)), sv [0, 1, 2, 3, 4, 5, 6, 7, 8, 9, 10, 11, 12, 13, 14] (.slice (some ⟨gr, 0, none⟩) 1 cr), sv [0, 1, 2, 3, 4, 5, 6, 7, 8, 9, 10, 11, 12, 13, 14, 15] (.pointer (some ⟨gr, 0, none⟩)), sv [0, 1, 2, 3, 4, 5, 6, 7, 8, 9, 10, 11, 12, 13, 14, 15, 16] (.pointer (some ⟨gr, 0, none⟩)), sv [0, 1, 2, 3, 4, 5, 6, 7, 8, 9, 10, 11, 12, 13, 14, 15, 16, 17] (.int .u64 4), sv [0, 1, 2, 3, 4, 5, 6, 7, 8, 9, 10, 11, 12, 13, 14, 15, 16, 17, 18] (.bool true), sv [0, 1, 2, 3, 4, 5, 6, 7, 8, 9, 10, 11, 12, 13, 14, 15, 16, 17, 18, 19] (.bool true), sv [0, 1, 2, 3, 4, 5, 6, 7, 8, 9, 10, 11, 12, 13, 14, 15, 16, 17, 18, 19, 20] (.bool true), sv [0, 1, 2, 3, 4, 5, 6, 7, 8, 9, 10, 11, 12, 13, 14, 15, 16, 17, 18, 19, 20, 21] (.pointer (some ⟨g9, 33, none⟩)), sv [0, 1, 2, 3, 4, 5, 6, 7, 8, 9, 10, 11, 12, 13, 14, 15, 16, 17, 18, 19, 20, 21, 22] (.slice (some ⟨gr, 0, none⟩) 1 cr), sv [0, 1, 2, 3, 4, 5, 6, 7, 8, 9, 10, 11, 12, 13, 14, 15, 16, 17, 18, 19, 20, 21, 22, 23] (.pointer (some ⟨gr, 0, none⟩)), sv [0, 1, 2, 3, 4, 5, 6, 7, 8, 9, 10, 11, 12, 13, 14, 15, 16, 17, 18, 19, 20, 21, 22, 23, 24] (.pointer (some ⟨gr, 1, none⟩)), sv [0, 1, 2, 3, 4, 5, 6, 7, 8, 9, 10, 11, 12, 13, 14, 15, 16, 17, 18, 19, 20, 21, 22, 23, 24, 25] (.int .u8 1), sv [0, 1, 2, 3, 4, 5, 6, 7, 8, 9, 10, 11, 12, 13, 14, 15, 16, 17, 18, 19, 20, 21, 22, 23, 24, 25, 26] (.bool true), sv [0, 1, 2, 3, 4, 5, 6, 7, 8, 9, 10, 11, 12, 13, 14, 15, 16, 17, 18, 19, 20, 21, 22, 23, 24, 25, 26, 27] (.bool true), sv [0, 1, 2, 3, 4, 5, 6, 7, 8, 9, 10, 11, 12, 13, 14, 15, 16, 17, 18, 19, 20, 21, 22, 23, 24, 25, 26, 27, 28] (.bool true), sv [0, 1, 2, 3, 4, 5, 6, 7, 8, 9, 10, 11, 12, 13, 14, 15, 16, 17, 18, 19, 20, 21, 22, 23, 24, 25, 26, 27, 28, 29] (.pointer (some ⟨g9, 1, none⟩)), sv [0, 1, 2, 3, 4, 5, 6, 7, 8, 9, 10, 11, 12, 13, 14, 15, 16, 17, 18, 19, 20, 21, 22, 23, 24, 25, 26, 27, 28, 29, 30] (.agg (arr8 d02)), sv [0, 1, 2, 3, 4, 5, 6, 7, 8, 9, 10, 11, 12, 13, 14, 15, 16, 17, 18, 19, 20, 21, 22, 23, 24, 25, 26, 27, 28, 29] (.pointer (some ⟨g9, 33, none⟩)), sv [0, 1, 2, 3, 4, 5, 6, 7, 8, 9, 10, 11, 12, 13, 14, 15, 16, 17, 18, 19, 20, 21, 22, 23, 24, 25, 26, 27, 28, 29, 32] (.slice (some ⟨gr, 0, none⟩) 1 cr), sv [0, 1, 2, 3, 4, 5, 6, 7, 8, 9, 10, 11, 12, 13, 14, 15, 16, 17, 18, 19, 20, 21, 22, 23, 24, 25, 26, 27, 28, 29, 32, 33] (.pointer (some ⟨gr, 0, none⟩)), sv [0, 1, 2, 3, 4, 5, 6, 7, 8, 9, 10, 11, 12, 13, 14, 15, 16, 17, 18, 19, 20, 21, 22, 23, 24, 25, 26, 27, 28, 29, 32, 33, 34] (.pointer (some ⟨gr, 3, none⟩)), sv [0, 1, 2, 3, 4, 5, 6, 7, 8, 9, 10, 11, 12, 13, 14, 15, 16, 17, 18, 19, 20, 21, 22, 23, 24, 25, 26, 27, 28, 29, 32, 33, 34, 35] (.agg (arr8 d02)), sv [0, 1, 2, 3, 4, 5, 6, 7, 8, 9, 10, 11, 12, 13, 14, 15, 16, 17, 18, 19, 20, 21, 22, 23, 24, 25, 26, 27, 28, 29, 30, 31, 32, 33, 34, 35, 36] (.bool true), sv [0, 1, 2, 3, 4, 5, 6, 7, 8, 9, 10, 11, 12, 13, 14, 15, 16, 17, 18, 19, 20, 21, 22, 23, 24, 25, 26, 27, 28, 29, 30, 31, 32, 33, 34, 35, 36, 37] (.bool true), sv [0, 1, 2, 3, 4, 5, 6, 7, 8, 9, 10, 11, 12, 13, 14, 15, 16, 17, 18, 19, 20, 21, 22, 23, 24, 25, 26, 27, 28, 29, 30, 31, 32, 33, 34, 35, 36, 37, 38] (.bool true), sv [0, 1, 2, 3, 4, 5, 6, 7, 8, 9, 10, 11, 12, 13, 14, 15, 16, 17, 18, 19, 20, 21, 22, 23, 24, 25, 26, 27, 28, 29, 30, 31, 32, 33, 34, 35, 36, 37, 38, 39] (.pointer (some ⟨g9, 1, none⟩)), sv [0, 1, 2, 3, 4, 5, 6, 7, 8, 9, 10, 11, 12, 13, 14, 15, 16, 17, 18, 19, 20, 21, 22, 23, 24, 25, 26, 27, 28, 29, 30, 31, 32, 33, 34, 35, 36, 37, 38, 39, 40] (.agg (arr8 d02)), sv [0, 1, 2, 3, 4, 5, 6, 7, 8, 9, 10, 11, 12, 13, 14, 15, 16, 17, 18, 19, 20, 21, 22, 23, 24, 25, 26, 27, 28, 29, 30, 31, 32, 33, 34, 35, 36, 37, 38, 39] (.agg (arr8 zs32)), sv [0, 1, 2, 3, 4, 5, 6, 7, 8, 9, 10, 11, 12, 13, 14, 15, 16, 17, 18, 19, 20, 21, 22, 23, 24, 25, 26, 27, 28, 29, 30, 31, 32, 33, 34, 35, 36, 37, 38, 39, 40, 41, 42] (.bool true), sv [0, 1, 2, 3, 4, 5, 6, 7, 8, 9, 10, 11, 12, 13, 14, 15, 16, 17, 18, 19, 20, 21, 22, 23, 24, 25, 26, 27, 28, 29, 30, 31, 32, 33, 34, 35, 36, 37, 38, 39, 40, 41, 42, 43] (.bool true), sv [0, 1, 2, 3, 4, 5, 6, 7, 8, 9, 10, 11, 12, 13, 14, 15, 16, 17, 18, 19, 20, 21, 22, 23, 24, 25, 26, 27, 28, 29, 30, 31, 32, 33, 34, 35, 36, 37, 38, 39, 40, 41, 42, 43, 44] (.bool true), sv [0, 1, 2, 3, 4, 5, 6, 7, 8, 9, 10, 11, 12, 13, 14, 15, 16, 17, 18, 19, 20, 21, 22, 23, 24, 25, 26, 27, 28, 29, 30, 31, 32, 33, 34, 35, 36, 37, 38, 39, 40, 41, 42, 43, 44, 45] (.int .i64 0), sv [0, 1, 2, 3, 4, 5, 6, 7, 8, 9, 10, 11, 12, 13, 14, 15, 16, 17, 18, 19, 20, 21, 22, 23, 24, 25, 26, 27, 28, 29, 30, 31, 32, 33, 34, 35, 36, 37, 38, 39, 40, 41, 42, 43, 44, 45, 46] (.bool true), sv [0, 1, 2, 3, 4, 5, 6, 7, 8, 9, 10, 11, 12, 13, 14, 15, 16, 17, 18, 19, 20, 21, 22, 23, 24, 25, 26, 27, 28, 29, 30, 31, 32, 33, 34, 35, 36, 37, 38, 39, 40, 41, 42, 43, 44, 45, 46, 47] (.bool true), sv [0, 1, 2, 3, 4, 5, 6, 7, 8, 9, 10, 11, 12, 13, 14, 15, 16, 17, 18, 19, 20, 21, 22, 23, 24, 25, 26, 27, 28, 29, 30, 31, 32, 33, 34, 35, 36, 37, 38, 39, 40, 41, 42, 43, 44, 45, 46, 47, 48] (.bool true), sv [0, 1, 2, 3, 4, 5, 6, 7, 8, 9, 10, 11, 12, 13, 14, 15, 16, 17, 18, 19, 20, 21, 22, 23, 24, 25, 26, 27, 28, 29, 30, 31, 32, 33, 34, 35, 36, 37, 38, 39, 40, 41, 42, 43, 44, 45, 46, 47, 48, 49] (.int .i64 1), sv [0, 1, 2, 3, 4, 5, 6, 7, 8, 9, 10, 11, 12, 13, 14, 15, 16, 17, 18, 19, 20, 21, 22, 23, 24, 25, 26, 27, 28, 29, 30, 31, 32, 33, 34, 35, 36, 37, 38, 39, 40, 41, 42, 43, 44, 45, 46, 47, 48, 49, 50] (.bool true), sv [0, 1, 2, 3, 4, 5, 6, 7, 8, 9, 10, 11, 12, 13, 14, 15, 16, 17, 18, 19, 20, 21, 22, 23, 24, 25, 26, 27, 28, 29, 30, 31, 32, 33, 34, 35, 36, 37, 38, 39, 40, 41, 42, 43, 44, 45, 46, 47, 48, 49, 50, 51] (.bool true), sv [0, 1, 2, 3, 4, 5, 6, 7, 8, 9, 10, 11, 12, 13, 14, 15, 16, 17, 18, 19, 20, 21, 22, 23, 24, 25, 26, 27, 28, 29, 30, 31, 32, 33, 34, 35, 36, 37, 38, 39, 40, 41, 42, 43, 44, 45, 46, 47, 48, 49, 50, 51, 52] (.bool true)] ?A1 ?hA1 kR kR kR [0, 1, 2, 3, 4, 5, 6, 7, 8, 9, 10, 11, 12, 13, 14, 15, 16, 17, 18, 19, 20, 21, 22, 23, 24, 25, 26, 27, 28, 29, 30, 31, 32, 33, 34, 35, 36, 37, 38, 39, 40, 41, 42, 43, 44, 45, 46, 47, 48, 49, 50, 51, 52, 53] kR ?hok1 ?fin1
  case hA1 => intro u; simp only [putAll, List.length_cons, List.length_nil, Nat.zero_add, Nat.reduceAdd, dstAt, List.getElem?_toArray, List.getElem?_cons_zero, List.getElem?_cons_succ, Option.bind_some, Act.put, List.setIfInBounds_toArray, List.set_cons_zero, List.set_cons_succ]; rfl
  case hok1 =>
    intro i hi
    obtain rfl | rfl | rfl | rfl | rfl | rfl | rfl | rfl | rfl | rfl | rfl | rfl | rfl | rfl | rfl | rfl | rfl | rfl | rfl | rfl | rfl | rfl | rfl | rfl | rfl | rfl | rfl | rfl | rfl | rfl | rfl | rfl | rfl | rfl | rfl | rfl | rfl | rfl | rfl | rfl | rfl | rfl | rfl | rfl | rfl | rfl | rfl | rfl | rfl | rfl | rfl | rfl | rfl | rfl : i = 0 ∨ i = 1 ∨ i = 2 ∨ i = 3 ∨ i = 4 ∨ i = 5 ∨ i = 6 ∨ i = 7 ∨ i = 8 ∨ i = 9 ∨ i = 10 ∨ i = 11 ∨ i = 12 ∨ i = 13 ∨ i = 14 ∨ i = 15 ∨ i = 16 ∨ i = 17 ∨ i = 18 ∨ i = 19 ∨ i = 20 ∨ i = 21 ∨ i = 22 ∨ i = 23 ∨ i = 24 ∨ i = 25 ∨ i = 26 ∨ i = 27 ∨ i = 28 ∨ i = 29 ∨ i = 30 ∨ i = 31 ∨ i = 32 ∨ i = 33 ∨ i = 34 ∨ i = 35 ∨ i = 36 ∨ i = 37 ∨ i = 38 ∨ i = 39 ∨ i = 40 ∨ i = 41 ∨ i = 42 ∨ i = 43 ∨ i = 44 ∨ i = 45 ∨ i = 46 ∨ i = 47 ∨ i = 48 ∨ i = 49 ∨ i = 50 ∨ i = 51 ∨ i = 52 ∨ i = 53 := by simp only [List.length_cons, List.length_nil, Nat.zero_add, Nat.reduceAdd] at hi; omega
    · exact oP []
    · exact oP [0]
    · exact oP [1]
    · exact oG [2]
    · clear hi
      refine step_of_g rfl rfl ?_
      intro u G w hf S
      have f2 : u 2 = (.bool true) := hf 2 (by simp)
      have f3 : u 3 = .pointer (some ⟨g9, 0, none⟩) := hf 3 (by simp)
      simp only [fl, z4, z5, z6, z7, ptrBlk] at S ⊢
      simp only [f2, f3]
      refine ⟨rfl, ?_⟩
      refine does_load1 38 (.tmp 130) _ _ rfl (S.cell (g := g9) pk co) _ Tryd.underlying38 rfl ?_; exact ⟨rfl, S⟩
    · exact oG [2, 4]
    · exact oP [2, 5]
    · exact oP [6]
    · exact oG [7]
    · clear hi
      refine step_of_g rfl rfl ?_
      intro u G w hf S
      have f7 : u 7 = (.bool true) := hf 7 (by simp)
      have f8 : u 8 = .pointer (some ⟨g9, 33, none⟩) := hf 8 (by simp)
      simp only [fl, z4, z5, z6, z7, ptrBlk] at S ⊢
      simp only [f7, f8]
      refine ⟨rfl, ?_⟩
      refine does_load1 31 (.tmp 135) _ _ rfl (S.cell (g := g9) pk co) _ Tryd.underlying31 rfl ?_; exact ⟨rfl, S⟩
    · exact oG [7, 9]
    · exact oG [7, 10]
    · exact oP [7, 11]
    · exact oP [12]
    · exact oG [13]
    · clear hi
      refine step_of_g rfl rfl ?_
      intro u G w hf S
      have f13 : u 13 = (.bool true) := hf 13 (by simp)
      have f14 : u 14 = .pointer (some ⟨g9, 33, none⟩) := hf 14 (by simp)
      simp only [fl, z4, z5, z6, z7, ptrBlk] at S ⊢
      simp only [f13, f14]
      refine ⟨rfl, ?_⟩
      refine does_load1 31 (.tmp 141) _ _ rfl (S.cell (g := g9) pk co) _ Tryd.underlying31 rfl ?_; exact ⟨rfl, S⟩
    · exact oG [13, 15]
    · exact oG [13, 16]
    · clear hi
      refine step_of_g rfl rfl ?_
      intro u G w hf S
      have f13 : u 13 = (.bool true) := hf 13 (by simp)
      have f17 : u 17 = .pointer (some ⟨gr, 0, none⟩) := hf 17 (by simp)
      simp only [fl, z4, z5, z6, z7, ptrBlk] at S ⊢
      simp only [f13, f17]
      refine ⟨rfl, ?_⟩
      refine does_load1 23 (.tmp 144) _ _ rfl (K0.out w (S.sl (v := .slice (some ⟨gr, 0, none⟩) 1 cr) pk)) _ Tryd.underlying23 rfl ?_; exact ⟨rfl, S⟩
    · exact oG [13, 18]
    · exact oP [13, 19]
    · exact oP [20]
    · exact oG [21]
    · clear hi
      refine step_of_g rfl rfl ?_
      intro u G w hf S
      have f21 : u 21 = (.bool true) := hf 21 (by simp)
      have f22 : u 22 = .pointer (some ⟨g9, 33, none⟩) := hf 22 (by simp)
      simp only [fl, z4, z5, z6, z7, ptrBlk] at S ⊢
      simp only [f21, f22]
      refine ⟨rfl, ?_⟩
      refine does_load1 31 (.tmp 149) _ _ rfl (S.cell (g := g9) pk co) _ Tryd.underlying31 rfl ?_; exact ⟨rfl, S⟩
    · exact oG [21, 23]
    · exact oG [21, 24]
    · clear hi
      refine step_of_g rfl rfl ?_
      intro u G w hf S
      have f21 : u 21 = (.bool true) := hf 21 (by simp)
      have f25 : u 25 = .pointer (some ⟨gr, 1, none⟩) := hf 25 (by simp)
      simp only [fl, z4, z5, z6, z7, ptrBlk] at S ⊢
      simp only [f21, f25]
      refine ⟨rfl, ?_⟩
      refine does_load1 5 (.tmp 152) _ _ rfl (K1.out w (S.sl (v := .slice (some ⟨gr, 0, none⟩) 1 cr) pk)) _ Tryd.underlying5 rfl ?_; exact ⟨rfl, S⟩
    · exact oG [21, 26]
    · exact oP [21, 27]
    · exact oP [28]
    · exact oG [29]
    · clear hi
      refine step_of_g rfl rfl ?_
      intro u G w hf S
      have f29 : u 29 = (.bool true) := hf 29 (by simp)
      have f30 : u 30 = .pointer (some ⟨g9, 1, none⟩) := hf 30 (by simp)
      simp only [fl, z4, z5, z6, z7, ptrBlk] at S ⊢
      simp only [f29, f30]
      refine ⟨rfl, ?_⟩
      refine does_loadP S 22 (.tmp 157) g9 1 rfl 40 C (0, 0) pk 32 (arr8 d02) MK.out (by rw [arr8_size]; exact d02_len) _ Tryd.underlying22 rfl kR ?_; exact ⟨rfl, S⟩
    · exact oG [29]
    · clear hi
      refine step_of_g rfl rfl ?_
      intro u G w hf S
      have f29 : u 29 = (.bool true) := hf 29 (by simp)
      have f32 : u 32 = .pointer (some ⟨g9, 33, none⟩) := hf 32 (by simp)
      simp only [fl, z4, z5, z6, z7, ptrBlk] at S ⊢
      simp only [f29, f32]
      refine ⟨rfl, ?_⟩
      refine does_load1 31 (.tmp 159) _ _ rfl (S.cell (g := g9) pk co) _ Tryd.underlying31 rfl ?_; exact ⟨rfl, S⟩
    · exact oG [29, 33]
    · exact oG [29, 34]
    · clear hi
      refine step_of_g rfl rfl ?_
      intro u G w hf S
      have f29 : u 29 = (.bool true) := hf 29 (by simp)
      have f35 : u 35 = .pointer (some ⟨gr, 3, none⟩) := hf 35 (by simp)
      simp only [fl, z4, z5, z6, z7, ptrBlk] at S ⊢
      simp only [f29, f35]
      refine ⟨rfl, ?_⟩
      refine does_loadR 22 (.tmp 162) _ _ rfl _ (K3.out w (S.sl (v := .slice (some ⟨gr, 0, none⟩) 1 cr) pk)) _ Tryd.underlying22 rfl 32 kR (by rw [List.length_map]; exact d02_len) _ rfl ?_; exact ⟨rfl, S⟩
    · exact oG [29, 31, 36]
    · exact oP [29, 37]
    · exact oP [38]
    · exact oG [39]
    · clear hi
      refine step_of_g rfl rfl ?_
      intro u G w hf S
      have f39 : u 39 = (.bool true) := hf 39 (by simp)
      have f40 : u 40 = .pointer (some ⟨g9, 1, none⟩) := hf 40 (by simp)
      simp only [fl, z4, z5, z6, z7, ptrBlk] at S ⊢
      simp only [f39, f40]
      refine ⟨rfl, ?_⟩
      refine does_loadP S 22 (.tmp 167) g9 1 rfl 40 C (0, 0) pk 32 (arr8 d02) MK.out (by rw [arr8_size]; exact d02_len) _ Tryd.underlying22 rfl kR ?_; exact ⟨rfl, S⟩
    · exact oG [39]
    · exact oG [39, 41, 42]
    · exact oP [39, 43]
    · exact oP [44]
    · exact oG [45]
    · exact oG [45, 46]
    · exact oP [45, 47]
    · exact oP [48]
    · exact oG [49]
    · exact oG [49, 50]
    · exact oP [49, 51]
    · exact oP [52]
  case fin1 =>
    intro u w hf S
    have hvA := allV hf
    simp only [AllV, RSpec.valAt, sv, Nat.zero_add, Nat.reduceAdd] at hvA
    simp only [fl, z4, z5, z6, z7, ptrBlk] at S
    clear hf
    simp only [List.length_cons, List.length_nil, Nat.zero_add, Nat.reduceAdd, List.drop_succ_cons, List.drop_zero, hvA]
    clear hvA
    go_wp2_with (first | fail)
    go_ret
    exact ⟨rfl, S.nil⟩
end Go.Proofs.YtfhkmmagpnojmaaDoor

/- The reference's SameRecords and SameReply, for any records and replies. No condition but the reach. -/
namespace Go.Proofs.YtfhkmmagpnojmaaDoor
open Go.RowKit

set_option maxRecDepth 100000 in
set_option maxHeartbeats 4000000 in
theorem refSameRc_s (v1 v2 : Value) (l m : List Rcd) (w0 : World) (h1 : Sl w0 35 v1 l.length (l.flatMap rcdL)) (h2 : Sl w0 35 v2 m.length (m.flatMap rcdL)) :
    Calls Tryd.prog 28 #[v1, v2] w0 fun e w' => e = .returned (.bool (decide (l = m))) ∧ Has w0 w' [] := by
  have S := Has.start w0
  obtain ⟨a0, c0, rfl, k1, k2⟩ := Sl.shape h1
  obtain ⟨a1, c1, rfl, k3, k4⟩ := Sl.shape h2
  unfold maxLen at k2 k4
  by_cases hl : l.length = m.length
  case neg =>
    rw [decide_eq_false (fun e => hl (by rw [e]))]
    have i0 : ((l.length : Int) == (m.length : Int)) = false := by rw [beq_eq_false_iff_ne]; omega
    have H1 := Lib.hid h1; have H2 := Lib.hid h2; clear h1 h2
    clear hl
    go_enter Tryd.func28, Tryd.ntmps28
    go_wp2_with (first | fail)
    go_ret
    exact ⟨rfl, S.nil⟩
  have i0 : ((m.length : Int) == (m.length : Int)) = true := by simp
  rw [hl] at h1 k1
  rw [hl]
  obtain ⟨D, hD⟩ : ∃ D, D = decide (l = m) := ⟨_, rfl⟩
  rw [← hD]
  have eg := eqGuardRc
  have H1 := Lib.hid h1; have H2 := Lib.hid h2; have HL := Lib.hid hl; have HD := Lib.hid hD; clear h1 h2 hl hD
  go_enter Tryd.func28, Tryd.ntmps28
  go_wp2_with (first | fail)
  go_loopw [5] (fun u wr => ∃ (k : Nat), k ≤ m.length ∧ u = .int .i64 (k : Int) ∧ l.take k = m.take k ∧ Has w0 wr []) (fun u _ => m.length - (intOf u).toNat)
  case atStart => exact ⟨0, Nat.zero_le _, rfl, rfl, S⟩
  case round =>
    clear S
    obtain ⟨k, hk, rfl, heq, S⟩ := hrel
    by_cases hlt : k < m.length
    · have hll := HL.out
      have hy : m[k]? = some m[k] := List.getElem?_eq_getElem hlt
      have hx : l[k]? = some (l[k]'(by omega)) := List.getElem?_eq_getElem _
      obtain ⟨b, off, rfl, hcell⟩ := H1.out.atA (by omega)
      obtain ⟨b2, off2, rfl, hcell2⟩ := H2.out.atA (by omega)
      have hrg := H1.out.elem rcdL_length (by decide) k _ hx
      have hrg2 := H2.out.elem rcdL_length (by decide) k _ hy
      obtain ⟨x, hxe⟩ : ∃ x, x = (l[k]'(by omega)) := ⟨_, rfl⟩
      obtain ⟨y, hye⟩ : ∃ y, y = m[k] := ⟨_, rfl⟩
      rw [← hxe] at hrg hx
      rw [← hye] at hrg2 hy
      have hne := fun w => neqRc x y w
      have hki : (k : Int) < (m.length : Int) := by omega
      have hki2 : (k : Int) < 9223372036854775807 := by omega
      have hyes : x = y → l.take (k + 1) = m.take (k + 1) := fun e => by rw [List.take_add_one, List.take_add_one, heq, hx, hy, e]
      have hno : x ≠ y → D = false := fun e => HD.out.trans <| decide_eq_false (fun h => e (by rw [h, hy] at hx; exact (Option.some.inj hx).symm))
      clear hx hy hcell hcell2 hxe hye hll
      have HRG := Lib.hid hrg; have HRG2 := Lib.hid hrg2; have HYES := Lib.hid hyes; have HNO := Lib.hid hno; have HEQ := Lib.hid heq; clear hrg hrg2 hyes hno heq
      go_upto_region 6 with (first | fail)
      by_cases hxy : x = y
      · subst hxy
        rw [decide_eq_true rfl, Bool.not_true] at hne
        refine wp_rely S [sv [] ((.slice (some ⟨b, off, none⟩) m.length c0)), sv [] ((.int .i64 (k : Int))), sv [0, 1] (.pointer (some ⟨b, off + k * 35, none⟩)), sv [0, 1, 2] (.agg (rcdL x).toArray), sv [] ((.slice (some ⟨b2, off2, none⟩) m.length c1)), sv [] ((.int .i64 (k : Int))), sv [4, 5] (.pointer (some ⟨b2, off2 + k * 35, none⟩)), sv [4, 5, 6] (.agg (rcdL x).toArray), sv [0, 1, 2, 3, 4, 5, 6, 7] (.bool false)] ?A1 ?hA1 kR kR kR [0, 1, 2, 3, 4, 5, 6, 7, 8] kR ?hok1 ?fin1
        case hA1 => intro u; simp only [putAll, List.length_cons, List.length_nil, Nat.zero_add, Nat.reduceAdd, dstAt, List.getElem?_toArray, List.getElem?_cons_zero, List.getElem?_cons_succ, Option.bind_some, Act.put, List.setIfInBounds_toArray, List.set_cons_zero, List.set_cons_succ]; rfl
        case hok1 =>
          intro i hi
          obtain rfl | rfl | rfl | rfl | rfl | rfl | rfl | rfl | rfl : i = 0 ∨ i = 1 ∨ i = 2 ∨ i = 3 ∨ i = 4 ∨ i = 5 ∨ i = 6 ∨ i = 7 ∨ i = 8 := by simp only [List.length_cons, List.length_nil, Nat.zero_add, Nat.reduceAdd] at hi; omega
          · exact oP []
          · exact oP []
          · exact oP [0, 1]
          · clear hi
            refine step_of rfl rfl rfl ?_
            intro u G w hf S
            have f2 : u 2 = .pointer (some ⟨b, off + k * 35, none⟩) := hf 2 (by simp)
            simp only [fl, z4, z5, z6, z7, ptrBlk] at S ⊢
            simp only [f2]
            refine does_loadR 50 (.tmp 19) _ _ rfl _ (S.old_range HRG.out) _ Tryd.underlying50 rfl 35 kR (rcdL_length _) _ rfl ?_; exact ⟨rfl, S⟩
          · exact oP []
          · exact oP []
          · exact oP [4, 5]
          · clear hi
            refine step_of rfl rfl rfl ?_
            intro u G w hf S
            have f6 : u 6 = .pointer (some ⟨b2, off2 + k * 35, none⟩) := hf 6 (by simp)
            simp only [fl, z4, z5, z6, z7, ptrBlk] at S ⊢
            simp only [f6]
            refine does_loadR 50 (.tmp 23) _ _ rfl _ (S.old_range HRG2.out) _ Tryd.underlying50 rfl 35 kR (rcdL_length _) _ rfl ?_; exact ⟨rfl, S⟩
          · exact oP [3, 7]
        case fin1 =>
          intro u w hf S
          have hvA := allV hf
          simp only [AllV, RSpec.valAt, sv, Nat.zero_add, Nat.reduceAdd] at hvA
          simp only [fl, z4, z5, z6, z7, ptrBlk] at S
          clear hf
          simp only [List.length_cons, List.length_nil, Nat.zero_add, Nat.reduceAdd, List.drop_succ_cons, List.drop_zero, hvA]
          clear hvA
          clear hne
          go_wp2_with (first | fail)
          go_roundw
          case rel => exact ⟨k + 1, by omega, by go_num, HYES.out rfl, S⟩
          case measure => simp [intOf]; omega
      · rw [decide_eq_false hxy, Bool.not_false] at hne
        refine wp_rely S [sv [] ((.slice (some ⟨b, off, none⟩) m.length c0)), sv [] ((.int .i64 (k : Int))), sv [0, 1] (.pointer (some ⟨b, off + k * 35, none⟩)), sv [0, 1, 2] (.agg (rcdL x).toArray), sv [] ((.slice (some ⟨b2, off2, none⟩) m.length c1)), sv [] ((.int .i64 (k : Int))), sv [4, 5] (.pointer (some ⟨b2, off2 + k * 35, none⟩)), sv [4, 5, 6] (.agg (rcdL y).toArray), sv [0, 1, 2, 3, 4, 5, 6, 7] (.bool true)] ?A2 ?hA2 kR kR kR [0, 1, 2, 3, 4, 5, 6, 7, 8] kR ?hok2 ?fin2
        case hA2 => intro u; simp only [putAll, List.length_cons, List.length_nil, Nat.zero_add, Nat.reduceAdd, dstAt, List.getElem?_toArray, List.getElem?_cons_zero, List.getElem?_cons_succ, Option.bind_some, Act.put, List.setIfInBounds_toArray, List.set_cons_zero, List.set_cons_succ]; rfl
        case hok2 =>
          intro i hi
          obtain rfl | rfl | rfl | rfl | rfl | rfl | rfl | rfl | rfl : i = 0 ∨ i = 1 ∨ i = 2 ∨ i = 3 ∨ i = 4 ∨ i = 5 ∨ i = 6 ∨ i = 7 ∨ i = 8 := by simp only [List.length_cons, List.length_nil, Nat.zero_add, Nat.reduceAdd] at hi; omega
          · exact oP []
          · exact oP []
          · exact oP [0, 1]
          · clear hi
            refine step_of rfl rfl rfl ?_
            intro u G w hf S
            have f2 : u 2 = .pointer (some ⟨b, off + k * 35, none⟩) := hf 2 (by simp)
            simp only [fl, z4, z5, z6, z7, ptrBlk] at S ⊢
            simp only [f2]
            refine does_loadR 50 (.tmp 19) _ _ rfl _ (S.old_range HRG.out) _ Tryd.underlying50 rfl 35 kR (rcdL_length _) _ rfl ?_; exact ⟨rfl, S⟩
          · exact oP []
          · exact oP []
          · exact oP [4, 5]
          · clear hi
            refine step_of rfl rfl rfl ?_
            intro u G w hf S
            have f6 : u 6 = .pointer (some ⟨b2, off2 + k * 35, none⟩) := hf 6 (by simp)
            simp only [fl, z4, z5, z6, z7, ptrBlk] at S ⊢
            simp only [f6]
            refine does_loadR 50 (.tmp 23) _ _ rfl _ (S.old_range HRG2.out) _ Tryd.underlying50 rfl 35 kR (rcdL_length _) _ rfl ?_; exact ⟨rfl, S⟩
          · exact oP [3, 7]
        case fin2 =>
          intro u w hf S
          have hvA := allV hf
          simp only [AllV, RSpec.valAt, sv, Nat.zero_add, Nat.reduceAdd] at hvA
          simp only [fl, z4, z5, z6, z7, ptrBlk] at S
          clear hf
          simp only [List.length_cons, List.length_nil, Nat.zero_add, Nat.reduceAdd, List.drop_succ_cons, List.drop_zero, hvA]
          clear hvA
          clear hne
          go_wp2_with (first | fail)
          go_ret
          exact ⟨by rw [HNO.out hxy]; rfl, S.nil⟩
    · obtain rfl : k = m.length := by omega
      have hki : ¬ (m.length : Int) < (m.length : Int) := by omega
      have hlm : D = true := HD.out.trans <| decide_eq_true (by
        have h3 := heq
        rw [List.take_of_length_le (by rw [HL.out]; exact Nat.le_refl _), List.take_length] at h3
        exact h3)
      have HLM := Lib.hid hlm; clear hlm
      clear heq
      go_wp2_with (first | fail)
      go_ret
      exact ⟨by rw [HLM.out]; rfl, S.nil⟩
theorem rp_eqG (a b : Rp) : decide (a = b) = (!(!decide (a.kind = b.kind)) && (!(!decide (a.code = b.code)) && (!(!decide (a.tick = b.tick)) && (!(!decide (a.order = b.order)) && (!(!decide (a.state = b.state)) && (!(!decide (a.done = b.done)) && (!(!decide (a.queued = b.queued)) && (!(!decide (a.count = b.count)) && (!(!decide (a.tok = b.tok)) && (!(!decide (a.robots.length = b.robots.length)) && (decide (a.robots = b.robots) && decide (a.records = b.records)))))))))))) := by
  rw [Bool.eq_iff_iff]
  simp only [Bool.and_eq_true, decide_eq_true_eq, Bool.not_not]
  constructor
  · rintro rfl; exact ⟨rfl, rfl, rfl, rfl, rfl, rfl, rfl, rfl, rfl, rfl, rfl, rfl⟩
  · rintro ⟨h0, h1, h2, h3, h4, h5, h7, h8, h10, _, h6, h9⟩
    exact Rp.ext' h0 h1 h2 h3 h4 h5 h6 h7 h8 h9 h10
set_option maxRecDepth 100000 in
set_option maxHeartbeats 32000000 in
theorem refSameReply_s (a b : Rp) (va vb vc vd : Value) (w0 : World)
    (hva : Sl w0 3 va a.robots.length (a.robots.flatMap sgtL)) (hvb : Sl w0 35 vb a.records.length (a.records.flatMap rcdL)) (hvc : Sl w0 3 vc b.robots.length (b.robots.flatMap sgtL)) (hvd : Sl w0 35 vd b.records.length (b.records.flatMap rcdL)) :
    Calls Tryd.prog 40 #[.agg (rpL a va vb).toArray, .agg (rpL b vc vd).toArray] w0 fun e w' => e = .returned (.bool (decide (a = b))) ∧ Has w0 w' [] := by
  have S := Has.start w0
  obtain ⟨a0, c0, rfl, k1, k2⟩ := Sl.shape hva
  obtain ⟨a1, c1, rfl, k3, k4⟩ := Sl.shape hvc
  obtain ⟨a2, c2, rfl, k5, k6⟩ := Sl.shape hvb
  obtain ⟨a3, c3, rfl, k7, k8⟩ := Sl.shape hvd
  unfold maxLen at k2 k4
  clear k5 k6 k7 k8
  obtain ⟨D, hD⟩ : ∃ D, D = decide (a = b) := ⟨_, rfl⟩
  have hDe := rp_eqG a b
  rw [← hD] at hDe
  rw [← hD]
  have p2 := fun w h1 h2 => refSameRc_s (.slice a2 a.records.length c2) (.slice a3 b.records.length c3) a.records b.records w h1 h2
  have he := fun w => neqT a.tok b.tok w
  have hg := fun x y w => neqSg x y w
  have eg := eqGuardT
  have es := eqGuardSg
  have f0 : ((a.kind.toNat : Int) != (b.kind.toNat : Int)) = !decide (a.kind = b.kind) := congrArg (!·) (beqU8 a.kind b.kind)
  have f1 : (a.code.v != b.code.v) = !decide (a.code = b.code) := congrArg (!·) (beqI a.code b.code)
  have f2 : ((a.tick.toNat : Int) != (b.tick.toNat : Int)) = !decide (a.tick = b.tick) := congrArg (!·) (beqU64 a.tick b.tick)
  have f3 : (a.order.v != b.order.v) = !decide (a.order = b.order) := congrArg (!·) (beqI a.order b.order)
  have f4 : ((a.state.toNat : Int) != (b.state.toNat : Int)) = !decide (a.state = b.state) := congrArg (!·) (beqU8 a.state b.state)
  have f5 : ((a.done.toNat : Int) != (b.done.toNat : Int)) = !decide (a.done = b.done) := congrArg (!·) (beqU64 a.done b.done)
  have f6 : (a.queued.v != b.queued.v) = !decide (a.queued = b.queued) := congrArg (!·) (beqI a.queued b.queued)
  have f7 : ((a.count.toNat : Int) != (b.count.toNat : Int)) = !decide (a.count = b.count) := congrArg (!·) (beqU32 a.count b.count)
  have f9 : ((a.robots.length : Int) != (b.robots.length : Int)) = !decide (a.robots.length = b.robots.length) := by
    rw [Bool.eq_iff_iff, bne_iff_ne, Bool.not_eq_true', decide_eq_false_iff_not]
    omega
  have hll : (!decide (a.robots.length = b.robots.length)) = false → a.robots.length = b.robots.length := fun h => by simpa using h
  obtain ⟨y0, hy0⟩ : ∃ y, y = !decide (a.kind = b.kind) := ⟨_, rfl⟩
  obtain ⟨y1, hy1⟩ : ∃ y, y = !decide (a.code = b.code) := ⟨_, rfl⟩
  obtain ⟨y2, hy2⟩ : ∃ y, y = !decide (a.tick = b.tick) := ⟨_, rfl⟩
  obtain ⟨y3, hy3⟩ : ∃ y, y = !decide (a.order = b.order) := ⟨_, rfl⟩
  obtain ⟨y4, hy4⟩ : ∃ y, y = !decide (a.state = b.state) := ⟨_, rfl⟩
  obtain ⟨y5, hy5⟩ : ∃ y, y = !decide (a.done = b.done) := ⟨_, rfl⟩
  obtain ⟨y6, hy6⟩ : ∃ y, y = !decide (a.queued = b.queued) := ⟨_, rfl⟩
  obtain ⟨y7, hy7⟩ : ∃ y, y = !decide (a.count = b.count) := ⟨_, rfl⟩
  obtain ⟨y8, hy8⟩ : ∃ y, y = !decide (a.tok = b.tok) := ⟨_, rfl⟩
  obtain ⟨y9, hy9⟩ : ∃ y, y = !decide (a.robots.length = b.robots.length) := ⟨_, rfl⟩
  obtain ⟨x6, hx6⟩ : ∃ x, x = decide (a.robots = b.robots) := ⟨_, rfl⟩
  obtain ⟨x9, hx9⟩ : ∃ x, x = decide (a.records = b.records) := ⟨_, rfl⟩
  rw [← hy0] at f0 hDe
  rw [← hy1] at f1 hDe
  rw [← hy2] at f2 hDe
  rw [← hy3] at f3 hDe
  rw [← hy4] at f4 hDe
  rw [← hy5] at f5 hDe
  rw [← hy6] at f6 hDe
  rw [← hy7] at f7 hDe
  rw [← hy8] at hDe
  simp only [← hy8] at he
  rw [← hy9] at f9 hDe hll
  rw [← hx6] at hDe
  rw [← hx9] at p2 hDe
  have a0' := rpL_0 a (.slice a0 a.robots.length c0) (.slice a2 a.records.length c2)
  have a1' := rpL_1 a (.slice a0 a.robots.length c0) (.slice a2 a.records.length c2)
  have a2' := rpL_2 a (.slice a0 a.robots.length c0) (.slice a2 a.records.length c2)
  have a3' := rpL_3 a (.slice a0 a.robots.length c0) (.slice a2 a.records.length c2)
  have a4' := rpL_4 a (.slice a0 a.robots.length c0) (.slice a2 a.records.length c2)
  have a5' := rpL_5 a (.slice a0 a.robots.length c0) (.slice a2 a.records.length c2)
  have a6' := rpL_6 a (.slice a0 a.robots.length c0) (.slice a2 a.records.length c2)
  have a7' := rpL_7 a (.slice a0 a.robots.length c0) (.slice a2 a.records.length c2)
  have a8' := rpL_8 a (.slice a0 a.robots.length c0) (.slice a2 a.records.length c2)
  have a9' := rpL_9 a (.slice a0 a.robots.length c0) (.slice a2 a.records.length c2)
  have at' := rpL_tok a (.slice a0 a.robots.length c0) (.slice a2 a.records.length c2)
  have b0' := rpL_0 b (.slice a1 b.robots.length c1) (.slice a3 b.records.length c3)
  have b1' := rpL_1 b (.slice a1 b.robots.length c1) (.slice a3 b.records.length c3)
  have b2' := rpL_2 b (.slice a1 b.robots.length c1) (.slice a3 b.records.length c3)
  have b3' := rpL_3 b (.slice a1 b.robots.length c1) (.slice a3 b.records.length c3)
  have b4' := rpL_4 b (.slice a1 b.robots.length c1) (.slice a3 b.records.length c3)
  have b5' := rpL_5 b (.slice a1 b.robots.length c1) (.slice a3 b.records.length c3)
  have b6' := rpL_6 b (.slice a1 b.robots.length c1) (.slice a3 b.records.length c3)
  have b7' := rpL_7 b (.slice a1 b.robots.length c1) (.slice a3 b.records.length c3)
  have b8' := rpL_8 b (.slice a1 b.robots.length c1) (.slice a3 b.records.length c3)
  have b9' := rpL_9 b (.slice a1 b.robots.length c1) (.slice a3 b.records.length c3)
  have bt' := rpL_tok b (.slice a1 b.robots.length c1) (.slice a3 b.records.length c3)
  have key : y0 = true ∨ (y0 = false ∧ (y1 = true ∨ (y1 = false ∧ (y2 = true ∨ (y2 = false ∧ (y3 = true ∨ (y3 = false ∧ (y4 = true ∨ (y4 = false ∧ (y5 = true ∨ (y5 = false ∧ (y6 = true ∨ (y6 = false ∧ (y7 = true ∨ (y7 = false ∧ (y8 = true ∨ (y8 = false ∧ (y9 = true ∨ y9 = false)))))))))))))))))) := by
    cases y0 <;> cases y1 <;> cases y2 <;> cases y3 <;> cases y4 <;> cases y5 <;> cases y6 <;> cases y7 <;> cases y8 <;> cases y9 <;> simp
  clear hy0 hy1 hy2 hy3 hy4 hy5 hy6 hy7 hy8 hy9 hD hx9
  rcases key with rfl | ⟨rfl, rfl | ⟨rfl, rfl | ⟨rfl, rfl | ⟨rfl, rfl | ⟨rfl, rfl | ⟨rfl, rfl | ⟨rfl, rfl | ⟨rfl, rfl | ⟨rfl, rfl | rfl⟩⟩⟩⟩⟩⟩⟩⟩⟩
  case inr.inr.inr.inr.inr.inr.inr.inr.inr.inr =>
    have hl := hll rfl
    simp only [Bool.not_false, Bool.true_and] at hDe
    have hD6 : x6 = false → D = false := fun h => by rw [hDe, h]; rfl
    have hD9 : x6 = true → D = x9 := fun h => by rw [hDe, h]; rfl
    clear hDe hll
    have hx6' := hx6
    clear hx6
    have A0' := Lib.hid a0'; have A1' := Lib.hid a1'; have A2' := Lib.hid a2'; have A3' := Lib.hid a3'; have A4' := Lib.hid a4'; have A5' := Lib.hid a5'; have A6' := Lib.hid a6'; have A7' := Lib.hid a7'; have A8' := Lib.hid a8'; have A9' := Lib.hid a9'; have AT' := Lib.hid at'; have B0' := Lib.hid b0'; have B1' := Lib.hid b1'; have B2' := Lib.hid b2'; have B3' := Lib.hid b3'; have B4' := Lib.hid b4'; have B5' := Lib.hid b5'; have B6' := Lib.hid b6'; have B7' := Lib.hid b7'; have B8' := Lib.hid b8'; have B9' := Lib.hid b9'; have BT' := Lib.hid bt'; have P2 := Lib.hid p2; have HVA := Lib.hid hva; have HVB := Lib.hid hvb; have HVC := Lib.hid hvc; have HVD := Lib.hid hvd; have HX6' := Lib.hid hx6'; have HD6 := Lib.hid hD6; have HD9 := Lib.hid hD9; have HL := Lib.hid hl; have HG := Lib.hid hg; clear a0' a1' a2' a3' a4' a5' a6' a7' a8' a9' at' b0' b1' b2' b3' b4' b5' b6' b7' b8' b9' bt' p2 hva hvb hvc hvd hx6' hD6 hD9 hl hg
    go_enter Tryd.func40, Tryd.ntmps40
    simp only [List.append_eq, List.cons_append, List.nil_append]
    go_wp2_with (first | ((with_reducible refine iD 2 (.box 79 (.tmp 0)) ?_); refine step_boxA (dst := some 2) S 79 (.tmp 0) _ rfl gw ?_; clear S; intro g2 w S) | ((with_reducible refine iD 3 (.box 79 (.tmp 1)) ?_); refine step_boxA (dst := some 3) S 79 (.tmp 1) _ rfl gw ?_; clear S; intro g3 w S) | ((with_reducible refine iO _ (.load 5 _) ?_); refine step_load1 5 _ _ _ rfl (cL) _ Tryd.underlying5 rfl gw ?_) | ((with_reducible refine iO _ (.load 24 _) ?_); refine step_load1 24 _ _ _ rfl (cL) _ Tryd.underlying24 rfl gw ?_) | ((with_reducible refine iO _ (.load 23 _) ?_); refine step_load1 23 _ _ _ rfl (cL) _ Tryd.underlying23 rfl gw ?_) | ((with_reducible refine iO _ (.load 3 _) ?_); refine step_load1 3 _ _ _ rfl (cL) _ Tryd.underlying3 rfl gw ?_) | ((with_reducible refine iO _ (.load 38 _) ?_); refine step_load1 38 _ _ _ rfl (cL) _ Tryd.underlying38 rfl gw ?_) | ((with_reducible refine iO _ (.load 67 _) ?_); first | (refine step_loadR 67 _ _ _ rfl _ (S.old_range hy) _ Tryd.underlying67 rfl 36 kR lN _ rfl gw ?_) | (refine step_loadP S 67 _ _ _ rfl _ _ _ pk 36 _ pT lN _ Tryd.underlying67 rfl kR gw ?_)) | ((with_reducible refine iO _ (.load 77 _) ?_); refine step_load1 77 _ _ _ rfl (cL) _ Tryd.underlying77 rfl gw ?_) | fail)
    clear he f0 f1 f2 f3 f4 f5 f6 f7 f9
    obtain ⟨l, hle⟩ : ∃ l, l = a.robots := ⟨_, rfl⟩
    obtain ⟨m, hme⟩ : ∃ m, m = b.robots := ⟨_, rfl⟩
    have hl := HL.out
    have hva := HVA.out
    have hvc := HVC.out
    have a6 := A6'.out
    have b6 := B6'.out
    have hx6 := HX6'.out
    rw [← hle] at hl k1 hva a6 S hx6
    rw [← hme] at hl k3 hvc b6 S hx6
    rw [hl] at hva a6 k1 S
    obtain ⟨X, hX⟩ : ∃ X, X = (rpL a (.slice a0 m.length c0) (.slice a2 a.records.length c2)).toArray := ⟨_, rfl⟩
    obtain ⟨Y, hY⟩ : ∃ Y, Y = (rpL b (.slice a1 m.length c1) (.slice a3 b.records.length c3)).toArray := ⟨_, rfl⟩
    have a9 := A9'.out
    have b9 := B9'.out
    rw [← hle, hl, ← hX] at a9
    rw [← hme, ← hY] at b9
    rw [← hX] at S a6
    rw [← hY] at S b6
    have hrec : 0 = 0 := rfl
    clear hle hme hX hY hrec A0' A1' A2' A3' A4' A5' A6' A7' A8' A9' AT' B0' B1' B2' B3' B4' B5' B6' B7' B8' B9' BT' HVA HVC HL HX6'
    have HVA := Lib.hid hva; have HVC := Lib.hid hvc; have HL := Lib.hid hl; have A6 := Lib.hid a6; have B6 := Lib.hid b6; have A9 := Lib.hid a9; have B9 := Lib.hid b9; have HX6 := Lib.hid hx6; clear hva hvc hl a6 b6 a9 b9 hx6
    go_loopw [5] (fun u wr => ∃ (k : Nat), k ≤ m.length ∧ u = .int .i64 (k : Int) ∧ l.take k = m.take k ∧ Has w0 wr [blk g3 (.cells Y 79 (0, 0)), blk g2 (.cells X 79 (0, 0))]) (fun u _ => m.length - (intOf u).toNat)
    case atStart => exact ⟨0, Nat.zero_le _, rfl, rfl, S⟩
    case round =>
      clear S
      obtain ⟨k, hk, rfl, heq, S⟩ := hrel
      by_cases hlt : k < m.length
      · have hll := HL.out
        have hy : m[k]? = some m[k] := List.getElem?_eq_getElem hlt
        have hx : l[k]? = some (l[k]'(by omega)) := List.getElem?_eq_getElem _
        have hva := HVA.out
        obtain ⟨b1, off, rfl, hcell⟩ := hva.atA (by omega)
        have hvc := HVC.out
        obtain ⟨b2, off2, rfl, hcell2⟩ := hvc.atA (by omega)
        have hrg := hva.elem sgtL_length (by decide) k _ hx
        have hrg2 := hvc.elem sgtL_length (by decide) k _ hy
        obtain ⟨x, hxe⟩ : ∃ x, x = (l[k]'(by omega)) := ⟨_, rfl⟩
        obtain ⟨y, hye⟩ : ∃ y, y = m[k] := ⟨_, rfl⟩
        rw [← hxe] at hrg hx
        rw [← hye] at hrg2 hy
        have hne := fun w => HG.out x y w
        have hki : (k : Int) < (m.length : Int) := by omega
        have hki2 : (k : Int) < 9223372036854775807 := by omega
        have hyes : x = y → l.take (k + 1) = m.take (k + 1) := fun e => by rw [List.take_add_one, List.take_add_one, heq, hx, hy, e]
        have hno : x ≠ y → D = false := fun e => HD6.out (HX6.out.trans <| decide_eq_false (fun h => e (by rw [h, hy] at hx; exact (Option.some.inj hx).symm)))
        clear hx hy hcell hcell2 hxe hye hll hva hvc
        have HRG := Lib.hid hrg; have HRG2 := Lib.hid hrg2; have HYES := Lib.hid hyes; have HNO := Lib.hid hno; have HEQ := Lib.hid heq; clear hrg hrg2 hyes hno heq
        go_upto_region 6 with (first | ((with_reducible refine iO _ (.load 77 _) ?_); refine step_load1 77 _ _ _ rfl (cL) _ Tryd.underlying77 rfl gw ?_) | fail)
        by_cases hxy : x = y
        · subst hxy
          rw [decide_eq_true rfl, Bool.not_true] at hne
          refine wp_rely S [sv [] (.pointer (some ⟨g2, 6, none⟩)), sv [0] (.slice (some ⟨b1, off, none⟩) m.length c0), sv [] ((.int .i64 (k : Int))), sv [0, 1, 2] (.pointer (some ⟨b1, off + k * 3, none⟩)), sv [0, 1, 2, 3] (.agg (sgtL x).toArray), sv [] (.pointer (some ⟨g3, 6, none⟩)), sv [5] (.slice (some ⟨b2, off2, none⟩) m.length c1), sv [] ((.int .i64 (k : Int))), sv [5, 6, 7] (.pointer (some ⟨b2, off2 + k * 3, none⟩)), sv [5, 6, 7, 8] (.agg (sgtL x).toArray), sv [0, 1, 2, 3, 4, 5, 6, 7, 8, 9] (.bool false)] ?A3 ?hA3 kR kR kR [0, 1, 2, 3, 4, 5, 6, 7, 8, 9, 10] kR ?hok3 ?fin3
          case hA3 => intro u; simp only [putAll, List.length_cons, List.length_nil, Nat.zero_add, Nat.reduceAdd, dstAt, List.getElem?_toArray, List.getElem?_cons_zero, List.getElem?_cons_succ, Option.bind_some, Act.put, List.setIfInBounds_toArray, List.set_cons_zero, List.set_cons_succ]; rfl
          case hok3 =>
            intro i hi
            obtain rfl | rfl | rfl | rfl | rfl | rfl | rfl | rfl | rfl | rfl | rfl : i = 0 ∨ i = 1 ∨ i = 2 ∨ i = 3 ∨ i = 4 ∨ i = 5 ∨ i = 6 ∨ i = 7 ∨ i = 8 ∨ i = 9 ∨ i = 10 := by simp only [List.length_cons, List.length_nil, Nat.zero_add, Nat.reduceAdd] at hi; omega
            · exact oP []
            · clear hi
              refine step_of rfl rfl rfl ?_
              intro u G w hf S
              have f0 : u 0 = .pointer (some ⟨g2, 6, none⟩) := hf 0 (by simp)
              simp only [fl, z4, z5, z6, z7, ptrBlk] at S ⊢
              simp only [f0]
              refine does_load1 77 (.tmp 83) _ _ rfl (S.cell (g := g2) pk co) _ Tryd.underlying77 rfl ?_; exact ⟨rfl, S⟩
            · exact oP []
            · exact oP [1, 2]
            · clear hi
              refine step_of rfl rfl rfl ?_
              intro u G w hf S
              have f3 : u 3 = .pointer (some ⟨b1, off + k * 3, none⟩) := hf 3 (by simp)
              simp only [fl, z4, z5, z6, z7, ptrBlk] at S ⊢
              simp only [f3]
              refine does_loadR 95 (.tmp 86) _ _ rfl _ (S.old_range HRG.out) _ Tryd.underlying95 rfl 3 kR (sgtL_length _) _ rfl ?_; exact ⟨rfl, S⟩
            · exact oP []
            · clear hi
              refine step_of rfl rfl rfl ?_
              intro u G w hf S
              have f5 : u 5 = .pointer (some ⟨g3, 6, none⟩) := hf 5 (by simp)
              simp only [fl, z4, z5, z6, z7, ptrBlk] at S ⊢
              simp only [f5]
              refine does_load1 77 (.tmp 88) _ _ rfl (S.cell (g := g3) pk co) _ Tryd.underlying77 rfl ?_; exact ⟨rfl, S⟩
            · exact oP []
            · exact oP [6, 7]
            · clear hi
              refine step_of rfl rfl rfl ?_
              intro u G w hf S
              have f8 : u 8 = .pointer (some ⟨b2, off2 + k * 3, none⟩) := hf 8 (by simp)
              simp only [fl, z4, z5, z6, z7, ptrBlk] at S ⊢
              simp only [f8]
              refine does_loadR 95 (.tmp 91) _ _ rfl _ (S.old_range HRG2.out) _ Tryd.underlying95 rfl 3 kR (sgtL_length _) _ rfl ?_; exact ⟨rfl, S⟩
            · exact oP [4, 9]
          case fin3 =>
            intro u w hf S
            have hvA := allV hf
            simp only [AllV, RSpec.valAt, sv, Nat.zero_add, Nat.reduceAdd] at hvA
            simp only [fl, z4, z5, z6, z7, ptrBlk] at S
            clear hf
            simp only [List.length_cons, List.length_nil, Nat.zero_add, Nat.reduceAdd, List.drop_succ_cons, List.drop_zero, hvA]
            clear hvA
            clear hne
            go_wp2_with (first | fail)
            go_roundw
            case rel => exact ⟨k + 1, by omega, by go_num, HYES.out rfl, S⟩
            case measure => simp [intOf]; omega
        · rw [decide_eq_false hxy, Bool.not_false] at hne
          refine wp_rely S [sv [] (.pointer (some ⟨g2, 6, none⟩)), sv [0] (.slice (some ⟨b1, off, none⟩) m.length c0), sv [] ((.int .i64 (k : Int))), sv [0, 1, 2] (.pointer (some ⟨b1, off + k * 3, none⟩)), sv [0, 1, 2, 3] (.agg (sgtL x).toArray), sv [] (.pointer (some ⟨g3, 6, none⟩)), sv [5] (.slice (some ⟨b2, off2, none⟩) m.length c1), sv [] ((.int .i64 (k : Int))), sv [5, 6, 7] (.pointer (some ⟨b2, off2 + k * 3, none⟩)), sv [5, 6, 7, 8] (.agg (sgtL y).toArray), sv [0, 1, 2, 3, 4, 5, 6, 7, 8, 9] (.bool true)] ?A4 ?hA4 kR kR kR [0, 1, 2, 3, 4, 5, 6, 7, 8, 9, 10] kR ?hok4 ?fin4
          case hA4 => intro u; simp only [putAll, List.length_cons, List.length_nil, Nat.zero_add, Nat.reduceAdd, dstAt, List.getElem?_toArray, List.getElem?_cons_zero, List.getElem?_cons_succ, Option.bind_some, Act.put, List.setIfInBounds_toArray, List.set_cons_zero, List.set_cons_succ]; rfl
          case hok4 =>
            intro i hi
            obtain rfl | rfl | rfl | rfl | rfl | rfl | rfl | rfl | rfl | rfl | rfl : i = 0 ∨ i = 1 ∨ i = 2 ∨ i = 3 ∨ i = 4 ∨ i = 5 ∨ i = 6 ∨ i = 7 ∨ i = 8 ∨ i = 9 ∨ i = 10 := by simp only [List.length_cons, List.length_nil, Nat.zero_add, Nat.reduceAdd] at hi; omega
            · exact oP []
            · clear hi
              refine step_of rfl rfl rfl ?_
              intro u G w hf S
              have f0 : u 0 = .pointer (some ⟨g2, 6, none⟩) := hf 0 (by simp)
              simp only [fl, z4, z5, z6, z7, ptrBlk] at S ⊢
              simp only [f0]
              refine does_load1 77 (.tmp 83) _ _ rfl (S.cell (g := g2) pk co) _ Tryd.underlying77 rfl ?_; exact ⟨rfl, S⟩
            · exact oP []
            · exact oP [1, 2]
            · clear hi
              refine step_of rfl rfl rfl ?_
              intro u G w hf S
              have f3 : u 3 = .pointer (some ⟨b1, off + k * 3, none⟩) := hf 3 (by simp)
              simp only [fl, z4, z5, z6, z7, ptrBlk] at S ⊢
              simp only [f3]
              refine does_loadR 95 (.tmp 86) _ _ rfl _ (S.old_range HRG.out) _ Tryd.underlying95 rfl 3 kR (sgtL_length _) _ rfl ?_; exact ⟨rfl, S⟩
            · exact oP []
            · clear hi
              refine step_of rfl rfl rfl ?_
              intro u G w hf S
              have f5 : u 5 = .pointer (some ⟨g3, 6, none⟩) := hf 5 (by simp)
              simp only [fl, z4, z5, z6, z7, ptrBlk] at S ⊢
              simp only [f5]
              refine does_load1 77 (.tmp 88) _ _ rfl (S.cell (g := g3) pk co) _ Tryd.underlying77 rfl ?_; exact ⟨rfl, S⟩
            · exact oP []
            · exact oP [6, 7]
            · clear hi
              refine step_of rfl rfl rfl ?_
              intro u G w hf S
              have f8 : u 8 = .pointer (some ⟨b2, off2 + k * 3, none⟩) := hf 8 (by simp)
              simp only [fl, z4, z5, z6, z7, ptrBlk] at S ⊢
              simp only [f8]
              refine does_loadR 95 (.tmp 91) _ _ rfl _ (S.old_range HRG2.out) _ Tryd.underlying95 rfl 3 kR (sgtL_length _) _ rfl ?_; exact ⟨rfl, S⟩
            · exact oP [4, 9]
          case fin4 =>
            intro u w hf S
            have hvA := allV hf
            simp only [AllV, RSpec.valAt, sv, Nat.zero_add, Nat.reduceAdd] at hvA
            simp only [fl, z4, z5, z6, z7, ptrBlk] at S
            clear hf
            simp only [List.length_cons, List.length_nil, Nat.zero_add, Nat.reduceAdd, List.drop_succ_cons, List.drop_zero, hvA]
            clear hvA
            clear hne
            go_wp2_with (first | fail)
            go_ret
            exact ⟨by rw [HNO.out hxy]; rfl, S.nil⟩
      · obtain rfl : k = m.length := by omega
        have hki : ¬ (m.length : Int) < (m.length : Int) := by omega
        have hlm : x6 = true := HX6.out.trans <| decide_eq_true (by
          have h3 := heq
          rw [List.take_of_length_le (by rw [HL.out]; exact Nat.le_refl _), List.take_length] at h3
          exact h3)
        have hlm := HD9.out hlm
        have HLM := Lib.hid hlm; clear hlm
        clear heq
        go_wp2_with (first | ((with_reducible refine iO _ (.load 77 _) ?_); refine step_load1 77 _ _ _ rfl (cL) _ Tryd.underlying77 rfl gw ?_) | ((with_reducible refine iO _ (.load 31 _) ?_); refine step_load1 31 _ _ _ rfl (cL) _ Tryd.underlying31 rfl gw ?_) | (go_at_call 28; (with_reducible refine (P2.out _ (S.old HVB.out) (S.old HVD.out)).mono ?_); rintro e w1 ⟨rfl, T⟩; replace S := S.call T; clear T; (try simp only [z4, z5] at S)) | fail)
        go_ret
        exact ⟨by rw [HLM.out]; rfl, S.nil⟩
  all_goals
    simp only [Bool.not_false, Bool.not_true, Bool.false_and, Bool.true_and] at hDe
    clear hll hg hx6
    have A0' := Lib.hid a0'; have A1' := Lib.hid a1'; have A2' := Lib.hid a2'; have A3' := Lib.hid a3'; have A4' := Lib.hid a4'; have A5' := Lib.hid a5'; have A6' := Lib.hid a6'; have A7' := Lib.hid a7'; have A8' := Lib.hid a8'; have A9' := Lib.hid a9'; have AT' := Lib.hid at'; have B0' := Lib.hid b0'; have B1' := Lib.hid b1'; have B2' := Lib.hid b2'; have B3' := Lib.hid b3'; have B4' := Lib.hid b4'; have B5' := Lib.hid b5'; have B6' := Lib.hid b6'; have B7' := Lib.hid b7'; have B8' := Lib.hid b8'; have B9' := Lib.hid b9'; have BT' := Lib.hid bt'; have P2 := Lib.hid p2; have HVA := Lib.hid hva; have HVB := Lib.hid hvb; have HVC := Lib.hid hvc; have HVD := Lib.hid hvd; have HDE := Lib.hid hDe; clear a0' a1' a2' a3' a4' a5' a6' a7' a8' a9' at' b0' b1' b2' b3' b4' b5' b6' b7' b8' b9' bt' p2 hva hvb hvc hvd hDe
    go_enter Tryd.func40, Tryd.ntmps40
    simp only [List.append_eq, List.cons_append, List.nil_append]
    go_wp2_with (first | ((with_reducible refine iD 2 (.box 79 (.tmp 0)) ?_); refine step_boxA (dst := some 2) S 79 (.tmp 0) _ rfl gw ?_; clear S; intro g2 w S) | ((with_reducible refine iD 3 (.box 79 (.tmp 1)) ?_); refine step_boxA (dst := some 3) S 79 (.tmp 1) _ rfl gw ?_; clear S; intro g3 w S) | ((with_reducible refine iO _ (.load 5 _) ?_); refine step_load1 5 _ _ _ rfl (cL) _ Tryd.underlying5 rfl gw ?_) | ((with_reducible refine iO _ (.load 24 _) ?_); refine step_load1 24 _ _ _ rfl (cL) _ Tryd.underlying24 rfl gw ?_) | ((with_reducible refine iO _ (.load 23 _) ?_); refine step_load1 23 _ _ _ rfl (cL) _ Tryd.underlying23 rfl gw ?_) | ((with_reducible refine iO _ (.load 3 _) ?_); refine step_load1 3 _ _ _ rfl (cL) _ Tryd.underlying3 rfl gw ?_) | ((with_reducible refine iO _ (.load 38 _) ?_); refine step_load1 38 _ _ _ rfl (cL) _ Tryd.underlying38 rfl gw ?_) | ((with_reducible refine iO _ (.load 67 _) ?_); first | (refine step_loadR 67 _ _ _ rfl _ (S.old_range hy) _ Tryd.underlying67 rfl 36 kR lN _ rfl gw ?_) | (refine step_loadP S 67 _ _ _ rfl _ _ _ pk 36 _ pT lN _ Tryd.underlying67 rfl kR gw ?_)) | ((with_reducible refine iO _ (.load 77 _) ?_); refine step_load1 77 _ _ _ rfl (cL) _ Tryd.underlying77 rfl gw ?_) | fail)
    go_ret
    exact ⟨by rw [HDE.out]; rfl, S.nil⟩
end Go.Proofs.YtfhkmmagpnojmaaDoor

/- The reference's used: a reply with only those fields that its kind and code use. No condition but the reach. -/
namespace Go.Proofs.YtfhkmmagpnojmaaDoor
open Go.RowKit

set_option maxRecDepth 100000 in
set_option maxHeartbeats 8000000 in
theorem refUsed_s (r : Rp) (ar ac : Option Addr) (nr cr nc cc : Nat) (w0 : World) : Calls Tryd.prog 66 #[.agg (rpL r (.slice ar nr cr) (.slice ac nc cc)).toArray] w0 fun e w' => e = .returned (.agg (rpL (usR r) (vrK (bk r) (.slice ar nr cr)) (vcK (bk r) (.slice ac nc cc))).toArray) ∧ Has w0 w' [] := by
  have S := Has.start w0
  have d0 := rpL_0 r (.slice ar nr cr) (.slice ac nc cc)
  have d1 := rpL_1 r (.slice ar nr cr) (.slice ac nc cc)
  have d2 := rpL_2 r (.slice ar nr cr) (.slice ac nc cc)
  have d3 := rpL_3 r (.slice ar nr cr) (.slice ac nc cc)
  have d4 := rpL_4 r (.slice ar nr cr) (.slice ac nc cc)
  have d5 := rpL_5 r (.slice ar nr cr) (.slice ac nc cc)
  have d6 := rpL_6 r (.slice ar nr cr) (.slice ac nc cc)
  have d7 := rpL_7 r (.slice ar nr cr) (.slice ac nc cc)
  have d8 := rpL_8 r (.slice ar nr cr) (.slice ac nc cc)
  have d9 := rpL_9 r (.slice ar nr cr) (.slice ac nc cc)
  have hone := rpL_one r (.slice ar nr cr) (.slice ac nc cc) rfl rfl
  have hk := bk_cases r
  rw [usR_bk]
  rcases hk with ⟨j0, hq⟩ | ⟨j0, ⟨j1, hq⟩ | ⟨j1, ⟨j2, hq⟩ | ⟨j2, ⟨j3, hq⟩ | ⟨j3, ⟨j4, hq⟩ | ⟨j4, ⟨j5, hq⟩ | ⟨j5, ⟨j6, hq⟩ | ⟨j6, hq⟩⟩⟩⟩⟩⟩⟩
  all_goals
    rw [hq]
    unfold usK vrK vcK
    dsimp only
    obtain ⟨k, hk⟩ : ∃ k, k = r.kind := ⟨_, rfl⟩
    obtain ⟨c, hc⟩ : ∃ c, c = r.code := ⟨_, rfl⟩
    obtain ⟨t, ht⟩ : ∃ t, t = r.tick := ⟨_, rfl⟩
    simp only [← hk, ← hc, ← ht] at *
    have D0 := Lib.hid d0; have D1 := Lib.hid d1; have D2 := Lib.hid d2; have D3 := Lib.hid d3; have D4 := Lib.hid d4; have D5 := Lib.hid d5; have D6 := Lib.hid d6; have D7 := Lib.hid d7; have D8 := Lib.hid d8; have D9 := Lib.hid d9; clear d0 d1 d2 d3 d4 d5 d6 d7 d8 d9
    clear hq hk hc ht
    go_enter Tryd.func66, Tryd.ntmps66
    go_wp2_with (first | ((with_reducible refine iD 10 (.build 79 _) ?_); refine step_buildRp3 (.tmp 5) (.tmp 7) (.tmp 9) k c t rfl rfl rfl gw ?_) | ((with_reducible refine iO none (.store 3 (.tmp 22) (.tmp 21)) ?_); refine step_store1 S 3 (.tmp 22) (.tmp 21) g3 3 (.int .i64 r.order.v) rfl rfl _ _ pk kR rfl rfl (by rw [rpL_size]; decide) gw ?_; clear S; intro w S; rw [rpL_setO] at S) | ((with_reducible refine iO none (.store 5 (.tmp 27) (.tmp 26)) ?_); refine step_store1 S 5 (.tmp 27) (.tmp 26) g3 4 (.int .u8 (r.state.toNat : Int)) rfl rfl _ _ pk kR rfl rfl (by rw [rpL_size]; decide) gw ?_; clear S; intro w S; rw [rpL_setS] at S) | ((with_reducible refine iO none (.store 23 (.tmp 30) (.tmp 29)) ?_); refine step_store1 S 23 (.tmp 30) (.tmp 29) g3 5 (.int .u64 (r.done.toNat : Int)) rfl rfl _ _ pk kR rfl rfl (by rw [rpL_size]; decide) gw ?_; clear S; intro w S; rw [rpL_setD] at S) | ((with_reducible refine iO none (.store 77 (.tmp 35) (.tmp 34)) ?_); refine step_store1 S 77 (.tmp 35) (.tmp 34) g3 6 (.slice ar nr cr) rfl rfl _ _ pk kR rfl rfl (by rw [rpL_size]; decide) gw ?_; clear S; intro w S; rw [rpL_setR] at S) | ((with_reducible refine iO none (.store 3 (.tmp 38) (.tmp 37)) ?_); refine step_store1 S 3 (.tmp 38) (.tmp 37) g3 7 (.int .i64 r.queued.v) rfl rfl _ _ pk kR rfl rfl (by rw [rpL_size]; decide) gw ?_; clear S; intro w S; rw [rpL_setQ k c t _ r.robots r.queued] at S) | ((with_reducible refine iO none (.store 38 (.tmp 43) (.tmp 42)) ?_); refine step_store1 S 38 (.tmp 43) (.tmp 42) g3 8 (.int .u32 (r.count.toNat : Int)) rfl rfl _ _ pk kR rfl rfl (by rw [rpL_size]; decide) gw ?_; clear S; intro w S; rw [rpL_setN] at S) | ((with_reducible refine iO none (.store 31 (.tmp 46) (.tmp 45)) ?_); refine step_store1 S 31 (.tmp 46) (.tmp 45) g3 9 (.slice ac nc cc) rfl rfl _ _ pk kR rfl rfl (by rw [rpL_size]; decide) gw ?_; clear S; intro w S; rw [rpL_setC k c t r.count _ r.records] at S) | ((with_reducible refine iO none (.store 67 (.tmp 51) (.tmp 50)) ?_); refine step_storeP S 67 (.tmp 51) (.tmp 50) g3 10 (tokL r.tok).toArray rfl rfl _ _ pk 36 kR (tokL_size _) (by rw [rpL_size]; decide) (tokL_one _) _ (rpL_setTok ..) gw ?_; clear S; intro w S) | ((with_reducible refine iD 1 (.box 79 (.tmp 0)) ?_); refine step_boxA (dst := some 1) S 79 (.tmp 0) _ rfl rfl ?_; clear S; intro g1 w S) | ((with_reducible refine iD 2 (.alloc 79) ?_); refine step_alloc (dst := some 2) S 79 (.agg ((rpL rpZ (.slice none 0 0) (.slice none 0 0)).toArray)) ((rpL rpZ (.slice none 0 0) (.slice none 0 0)).toArray) kR rfl rfl ?_; clear S; intro g2 w S) | ((with_reducible refine iO _ (.load 5 _) ?_); refine step_load1 5 _ _ _ rfl (cL) _ Tryd.underlying5 rfl rfl ?_) | ((with_reducible refine iO _ (.load 24 _) ?_); refine step_load1 24 _ _ _ rfl (cL) _ Tryd.underlying24 rfl rfl ?_) | ((with_reducible refine iO _ (.load 23 _) ?_); refine step_load1 23 _ _ _ rfl (cL) _ Tryd.underlying23 rfl rfl ?_) | ((with_reducible refine iD 3 (.alloc 79) ?_); refine step_alloc (dst := some 3) S 79 (.agg ((rpL rpZ (.slice none 0 0) (.slice none 0 0)).toArray)) ((rpL rpZ (.slice none 0 0) (.slice none 0 0)).toArray) kR rfl rfl ?_; clear S; intro g3 w S) | ((with_reducible refine iO none (.store 79 (.tmp 3) (.tmp 10)) ?_); refine step_store S 79 (.tmp 3) (.tmp 10) _ _ rfl rfl _ _ pk 46 kR lN lN on1 rfl ?_; clear S; intro w S) | ((with_reducible refine iO _ (.load 79 _) ?_); first | (refine step_load S 79 _ _ rfl _ _ _ pk _ Tryd.underlying79 rfl 46 kR lN rfl ?_) | (refine step_loadO 79 _ _ rfl _ _ _ (S.old_heap (Hid.out (by assumption))) _ Tryd.underlying79 rfl 46 kR lN rfl ?_) | (refine step_loadR 79 _ _ _ rfl _ (S.old_range hy) _ Tryd.underlying79 rfl 46 kR lN _ rfl rfl ?_)) | ((with_reducible refine iO none (.store 79 (.tmp 2) (.tmp 14)) ?_); refine step_store S 79 (.tmp 2) (.tmp 14) _ _ rfl rfl _ _ pk 46 kR lN lN on1 rfl ?_; clear S; intro w S) | ((with_reducible refine iO _ (.load 3 _) ?_); refine step_load1 3 _ _ _ rfl (cL) _ Tryd.underlying3 rfl rfl ?_) | ((with_reducible refine iO _ (.load 77 _) ?_); refine step_load1 77 _ _ _ rfl (cL) _ Tryd.underlying77 rfl rfl ?_) | ((with_reducible refine iO _ (.load 38 _) ?_); refine step_load1 38 _ _ _ rfl (cL) _ Tryd.underlying38 rfl rfl ?_) | ((with_reducible refine iO _ (.load 31 _) ?_); refine step_load1 31 _ _ _ rfl (cL) _ Tryd.underlying31 rfl rfl ?_) | ((with_reducible refine iO _ (.load 67 _) ?_); first | (refine step_loadR 67 _ _ _ rfl _ (S.old_range hy) _ Tryd.underlying67 rfl 36 kR lN _ rfl rfl ?_) | (refine step_loadP S 67 _ _ _ rfl _ _ _ pk 36 _ pT lN _ Tryd.underlying67 rfl kR rfl ?_)) | ((with_reducible refine iO none (.store 79 (.tmp 2) (.tmp 52)) ?_); refine step_store S 79 (.tmp 2) (.tmp 52) _ _ rfl rfl _ _ pk 46 kR lN lN on1 rfl ?_; clear S; intro w S) | fail)
    refine ret_row rfl g2 79 _ (S.get pk) _ Tryd.underlying79 46 kR lN rfl rfl rfl ?_
    exact ⟨rfl, S.nil⟩
end Go.Proofs.YtfhkmmagpnojmaaDoor
