/- Authorize: eight conditions in a row. No condition but the reach. -/
import Derived.Test.YtmcefinhmihmnaaDoorBd
import Derived.Test.YtmcefinhmihmnaaDoorClos
import Derived.Test.YtmcefinhmihmnaaDoorFun
import Derived.Test.YtmcefinhmihmnaaDoorBf
set_option linter.unusedSimpArgs false
set_option linter.unusedVariables false
namespace Go.Proofs.YtmcefinhmihmnaaDoor
open Go.RowKit

/-- The eight conditions, with the blocks that they hold. -/
def cndC (g7 g8 g9 g10 g11 g14 g15 : Nat) : List Cnd :=
  [(26, [.pointer (some ⟨g8, 0, none⟩), .pointer (some ⟨g10, 0, none⟩)], 2),
   (28, [.pointer (some ⟨g11, 0, none⟩), .pointer (some ⟨g7, 0, none⟩)], 2),
   (30, [.pointer (some ⟨g7, 0, none⟩), .pointer (some ⟨g9, 0, none⟩)], 180),
   (32, [.pointer (some ⟨g9, 0, none⟩), .pointer (some ⟨g8, 0, none⟩)], 190),
   (33, [.pointer (some ⟨g15, 0, none⟩), .pointer (some ⟨g14, 0, none⟩), .pointer (some ⟨g9, 0, none⟩)], 191),
   (34, [.pointer (some ⟨g14, 0, none⟩)], 192),
   (35, [.pointer (some ⟨g11, 0, none⟩), .pointer (some ⟨g14, 0, none⟩)], 193),
   (36, [.pointer (some ⟨g14, 0, none⟩), .pointer (some ⟨g10, 0, none⟩)], 194)]

def cndB (key : List UInt8) (tenant : Int) (t : Tok) (kind now : Nat) (x : Mnt) (is : Bool) : List Bool :=
  [c1B tenant kind, c2B now key, vkB key && decide (sgT key t = t), (t.tenant.toNat : Int) == tenant, c5B is x t, !x.revoked, decide (now < x.expiry.toNat), prmB x.role.toNat kind]

/-- The number of the first that fails, else 0. -/
def firstE : List Bool → List Int → Int
  | b :: bs, c :: cs => if b then firstE bs cs else c
  | _, _ => 0

set_option maxRecDepth 100000 in
set_option maxHeartbeats 8000000 in
theorem authz_core (v0 v1 : Value) (l : List Mnt) (key : List UInt8) (tenant : Int) (t : Tok) (kind now : Nat) (x : Mnt) (is : Bool) (w0 : World) (h1 : Rg w0 v0 l) (h2 : Bs w0 v1 key) (hK : KT w0) (hP : PT w0) (hc : chkR l = 0)
    (ht : -9223372036854775808 ≤ tenant ∧ tenant ≤ 9223372036854775807) (hk : kind < 256) (hn : now < 18446744073709551616)
    (p2 : ∀ v w, Rg w v l → Calls Tryd.prog 25 #[v, .int .u32 (t.serial.toNat : Int)] w fun e w' => e = .returned (.tuple #[.agg (mintL x).toArray, .bool is]) ∧ Has w w' []) :
    Calls Tryd.prog 8 #[v0, v1, .int .i64 tenant, .agg (tokL t).toArray, .int .u8 (kind : Int), .int .u64 (now : Int)] w0 fun e w' => e = .returned (.int .i64 (firstE (cndB key tenant t kind now x is) [2, 2, 180, 190, 191, 192, 193, 194])) ∧ Has w0 w' [] := by
  have S := Has.start w0
  obtain ⟨a0, c0, rfl, k1, k2⟩ := Sl.shape h1
  obtain ⟨a1, c1, rfl, k3, k4⟩ := Sl.shape h2
  have p1 := fun v w h => check_r v l w h
  rw [hc] at p1
  obtain ⟨E, hE⟩ : ∃ E, E = firstE (cndB key tenant t kind now x is) [2, 2, 180, 190, 191, 192, 193, 194] := ⟨_, rfl⟩
  rw [← hE]
  unfold maxLen at k2 k4
  have H1 := Lib.hid h1; have H2 := Lib.hid h2; have HK := Lib.hid hK; have HP := Lib.hid hP; have HE := Lib.hid hE; have P1 := Lib.hid p1; have P2 := Lib.hid p2; have HC := Lib.hid hc; clear h1 h2 hK hP hE p1 p2 hc
  go_enter Tryd.func8, Tryd.ntmps8
  go_wp2_with (first | ((with_reducible refine iD 47 (.buildSlice _ _ _) ?_); refine step_buildSN S 81 77 2 8 _ [.tmp 32, .tmp 34, .tmp 36, .tmp 38, .tmp 40, .tmp 42, .tmp 44, .tmp 46] cndL (cndC g7 g8 g9 g10 g11 g14 g15) (.agg #[.nilFunc, .int .i64 0]) Tryd.underlying81 kR (by decide) (by simp [cndC]) rfl rfl cndL_len rfl (by simp [cndC]) rfl ?_; clear S; intro v47 w S; obtain ⟨g47, c47, rfl, _⟩ := S.row_at (v := v47) pk (by decide); obtain ⟨C, HC⟩ : ∃ C, C = cndC g7 g8 g9 g10 g11 g14 g15 := ⟨_, rfl⟩; rw [← HC] at S; have HCC := Lib.hid HC; clear HC) | ((with_reducible refine iD 7 (.box 23 (.tmp 1)) ?_); refine step_box (dst := some 7) S 23 (.tmp 1) (.slice _ _ _) #[(.slice _ _ _)] rfl rfl rfl ?_; clear S; intro g7 w S) | ((with_reducible refine iD 8 (.box 3 (.tmp 2)) ?_); refine step_box (dst := some 8) S 3 (.tmp 2) (.int _ _) #[(.int _ _)] rfl rfl rfl ?_; clear S; intro g8 w S) | ((with_reducible refine iD 9 (.box 34 (.tmp 3)) ?_); refine step_boxA (dst := some 9) S 34 (.tmp 3) _ rfl rfl ?_; clear S; intro g9 w S) | ((with_reducible refine iD 10 (.box 5 (.tmp 4)) ?_); refine step_box (dst := some 10) S 5 (.tmp 4) (.int _ _) #[(.int _ _)] rfl rfl rfl ?_; clear S; intro g10 w S) | ((with_reducible refine iD 11 (.box 25 (.tmp 5)) ?_); refine step_box (dst := some 11) S 25 (.tmp 5) (.int _ _) #[(.int _ _)] rfl rfl rfl ?_; clear S; intro g11 w S) | (go_at_call 24; (with_reducible refine (P1.out _ _ sL).mono ?_); rintro e w1 ⟨rfl, T⟩; replace S := S.call T; clear T; (try simp only [z4, z5] at S)) | ((with_reducible refine iO _ (.load 31 _) ?_); refine step_load1 31 _ _ _ rfl (cL) _ Tryd.underlying31 rfl rfl ?_) | (go_at_call 25; (with_reducible refine (P2.out _ _ sL).mono ?_); rintro e w1 ⟨rfl, T⟩; replace S := S.call T; clear T; (try simp only [z4, z5] at S)) | ((with_reducible refine iD 14 (.alloc 44) ?_); refine step_alloc (dst := some 14) S 44 (.agg ((mintL mintZ).toArray)) ((mintL mintZ).toArray) kR rfl rfl ?_; clear S; intro g14 w S) | ((with_reducible refine iD 15 (.alloc 4) ?_); refine step_alloc (dst := some 15) S 4 (.bool false) (#[.bool false]) kR rfl rfl ?_; clear S; intro g15 w S) | ((with_reducible refine iO none (.store 44 (.tmp 14) (.tmp 29)) ?_); refine step_store S 44 (.tmp 14) (.tmp 29) _ _ rfl rfl _ _ pk 3 kR lN lN on1 rfl ?_; clear S; intro w S) | ((with_reducible refine iO none (.store 4 (.tmp 15) (.tmp 30)) ?_); refine step_store1 S 4 (.tmp 15) (.tmp 30) _ _ (.bool _) rfl rfl _ _ pk kR kR rfl lN rfl ?_; clear S; intro w S; try simp only [List.setIfInBounds_toArray, List.set_cons_zero, List.set_cons_succ] at S) | ((with_reducible refine iD 31 (.makeFunc _ _ _) ?_); refine step_makeF _ [.tmp 8, .tmp 10] [.pointer (some ⟨g8, 0, none⟩), .pointer (some ⟨g10, 0, none⟩)] rfl rfl ?_) | ((with_reducible refine iD 33 (.makeFunc _ _ _) ?_); refine step_makeF _ [.tmp 11, .tmp 7] [.pointer (some ⟨g11, 0, none⟩), .pointer (some ⟨g7, 0, none⟩)] rfl rfl ?_) | ((with_reducible refine iD 35 (.makeFunc _ _ _) ?_); refine step_makeF _ [.tmp 7, .tmp 9] [.pointer (some ⟨g7, 0, none⟩), .pointer (some ⟨g9, 0, none⟩)] rfl rfl ?_) | ((with_reducible refine iD 37 (.makeFunc _ _ _) ?_); refine step_makeF _ [.tmp 9, .tmp 8] [.pointer (some ⟨g9, 0, none⟩), .pointer (some ⟨g8, 0, none⟩)] rfl rfl ?_) | ((with_reducible refine iD 39 (.makeFunc _ _ _) ?_); refine step_makeF _ [.tmp 15, .tmp 14, .tmp 9] [.pointer (some ⟨g15, 0, none⟩), .pointer (some ⟨g14, 0, none⟩), .pointer (some ⟨g9, 0, none⟩)] rfl rfl ?_) | ((with_reducible refine iD 41 (.makeFunc _ _ _) ?_); refine step_makeF _ [.tmp 14] [.pointer (some ⟨g14, 0, none⟩)] rfl rfl ?_) | ((with_reducible refine iD 43 (.makeFunc _ _ _) ?_); refine step_makeF _ [.tmp 11, .tmp 14] [.pointer (some ⟨g11, 0, none⟩), .pointer (some ⟨g14, 0, none⟩)] rfl rfl ?_) | ((with_reducible refine iD 45 (.makeFunc _ _ _) ?_); refine step_makeF _ [.tmp 14, .tmp 10] [.pointer (some ⟨g14, 0, none⟩), .pointer (some ⟨g10, 0, none⟩)] rfl rfl ?_) | ((with_reducible refine iO _ (.load 77 _) ?_); first | (refine step_loadR 77 _ _ _ rfl _ (S.old_range hy) _ Tryd.underlying77 rfl 2 kR lN _ rfl rfl ?_) | (refine step_loadP S 77 _ _ _ rfl _ _ _ pk 2 _ pT lN _ Tryd.underlying77 rfl kR rfl ?_)) | ((with_reducible refine iD 18 (.alloc 77) ?_); refine step_alloc (dst := some 18) S 77 (.agg (#[.nilFunc, .int .i64 0])) (#[.nilFunc, .int .i64 0]) kR rfl rfl ?_; clear S; intro g18 w S) | ((with_reducible refine iO none (.store 77 (.tmp 18) (.tmp 53)) ?_); refine step_store S 77 (.tmp 18) (.tmp 53) _ _ rfl rfl _ _ pk 2 kR lN lN on1 rfl ?_; clear S; intro w S) | ((with_reducible refine iO _ (.load 27 _) ?_); refine step_load1 27 _ _ _ rfl (cL) _ Tryd.underlying27 rfl rfl ?_) | ((with_reducible refine iO _ (.load 28 _) ?_); refine step_load1 28 _ _ _ rfl (cL) _ Tryd.underlying28 rfl rfl ?_) | fail)
  obtain ⟨B, hB⟩ : ∃ B, B = cndB key tenant t kind now x is := ⟨_, rfl⟩
  have hcl : ∀ k, k < 8 → ∃ c, C[k]? = some c := by
    intro k hk
    have : C.length = 8 := by rw [HCC.out]; rfl
    exact ⟨_, List.getElem?_eq_getElem (by omega)⟩
  have hfn : ∀ (k : Nat) (c : Cnd), C[k]? = some c → ∃ fn, Tryd.prog.funcs[c.1]? = some fn ∧ (fn.name == "runtime.NumGoroutine") = false ∧ fn.body.isNone = false := by
    intro k c hck
    have hk8 : k < 8 := by
      have : C.length = 8 := by rw [HCC.out]; rfl
      have := (List.getElem?_eq_some_iff.1 hck).1
      omega
    rw [HCC.out] at hck
    obtain rfl | rfl | rfl | rfl | rfl | rfl | rfl | rfl : k = 0 ∨ k = 1 ∨ k = 2 ∨ k = 3 ∨ k = 4 ∨ k = 5 ∨ k = 6 ∨ k = 7 := by omega
    · obtain rfl := Option.some.inj hck; exact ⟨_, Tryd.func26, by kernel_rfl, by kernel_rfl⟩
    · obtain rfl := Option.some.inj hck; exact ⟨_, Tryd.func28, by kernel_rfl, by kernel_rfl⟩
    · obtain rfl := Option.some.inj hck; exact ⟨_, Tryd.func30, by kernel_rfl, by kernel_rfl⟩
    · obtain rfl := Option.some.inj hck; exact ⟨_, Tryd.func32, by kernel_rfl, by kernel_rfl⟩
    · obtain rfl := Option.some.inj hck; exact ⟨_, Tryd.func33, by kernel_rfl, by kernel_rfl⟩
    · obtain rfl := Option.some.inj hck; exact ⟨_, Tryd.func34, by kernel_rfl, by kernel_rfl⟩
    · obtain rfl := Option.some.inj hck; exact ⟨_, Tryd.func35, by kernel_rfl, by kernel_rfl⟩
    · obtain rfl := Option.some.inj hck; exact ⟨_, Tryd.func36, by kernel_rfl, by kernel_rfl⟩
  have hcall : ∀ (k : Nat) (c : Cnd) (w1 : World), C[k]? = some c → Has w0 w1 [blk g15 (.cells #[.bool is] 4 (0, 0)), blk g14 (.cells (mintL x).toArray 44 (0, 0)), blk g11 (.cells #[.int .u64 (now : Int)] 25 (0, 0)), blk g10 (.cells #[.int .u8 (kind : Int)] 5 (0, 0)), blk g9 (.cells (tokL t).toArray 34 (0, 0)), blk g8 (.cells #[.int .i64 tenant] 3 (0, 0)), blk g7 (.cells #[.slice a1 key.length c1] 23 (0, 0))] → Calls Tryd.prog c.1 c.2.1.toArray w1 fun e w2 => e = .returned (.bool (B.getD k true)) ∧ Has w1 w2 [] := by
    intro k c w1 hck S1
    have hk8 : k < 8 := by
      have : C.length = 8 := by rw [HCC.out]; rfl
      have := (List.getElem?_eq_some_iff.1 hck).1
      omega
    rw [HCC.out] at hck
    obtain rfl | rfl | rfl | rfl | rfl | rfl | rfl | rfl : k = 0 ∨ k = 1 ∨ k = 2 ∨ k = 3 ∨ k = 4 ∨ k = 5 ∨ k = 6 ∨ k = 7 := by omega
    · obtain rfl := Option.some.inj hck; rw [hB]; exact clo1_s g8 g10 tenant kind w1 (S1.cell pk rfl) (S1.cell pk rfl) ht hk
    · obtain rfl := Option.some.inj hck; rw [hB]; exact clo2_s g11 g7 now _ key w1 (S1.cell pk rfl) (S1.cell pk rfl) (S1.oldB H2.out) hn
    · obtain rfl := Option.some.inj hck; rw [hB]; exact clo3_s g7 g9 _ key t w1 (S1.cell pk rfl) (S1.get (r := blk g9 _) pk) (S1.oldB H2.out) (S1.kt HK.out)
    · obtain rfl := Option.some.inj hck; rw [hB]; exact clo4_s g9 g8 t tenant w1 (S1.cell pk rfl) (S1.cell pk rfl)
    · obtain rfl := Option.some.inj hck; rw [hB]; exact clo5_s g15 g14 g9 is x t w1 (S1.cell pk rfl) (S1.cell pk rfl) (S1.cell pk rfl) (S1.cell pk rfl) (S1.cell pk rfl)
    · obtain rfl := Option.some.inj hck; rw [hB]; exact clo6_s g14 x w1 (S1.cell pk rfl)
    · obtain rfl := Option.some.inj hck; rw [hB]; exact clo7_s g11 g14 now x w1 (S1.cell pk rfl) (S1.cell pk rfl)
    · obtain rfl := Option.some.inj hck; rw [hB]; exact clo8_s g14 g10 x kind w1 (S1.cell pk rfl) (S1.cell pk rfl) hk (S1.pt HP.out)
  have he0 : (∀ j, j < 8 → B.getD j true = true) → E = 0 := by
    intro h
    have g := fun j hj => h j hj
    rw [HE.out, ← hB]
    have hBl : B.length = 8 := by rw [hB]; rfl
    match B, hBl, h with
    | [b0, b1, b2, b3, b4, b5, b6, b7], _, h =>
      have e0 := h 0 (by omega); have e1 := h 1 (by omega); have e2 := h 2 (by omega); have e3 := h 3 (by omega); have e4 := h 4 (by omega); have e5 := h 5 (by omega); have e6 := h 6 (by omega); have e7 := h 7 (by omega)
      simp at e0 e1 e2 e3 e4 e5 e6 e7
      subst e0 e1 e2 e3 e4 e5 e6 e7
      rfl
  have hek : ∀ (k : Nat) (c : Cnd), C[k]? = some c → (∀ j, j < k → B.getD j true = true) → B.getD k true = false → E = c.2.2 := by
    intro k c hck h hb
    have hk8 : k < 8 := by
      have : C.length = 8 := by rw [HCC.out]; rfl
      have := (List.getElem?_eq_some_iff.1 hck).1
      omega
    rw [HE.out, ← hB]
    have hBl : B.length = 8 := by rw [hB]; rfl
    rw [HCC.out] at hck
    match B, hBl, h, hb with
    | [b0, b1, b2, b3, b4, b5, b6, b7], _, h, hb =>
      obtain rfl | rfl | rfl | rfl | rfl | rfl | rfl | rfl : k = 0 ∨ k = 1 ∨ k = 2 ∨ k = 3 ∨ k = 4 ∨ k = 5 ∨ k = 6 ∨ k = 7 := by omega
      all_goals
        have e0 := h 0; have e1 := h 1; have e2 := h 2; have e3 := h 3; have e4 := h 4; have e5 := h 5; have e6 := h 6
        simp at e0 e1 e2 e3 e4 e5 e6 hb
        simp [cndC] at hck
        subst hck
        simp [firstE, *]
  have HB := Lib.hid hB; have HCL := Lib.hid hcl; have HFN := Lib.hid hfn; have HCALL := Lib.hid hcall; have HE0 := Lib.hid he0; have HEK := Lib.hid hek; clear hB hcl hfn hcall he0 hek
  go_loopw [50] (fun u wr => ∃ (k : Nat), k ≤ 8 ∧ u = .int .i64 (k : Int) ∧ (∀ j, j < k → B.getD j true = true) ∧ Has w0 wr [row (.slice (some ⟨g47, 0, none⟩) 8 c47) 77 2 8 (C.flatMap cndL), blk g15 (.cells #[.bool is] 4 (0, 0)), blk g14 (.cells (mintL x).toArray 44 (0, 0)), blk g11 (.cells #[.int .u64 (now : Int)] 25 (0, 0)), blk g10 (.cells #[.int .u8 (kind : Int)] 5 (0, 0)), blk g9 (.cells (tokL t).toArray 34 (0, 0)), blk g8 (.cells #[.int .i64 tenant] 3 (0, 0)), blk g7 (.cells #[.slice a1 key.length c1] 23 (0, 0))]) (fun u _ => 8 - (intOf u).toNat)
  case atStart => exact ⟨0, Nat.zero_le _, rfl, fun j hj => by omega, S⟩
  case round =>
    obtain ⟨k, hk, rfl, hgood, S⟩ := hrel
    have HG := Lib.hid hgood
    clear hgood
    by_cases hlt : k < 8
    · obtain ⟨c, hck⟩ := HCL.out k hlt
      have hki : (k : Int) < 8 := by omega
      obtain ⟨fn, hf1, hf2, hf3⟩ := HFN.out k c hck
      have hr := S.row_range (f := cndL) (n := 8) (c := c47) pk cndL_len (by decide) k c hck
      have hca := fun w1 S => HCALL.out k c w1 hck S
      obtain ⟨bb, hbb⟩ : ∃ bb, bb = B.getD k true := ⟨_, rfl⟩
      rw [← hbb] at hca
      have HCK := Lib.hid hck; have HF1 := Lib.hid hf1; have HF2 := Lib.hid hf2; have HF3 := Lib.hid hf3; have HBB := Lib.hid hbb; have HCA := Lib.hid hca; clear hck hf1 hf2 hf3 hbb hca
      cases bb
      all_goals
        go_wp2_with (first | ((with_reducible refine iD 53 (.load _ _) ?_); refine step_loadR 77 (.tmp 52) _ _ rfl _ hr _ Tryd.underlying77 rfl 2 kR (cndL_len c) _ rfl rfl ?_; clear hr) | ((with_reducible refine iD 56 (.call _) ?_); refine step_callV (.tmp 55) _ c.1 fn c.2.1 rfl HF1.out HF2.out HF3.out (HCA.out _ (S.sub (by repeat (first | exact Sub.nil _ | refine Sub.cons pk ?_)))) rfl ?_; rintro e w2 ⟨rfl, T⟩; refine ⟨_, rfl, ?_⟩; replace S := S.call T; clear T; try simp only [List.nil_append] at S) | ((with_reducible refine iD 7 (.box 23 (.tmp 1)) ?_); refine step_box (dst := some 7) S 23 (.tmp 1) (.slice _ _ _) #[(.slice _ _ _)] rfl rfl rfl ?_; clear S; intro g7 w S) | ((with_reducible refine iD 8 (.box 3 (.tmp 2)) ?_); refine step_box (dst := some 8) S 3 (.tmp 2) (.int _ _) #[(.int _ _)] rfl rfl rfl ?_; clear S; intro g8 w S) | ((with_reducible refine iD 9 (.box 34 (.tmp 3)) ?_); refine step_boxA (dst := some 9) S 34 (.tmp 3) _ rfl rfl ?_; clear S; intro g9 w S) | ((with_reducible refine iD 10 (.box 5 (.tmp 4)) ?_); refine step_box (dst := some 10) S 5 (.tmp 4) (.int _ _) #[(.int _ _)] rfl rfl rfl ?_; clear S; intro g10 w S) | ((with_reducible refine iD 11 (.box 25 (.tmp 5)) ?_); refine step_box (dst := some 11) S 25 (.tmp 5) (.int _ _) #[(.int _ _)] rfl rfl rfl ?_; clear S; intro g11 w S) | ((with_reducible refine iO _ (.load 31 _) ?_); refine step_load1 31 _ _ _ rfl (cL) _ Tryd.underlying31 rfl rfl ?_) | ((with_reducible refine iD 14 (.alloc 44) ?_); refine step_alloc (dst := some 14) S 44 (.agg ((mintL mintZ).toArray)) ((mintL mintZ).toArray) kR rfl rfl ?_; clear S; intro g14 w S) | ((with_reducible refine iD 15 (.alloc 4) ?_); refine step_alloc (dst := some 15) S 4 (.bool false) (#[.bool false]) kR rfl rfl ?_; clear S; intro g15 w S) | ((with_reducible refine iO none (.store 44 (.tmp 14) (.tmp 29)) ?_); refine step_store S 44 (.tmp 14) (.tmp 29) _ _ rfl rfl _ _ pk 3 kR lN lN on1 rfl ?_; clear S; intro w S) | ((with_reducible refine iO none (.store 4 (.tmp 15) (.tmp 30)) ?_); refine step_store1 S 4 (.tmp 15) (.tmp 30) _ _ (.bool _) rfl rfl _ _ pk kR kR rfl lN rfl ?_; clear S; intro w S; try simp only [List.setIfInBounds_toArray, List.set_cons_zero, List.set_cons_succ] at S) | ((with_reducible refine iD 31 (.makeFunc _ _ _) ?_); refine step_makeF _ [.tmp 8, .tmp 10] [.pointer (some ⟨g8, 0, none⟩), .pointer (some ⟨g10, 0, none⟩)] rfl rfl ?_) | ((with_reducible refine iD 33 (.makeFunc _ _ _) ?_); refine step_makeF _ [.tmp 11, .tmp 7] [.pointer (some ⟨g11, 0, none⟩), .pointer (some ⟨g7, 0, none⟩)] rfl rfl ?_) | ((with_reducible refine iD 35 (.makeFunc _ _ _) ?_); refine step_makeF _ [.tmp 7, .tmp 9] [.pointer (some ⟨g7, 0, none⟩), .pointer (some ⟨g9, 0, none⟩)] rfl rfl ?_) | ((with_reducible refine iD 37 (.makeFunc _ _ _) ?_); refine step_makeF _ [.tmp 9, .tmp 8] [.pointer (some ⟨g9, 0, none⟩), .pointer (some ⟨g8, 0, none⟩)] rfl rfl ?_) | ((with_reducible refine iD 39 (.makeFunc _ _ _) ?_); refine step_makeF _ [.tmp 15, .tmp 14, .tmp 9] [.pointer (some ⟨g15, 0, none⟩), .pointer (some ⟨g14, 0, none⟩), .pointer (some ⟨g9, 0, none⟩)] rfl rfl ?_) | ((with_reducible refine iD 41 (.makeFunc _ _ _) ?_); refine step_makeF _ [.tmp 14] [.pointer (some ⟨g14, 0, none⟩)] rfl rfl ?_) | ((with_reducible refine iD 43 (.makeFunc _ _ _) ?_); refine step_makeF _ [.tmp 11, .tmp 14] [.pointer (some ⟨g11, 0, none⟩), .pointer (some ⟨g14, 0, none⟩)] rfl rfl ?_) | ((with_reducible refine iD 45 (.makeFunc _ _ _) ?_); refine step_makeF _ [.tmp 14, .tmp 10] [.pointer (some ⟨g14, 0, none⟩), .pointer (some ⟨g10, 0, none⟩)] rfl rfl ?_) | ((with_reducible refine iD 18 (.alloc 77) ?_); refine step_alloc (dst := some 18) S 77 (.agg (#[.nilFunc, .int .i64 0])) (#[.nilFunc, .int .i64 0]) kR rfl rfl ?_; clear S; intro g18 w S) | ((with_reducible refine iO none (.store 77 (.tmp 18) (.tmp 53)) ?_); refine step_store S 77 (.tmp 18) (.tmp 53) _ _ rfl rfl _ _ pk 2 kR lN lN on1 rfl ?_; clear S; intro w S) | ((with_reducible refine iO _ (.load 27 _) ?_); refine step_load1 27 _ _ _ rfl (cL) _ Tryd.underlying27 rfl rfl ?_) | ((with_reducible refine iO _ (.load 28 _) ?_); refine step_load1 28 _ _ _ rfl (cL) _ Tryd.underlying28 rfl rfl ?_) | fail)
        first
          | (go_ret
             refine ⟨?_, S.nil⟩
             rw [HEK.out k c HCK.out HG.out HBB.out.symm]
             rfl)
          | (go_roundw
             case rel =>
               refine ⟨k + 1, by omega, by go_num, fun j hj => ?_, S.sub (by repeat (first | exact Sub.nil _ | refine Sub.cons pk ?_))⟩
               by_cases hjk : j = k
               · rw [hjk]; exact HBB.out.symm
               · exact HG.out j (by omega)
             all_goals first | omega | (simp only [intOf]; omega))
    · have hke : k = 8 := by omega
      subst hke
      go_wp2_with (first | ((with_reducible refine iD 7 (.box 23 (.tmp 1)) ?_); refine step_box (dst := some 7) S 23 (.tmp 1) (.slice _ _ _) #[(.slice _ _ _)] rfl rfl rfl ?_; clear S; intro g7 w S) | ((with_reducible refine iD 8 (.box 3 (.tmp 2)) ?_); refine step_box (dst := some 8) S 3 (.tmp 2) (.int _ _) #[(.int _ _)] rfl rfl rfl ?_; clear S; intro g8 w S) | ((with_reducible refine iD 9 (.box 34 (.tmp 3)) ?_); refine step_boxA (dst := some 9) S 34 (.tmp 3) _ rfl rfl ?_; clear S; intro g9 w S) | ((with_reducible refine iD 10 (.box 5 (.tmp 4)) ?_); refine step_box (dst := some 10) S 5 (.tmp 4) (.int _ _) #[(.int _ _)] rfl rfl rfl ?_; clear S; intro g10 w S) | ((with_reducible refine iD 11 (.box 25 (.tmp 5)) ?_); refine step_box (dst := some 11) S 25 (.tmp 5) (.int _ _) #[(.int _ _)] rfl rfl rfl ?_; clear S; intro g11 w S) | ((with_reducible refine iO _ (.load 31 _) ?_); refine step_load1 31 _ _ _ rfl (cL) _ Tryd.underlying31 rfl rfl ?_) | ((with_reducible refine iD 14 (.alloc 44) ?_); refine step_alloc (dst := some 14) S 44 (.agg ((mintL mintZ).toArray)) ((mintL mintZ).toArray) kR rfl rfl ?_; clear S; intro g14 w S) | ((with_reducible refine iD 15 (.alloc 4) ?_); refine step_alloc (dst := some 15) S 4 (.bool false) (#[.bool false]) kR rfl rfl ?_; clear S; intro g15 w S) | ((with_reducible refine iO none (.store 44 (.tmp 14) (.tmp 29)) ?_); refine step_store S 44 (.tmp 14) (.tmp 29) _ _ rfl rfl _ _ pk 3 kR lN lN on1 rfl ?_; clear S; intro w S) | ((with_reducible refine iO none (.store 4 (.tmp 15) (.tmp 30)) ?_); refine step_store1 S 4 (.tmp 15) (.tmp 30) _ _ (.bool _) rfl rfl _ _ pk kR kR rfl lN rfl ?_; clear S; intro w S; try simp only [List.setIfInBounds_toArray, List.set_cons_zero, List.set_cons_succ] at S) | ((with_reducible refine iD 31 (.makeFunc _ _ _) ?_); refine step_makeF _ [.tmp 8, .tmp 10] [.pointer (some ⟨g8, 0, none⟩), .pointer (some ⟨g10, 0, none⟩)] rfl rfl ?_) | ((with_reducible refine iD 33 (.makeFunc _ _ _) ?_); refine step_makeF _ [.tmp 11, .tmp 7] [.pointer (some ⟨g11, 0, none⟩), .pointer (some ⟨g7, 0, none⟩)] rfl rfl ?_) | ((with_reducible refine iD 35 (.makeFunc _ _ _) ?_); refine step_makeF _ [.tmp 7, .tmp 9] [.pointer (some ⟨g7, 0, none⟩), .pointer (some ⟨g9, 0, none⟩)] rfl rfl ?_) | ((with_reducible refine iD 37 (.makeFunc _ _ _) ?_); refine step_makeF _ [.tmp 9, .tmp 8] [.pointer (some ⟨g9, 0, none⟩), .pointer (some ⟨g8, 0, none⟩)] rfl rfl ?_) | ((with_reducible refine iD 39 (.makeFunc _ _ _) ?_); refine step_makeF _ [.tmp 15, .tmp 14, .tmp 9] [.pointer (some ⟨g15, 0, none⟩), .pointer (some ⟨g14, 0, none⟩), .pointer (some ⟨g9, 0, none⟩)] rfl rfl ?_) | ((with_reducible refine iD 41 (.makeFunc _ _ _) ?_); refine step_makeF _ [.tmp 14] [.pointer (some ⟨g14, 0, none⟩)] rfl rfl ?_) | ((with_reducible refine iD 43 (.makeFunc _ _ _) ?_); refine step_makeF _ [.tmp 11, .tmp 14] [.pointer (some ⟨g11, 0, none⟩), .pointer (some ⟨g14, 0, none⟩)] rfl rfl ?_) | ((with_reducible refine iD 45 (.makeFunc _ _ _) ?_); refine step_makeF _ [.tmp 14, .tmp 10] [.pointer (some ⟨g14, 0, none⟩), .pointer (some ⟨g10, 0, none⟩)] rfl rfl ?_) | ((with_reducible refine iD 18 (.alloc 77) ?_); refine step_alloc (dst := some 18) S 77 (.agg (#[.nilFunc, .int .i64 0])) (#[.nilFunc, .int .i64 0]) kR rfl rfl ?_; clear S; intro g18 w S) | ((with_reducible refine iO none (.store 77 (.tmp 18) (.tmp 53)) ?_); refine step_store S 77 (.tmp 18) (.tmp 53) _ _ rfl rfl _ _ pk 2 kR lN lN on1 rfl ?_; clear S; intro w S) | ((with_reducible refine iO _ (.load 27 _) ?_); refine step_load1 27 _ _ _ rfl (cL) _ Tryd.underlying27 rfl rfl ?_) | ((with_reducible refine iO _ (.load 28 _) ?_); refine step_load1 28 _ _ _ rfl (cL) _ Tryd.underlying28 rfl rfl ?_) | fail)
      go_ret
      refine ⟨?_, S.nil⟩
      rw [HE0.out HG.out]
      rfl
end Go.Proofs.YtmcefinhmihmnaaDoor
