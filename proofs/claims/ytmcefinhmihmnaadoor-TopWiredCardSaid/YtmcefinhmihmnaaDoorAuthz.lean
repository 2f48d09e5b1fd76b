/- Authorize of the program and of the specification, as plain words. No condition but the tables and the reach. -/
import Derived.Test.YtmcefinhmihmnaaDoorBd
import Derived.Test.YtmcefinhmihmnaaDoorAuz
import Derived.Test.YtmcefinhmihmnaaDoorBf
set_option linter.unusedSimpArgs false
set_option linter.unusedVariables false
namespace Go.Proofs.YtmcefinhmihmnaaDoor
open Go.RowKit

def auzF (key : List UInt8) (tenant : Int) (t : Tok) (kind now : Nat) (x : Mnt) (is : Bool) : Int := firstE (cndB key tenant t kind now x is) [2, 2, 180, 190, 191, 192, 193, 194]

/-- What Authorize returns. -/
def auzE (l : List Mnt) (key : List UInt8) (tenant : Int) (t : Tok) (kind now : Nat) : Int :=
  if chkR l ≠ 0 then chkR l else match entR l t.serial.toNat with
    | none => auzF key tenant t kind now mintZ false
    | some x => auzF key tenant t kind now x true

set_option maxRecDepth 100000 in
set_option maxHeartbeats 8000000 in
theorem authz_s (v0 v1 : Value) (l : List Mnt) (key : List UInt8) (tenant : Int) (t : Tok) (kind now : Nat) (w0 : World) (h1 : Rg w0 v0 l) (h2 : Bs w0 v1 key) (hK : KT w0) (hP : PT w0)
    (ht : -9223372036854775808 ≤ tenant ∧ tenant ≤ 9223372036854775807) (hk : kind < 256) (hn : now < 18446744073709551616) :
    Calls Tryd.prog 8 #[v0, v1, .int .i64 tenant, .agg (tokL t).toArray, .int .u8 (kind : Int), .int .u64 (now : Int)] w0 fun e w' => e = .returned (.int .i64 (auzE l key tenant t kind now)) ∧ Has w0 w' [] := by
  have hs : t.serial.toNat < 4294967296 := t.serial.toNat_lt
  by_cases hc : chkR l = 0
  · cases he : entR l t.serial.toNat with
    | none =>
      have hE : auzE l key tenant t kind now = auzF key tenant t kind now mintZ false := by unfold auzE; rw [if_neg (by omega), he]
      rw [hE]
      exact authz_core v0 v1 l key tenant t kind now mintZ false w0 h1 h2 hK hP hc ht hk hn (fun v w h => entry_none v l _ w h hs he)
    | some x =>
      have hE : auzE l key tenant t kind now = auzF key tenant t kind now x true := by unfold auzE; rw [if_neg (by omega), he]
      rw [hE]
      exact authz_core v0 v1 l key tenant t kind now x true w0 h1 h2 hK hP hc ht hk hn (fun v w h => entry_some v l _ x w h hs he)
  · rw [show auzE l key tenant t kind now = chkR l from if_pos hc]
    have S := Has.start w0
    obtain ⟨a0, c0, rfl, k1, k2⟩ := Sl.shape h1
    obtain ⟨a1, c1, rfl, k3, k4⟩ := Sl.shape h2
    have p1 := fun v w h => check_r v l w h
    obtain ⟨E, hEe⟩ : ∃ E, E = chkR l := ⟨_, rfl⟩
    rw [← hEe] at p1 hc ⊢
    have i1 : (E != 0) = true := by simpa using hc
    clear hEe hc hs
    unfold maxLen at k2 k4
    have H1 := Lib.hid h1; have H2 := Lib.hid h2; have HK := Lib.hid hK; have HP := Lib.hid hP; have P1 := Lib.hid p1; clear h1 h2 hK hP p1
    go_enter Tryd.func8, Tryd.ntmps8
    go_wp2_with (first | ((with_reducible refine iD 7 (.box 23 (.tmp 1)) ?_); refine step_box (dst := some 7) S 23 (.tmp 1) (.slice _ _ _) #[(.slice _ _ _)] rfl rfl rfl ?_; clear S; intro g7 w S) | ((with_reducible refine iD 8 (.box 3 (.tmp 2)) ?_); refine step_box (dst := some 8) S 3 (.tmp 2) (.int _ _) #[(.int _ _)] rfl rfl rfl ?_; clear S; intro g8 w S) | ((with_reducible refine iD 9 (.box 34 (.tmp 3)) ?_); refine step_boxA (dst := some 9) S 34 (.tmp 3) _ rfl rfl ?_; clear S; intro g9 w S) | ((with_reducible refine iD 10 (.box 5 (.tmp 4)) ?_); refine step_box (dst := some 10) S 5 (.tmp 4) (.int _ _) #[(.int _ _)] rfl rfl rfl ?_; clear S; intro g10 w S) | ((with_reducible refine iD 11 (.box 25 (.tmp 5)) ?_); refine step_box (dst := some 11) S 25 (.tmp 5) (.int _ _) #[(.int _ _)] rfl rfl rfl ?_; clear S; intro g11 w S) | (go_at_call 24; (with_reducible refine (P1.out _ _ sL).mono ?_); rintro e w1 ⟨rfl, T⟩; replace S := S.call T; clear T; (try simp only [z4, z5] at S)) | ((with_reducible refine iO _ (.load 31 _) ?_); refine step_load1 31 _ _ _ rfl (cL) _ Tryd.underlying31 rfl rfl ?_) | ((with_reducible refine iD 14 (.alloc 44) ?_); refine step_alloc (dst := some 14) S 44 (.agg ((mintL mintZ).toArray)) ((mintL mintZ).toArray) kR rfl rfl ?_; clear S; intro g14 w S) | ((with_reducible refine iD 15 (.alloc 4) ?_); refine step_alloc (dst := some 15) S 4 (.bool false) (#[.bool false]) kR rfl rfl ?_; clear S; intro g15 w S) | ((with_reducible refine iO none (.store 44 (.tmp 14) (.tmp 29)) ?_); refine step_store S 44 (.tmp 14) (.tmp 29) _ _ rfl rfl _ _ pk 3 kR lN lN on1 rfl ?_; clear S; intro w S) | ((with_reducible refine iO none (.store 4 (.tmp 15) (.tmp 30)) ?_); refine step_store1 S 4 (.tmp 15) (.tmp 30) _ _ (.bool _) rfl rfl _ _ pk kR kR rfl lN rfl ?_; clear S; intro w S; try simp only [List.setIfInBounds_toArray, List.set_cons_zero, List.set_cons_succ] at S) | ((with_reducible refine iD 31 (.makeFunc _ _ _) ?_); refine step_makeF _ [.tmp 8, .tmp 10] [.pointer (some ⟨g8, 0, none⟩), .pointer (some ⟨g10, 0, none⟩)] rfl rfl ?_) | ((with_reducible refine iD 33 (.makeFunc _ _ _) ?_); refine step_makeF _ [.tmp 11, .tmp 7] [.pointer (some ⟨g11, 0, none⟩), .pointer (some ⟨g7, 0, none⟩)] rfl rfl ?_) | ((with_reducible refine iD 35 (.makeFunc _ _ _) ?_); refine step_makeF _ [.tmp 7, .tmp 9] [.pointer (some ⟨g7, 0, none⟩), .pointer (some ⟨g9, 0, none⟩)] rfl rfl ?_) | ((with_reducible refine iD 37 (.makeFunc _ _ _) ?_); refine step_makeF _ [.tmp 9, .tmp 8] [.pointer (some ⟨g9, 0, none⟩), .pointer (some ⟨g8, 0, none⟩)] rfl rfl ?_) | ((with_reducible refine iD 39 (.makeFunc _ _ _) ?_); refine step_makeF _ [.tmp 15, .tmp 14, .tmp 9] [.pointer (some ⟨g15, 0, none⟩), .pointer (some ⟨g14, 0, none⟩), .pointer (some ⟨g9, 0, none⟩)] rfl rfl ?_) | ((with_reducible refine iD 41 (.makeFunc _ _ _) ?_); refine step_makeF _ [.tmp 14] [.pointer (some ⟨g14, 0, none⟩)] rfl rfl ?_) | ((with_reducible refine iD 43 (.makeFunc _ _ _) ?_); refine step_makeF _ [.tmp 11, .tmp 14] [.pointer (some ⟨g11, 0, none⟩), .pointer (some ⟨g14, 0, none⟩)] rfl rfl ?_) | ((with_reducible refine iD 45 (.makeFunc _ _ _) ?_); refine step_makeF _ [.tmp 14, .tmp 10] [.pointer (some ⟨g14, 0, none⟩), .pointer (some ⟨g10, 0, none⟩)] rfl rfl ?_) | ((with_reducible refine iO _ (.load 77 _) ?_); first | (refine step_loadR 77 _ _ _ rfl _ (S.old_range hy) _ Tryd.underlying77 rfl 2 kR lN _ rfl rfl ?_) | (refine step_loadP S 77 _ _ _ rfl _ _ _ pk 2 _ pT lN _ Tryd.underlying77 rfl kR rfl ?_)) | ((with_reducible refine iD 18 (.alloc 77) ?_); refine step_alloc (dst := some 18) S 77 (.agg (#[.nilFunc, .int .i64 0])) (#[.nilFunc, .int .i64 0]) kR rfl rfl ?_; clear S; intro g18 w S) | ((with_reducible refine iO none (.store 77 (.tmp 18) (.tmp 53)) ?_); refine step_store S 77 (.tmp 18) (.tmp 53) _ _ rfl rfl _ _ pk 2 kR lN lN on1 rfl ?_; clear S; intro w S) | ((with_reducible refine iO _ (.load 27 _) ?_); refine step_load1 27 _ _ _ rfl (cL) _ Tryd.underlying27 rfl rfl ?_) | ((with_reducible refine iO _ (.load 28 _) ?_); refine step_load1 28 _ _ _ rfl (cL) _ Tryd.underlying28 rfl rfl ?_) | fail)
    go_ret
    exact ⟨rfl, S.nil⟩

/-- The walk of the specification's Authorize, its answers told. -/
def auzT (key : List UInt8) (tenant : Int) (t : Tok) (kind now : Nat) (o : Option Mnt) : Int :=
  if ¬ (0 ≤ tenant ∧ tenant < 3 ∧ 1 ≤ kind ∧ kind ≤ 6 ∧ now ≤ 4611686018427387904 ∧ vkB key = true) then 2
  else if sgT key t ≠ t then 180 else if (t.tenant.toNat : Int) ≠ tenant then 190
  else match o with
    | none => 191
    | some x => if ¬ (x.role = t.role ∧ x.expiry = t.expiry) then 191 else if x.revoked = true then 192 else if x.expiry.toNat ≤ now then 193 else if prmB x.role.toNat kind = false then 194 else 0

theorem auzE_eq (l : List Mnt) (key : List UInt8) (tenant : Int) (t : Tok) (kind now : Nat) : auzE l key tenant t kind now = if chkR l ≠ 0 then chkR l else auzT key tenant t kind now (entR l t.serial.toNat) := by
  unfold auzE
  split
  · rfl
  · have h : ∀ x is, auzF key tenant t kind now x is = if ¬ (0 ≤ tenant ∧ tenant < 3 ∧ 1 ≤ kind ∧ kind ≤ 6 ∧ now ≤ 4611686018427387904 ∧ vkB key = true) then 2
        else if sgT key t ≠ t then 180 else if (t.tenant.toNat : Int) ≠ tenant then 190
        else if is = false then 191 else if ¬ (x.role = t.role ∧ x.expiry = t.expiry) then 191 else if x.revoked = true then 192 else if x.expiry.toNat ≤ now then 193 else if prmB x.role.toNat kind = false then 194 else 0 := by
      intro x is
      have e1 : c1B tenant kind = true ↔ (0 ≤ tenant ∧ tenant < 3 ∧ 1 ≤ kind ∧ kind ≤ 6) := by
        unfold c1B tnC; simp only [Bool.and_eq_true, decide_eq_true_eq]; omega
      have e2 : c2B now key = true ↔ (now ≤ 4611686018427387904 ∧ vkB key = true) := by
        unfold c2B; simp only [Bool.and_eq_true, decide_eq_true_eq]
      have e3 : (vkB key && decide (sgT key t = t)) = true ↔ (vkB key = true ∧ sgT key t = t) := by simp only [Bool.and_eq_true, decide_eq_true_eq]
      have e4 : ((t.tenant.toNat : Int) == tenant) = true ↔ ((t.tenant.toNat : Int) = tenant) := by simp only [beq_iff_eq]
      have e5 : c5B is x t = true ↔ (is = true ∧ x.role = t.role ∧ x.expiry = t.expiry) := by unfold c5B; simp only [Bool.and_eq_true, decide_eq_true_eq]
      have e6 : (!x.revoked) = true ↔ ¬ (x.revoked = true) := by cases x.revoked <;> simp
      have e7 : decide (now < x.expiry.toNat) = true ↔ ¬ (x.expiry.toNat ≤ now) := by simp
      unfold auzF cndB
      simp only [firstE]
      by_cases g1 : 0 ≤ tenant ∧ tenant < 3 ∧ 1 ≤ kind ∧ kind ≤ 6
      · rw [if_pos (e1.2 g1)]
        by_cases g2 : now ≤ 4611686018427387904 ∧ vkB key = true
        · rw [if_pos (e2.2 g2), if_neg (not_not_intro ⟨g1.1, g1.2.1, g1.2.2.1, g1.2.2.2, g2.1, g2.2⟩)]
          by_cases g3 : sgT key t = t
          · rw [if_pos (e3.2 ⟨g2.2, g3⟩), if_neg (not_not_intro g3)]
            by_cases g4 : (t.tenant.toNat : Int) = tenant
            · rw [if_pos (e4.2 g4), if_neg (not_not_intro g4)]
              cases is with
              | false => rw [if_neg (fun h => by have := (e5.1 h).1; cases this), if_pos rfl]
              | true =>
                rw [if_neg (show ¬ (true = false) by decide)]
                by_cases g5 : x.role = t.role ∧ x.expiry = t.expiry
                · rw [if_pos (e5.2 ⟨rfl, g5⟩), if_neg (not_not_intro g5)]
                  by_cases g6 : x.revoked = true
                  · rw [if_neg (fun h => e6.1 h g6), if_pos g6]
                  · rw [if_pos (e6.2 g6), if_neg g6]
                    by_cases g7 : x.expiry.toNat ≤ now
                    · rw [if_neg (fun h => e7.1 h g7), if_pos g7]
                    · rw [if_pos (e7.2 g7), if_neg g7]
                      cases prmB x.role.toNat kind <;> simp
                · rw [if_neg (fun h => g5 (e5.1 h).2), if_pos g5]
            · rw [if_neg (fun h => g4 (e4.1 h)), if_pos g4]
          · rw [if_neg (fun h => g3 (e3.1 h).2), if_pos g3]
        · rw [if_neg (fun h => g2 (e2.1 h)), if_pos (fun h => g2 ⟨h.2.2.2.2.1, h.2.2.2.2.2⟩)]
      · rw [if_neg (fun h => g1 (e1.1 h)), if_pos (fun h => g1 ⟨h.1, h.2.1, h.2.2.1, h.2.2.2.1⟩)]
    unfold auzT
    cases entR l t.serial.toNat with
    | none => simp only [h, if_true]
    | some x => simp only [h, if_false, Bool.true_eq_false, Bool.false_eq_true]
end Go.Proofs.YtmcefinhmihmnaaDoor
