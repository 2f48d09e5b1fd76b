/- The conditions of Authorize: what each of its functions returns. No condition but the tables. -/
import Derived.Test.YtmcefinhmihmnaaDoorBd
import Derived.Test.YtmcefinhmihmnaaDoorPerm
import Derived.Test.YtmcefinhmihmnaaDoorTokS
import Derived.Test.YtmcefinhmihmnaaDoorBf
set_option linter.unusedSimpArgs false
set_option linter.unusedVariables false
namespace Go.Proofs.YtmcefinhmihmnaaDoor
open Go.RowKit

def tnC (t : Int) : Bool := decide (0 ≤ t ∧ t < 3)

set_option maxRecDepth 100000 in
set_option maxHeartbeats 1000000 in
theorem tenantedC_s (t : Int) (w0 : World) (ht : -9223372036854775808 ≤ t ∧ t ≤ 9223372036854775807) : Calls Tryd.prog 27 #[.int .i64 t] w0 fun e w' => e = .returned (.bool (tnC t)) ∧ Has w0 w' [] := by
  have S := Has.start w0
  by_cases h1 : 0 ≤ t
  · by_cases h2 : t < 3
    · rw [show tnC t = true from decide_eq_true ⟨h1, h2⟩]
      go_enter Tryd.func27, Tryd.ntmps27
      go_wp2
      go_ret
      exact ⟨rfl, S.nil⟩
    · rw [show tnC t = false from decide_eq_false (fun h => h2 h.2)]
      go_enter Tryd.func27, Tryd.ntmps27
      go_wp2
      go_ret
      exact ⟨rfl, S.nil⟩
  · rw [show tnC t = false from decide_eq_false (fun h => h1 h.1)]
    go_enter Tryd.func27, Tryd.ntmps27
    go_wp2
    go_ret
    exact ⟨rfl, S.nil⟩

def c1B (tenant : Int) (kind : Nat) : Bool := tnC tenant && decide (1 ≤ kind ∧ kind ≤ 6)
def c2B (now : Nat) (key : List UInt8) : Bool := decide (now ≤ 4611686018427387904) && vkB key
def c5B (is : Bool) (x : Mnt) (t : Tok) : Bool := is && (decide (x.role = t.role) && decide (x.expiry = t.expiry))

set_option maxRecDepth 100000 in
set_option maxHeartbeats 1000000 in
theorem clo1_s (p q : Nat) (tenant : Int) (kind : Nat) (w0 : World) (h1 : w0.cell? ⟨p, 0, none⟩ = some (.int .i64 tenant)) (h2 : w0.cell? ⟨q, 0, none⟩ = some (.int .u8 (kind : Int))) (ht : -9223372036854775808 ≤ tenant ∧ tenant ≤ 9223372036854775807) (hk : kind < 256) :
    Calls Tryd.prog 26 #[.pointer (some ⟨p, 0, none⟩), .pointer (some ⟨q, 0, none⟩)] w0 fun e w' => e = .returned (.bool (c1B tenant kind)) ∧ Has w0 w' [] := by
  have S := Has.start w0
  have p1 := fun w => tenantedC_s tenant w ht
  obtain ⟨B, hB⟩ : ∃ B, B = c1B tenant kind := ⟨_, rfl⟩
  rw [← hB]
  unfold c1B at hB
  cases hx : tnC tenant with
  | false =>
    rw [hx, Bool.false_and] at hB
    subst hB
    rw [hx] at p1
    clear hx
    have H1 := Lib.hid h1; have H2 := Lib.hid h2; have P1 := Lib.hid p1; clear h1 h2 p1
    go_enter Tryd.func26, Tryd.ntmps26
    go_wp2_with (first | ((with_reducible refine iO _ (.load 3 _) ?_); refine step_load1 3 _ _ _ rfl (cL) _ Tryd.underlying3 rfl gw ?_) | (go_at_call 27; (with_reducible refine (P1.out _).mono ?_); rintro e w1 ⟨rfl, T⟩; replace S := S.call T; clear T; (try simp only [z4, z5] at S)) | ((with_reducible refine iO _ (.load 5 _) ?_); refine step_load1 5 _ _ _ rfl (cL) _ Tryd.underlying5 rfl gw ?_) | fail)
    go_ret
    exact ⟨rfl, S.nil⟩
  | true =>
    rw [hx, Bool.true_and] at hB
    rw [hx] at p1
    clear hx
    by_cases hk1 : 1 ≤ kind
    · by_cases hk2 : kind ≤ 6
      · rw [decide_eq_true ⟨hk1, hk2⟩] at hB
        subst hB
        have i1 : 1 ≤ (kind : Int) := by omega
        have i2 : (kind : Int) ≤ 6 := by omega
        have H1 := Lib.hid h1; have H2 := Lib.hid h2; have P1 := Lib.hid p1; clear h1 h2 p1
        go_enter Tryd.func26, Tryd.ntmps26
        go_wp2_with (first | ((with_reducible refine iO _ (.load 3 _) ?_); refine step_load1 3 _ _ _ rfl (cL) _ Tryd.underlying3 rfl gw ?_) | (go_at_call 27; (with_reducible refine (P1.out _).mono ?_); rintro e w1 ⟨rfl, T⟩; replace S := S.call T; clear T; (try simp only [z4, z5] at S)) | ((with_reducible refine iO _ (.load 5 _) ?_); refine step_load1 5 _ _ _ rfl (cL) _ Tryd.underlying5 rfl gw ?_) | fail)
        go_ret
        exact ⟨rfl, S.nil⟩
      · rw [decide_eq_false (fun h => hk2 h.2)] at hB
        subst hB
        have i1 : 1 ≤ (kind : Int) := by omega
        have i2 : ¬ (kind : Int) ≤ 6 := by omega
        have H1 := Lib.hid h1; have H2 := Lib.hid h2; have P1 := Lib.hid p1; clear h1 h2 p1
        go_enter Tryd.func26, Tryd.ntmps26
        go_wp2_with (first | ((with_reducible refine iO _ (.load 3 _) ?_); refine step_load1 3 _ _ _ rfl (cL) _ Tryd.underlying3 rfl gw ?_) | (go_at_call 27; (with_reducible refine (P1.out _).mono ?_); rintro e w1 ⟨rfl, T⟩; replace S := S.call T; clear T; (try simp only [z4, z5] at S)) | ((with_reducible refine iO _ (.load 5 _) ?_); refine step_load1 5 _ _ _ rfl (cL) _ Tryd.underlying5 rfl gw ?_) | fail)
        go_ret
        exact ⟨by show Ending.returned (.bool (decide _)) = _; rw [decide_eq_false (by omega)], S.nil⟩
    · rw [decide_eq_false (fun h => hk1 h.1)] at hB
      subst hB
      have i1 : ¬ 1 ≤ (kind : Int) := by omega
      have H1 := Lib.hid h1; have H2 := Lib.hid h2; have P1 := Lib.hid p1; clear h1 h2 p1
      go_enter Tryd.func26, Tryd.ntmps26
      go_wp2_with (first | ((with_reducible refine iO _ (.load 3 _) ?_); refine step_load1 3 _ _ _ rfl (cL) _ Tryd.underlying3 rfl gw ?_) | (go_at_call 27; (with_reducible refine (P1.out _).mono ?_); rintro e w1 ⟨rfl, T⟩; replace S := S.call T; clear T; (try simp only [z4, z5] at S)) | ((with_reducible refine iO _ (.load 5 _) ?_); refine step_load1 5 _ _ _ rfl (cL) _ Tryd.underlying5 rfl gw ?_) | fail)
      go_ret
      exact ⟨rfl, S.nil⟩

set_option maxRecDepth 100000 in
set_option maxHeartbeats 1000000 in
theorem clo2_s (p q : Nat) (now : Nat) (v : Value) (key : List UInt8) (w0 : World) (h1 : w0.cell? ⟨p, 0, none⟩ = some (.int .u64 (now : Int))) (h2 : w0.cell? ⟨q, 0, none⟩ = some v) (hv : Bs w0 v key) (hn : now < 18446744073709551616) :
    Calls Tryd.prog 28 #[.pointer (some ⟨p, 0, none⟩), .pointer (some ⟨q, 0, none⟩)] w0 fun e w' => e = .returned (.bool (c2B now key)) ∧ Has w0 w' [] := by
  have S := Has.start w0
  obtain ⟨a0, c0, rfl, k1, k2⟩ := Sl.shape hv
  have p1 := fun v w h => keyed_s v key w h
  by_cases hk1 : now ≤ 4611686018427387904
  · have hB : c2B now key = vkB key := by unfold c2B; rw [decide_eq_true hk1, Bool.true_and]
    rw [hB]
    generalize vkB key = B at p1
    have i1 : (now : Int) ≤ 4611686018427387904 := by omega
    have H1 := Lib.hid h1; have H2 := Lib.hid h2; have HV := Lib.hid hv; have P1 := Lib.hid p1; clear h1 h2 hv p1
    clear hB
    go_enter Tryd.func28, Tryd.ntmps28
    go_wp2_with (first | ((with_reducible refine iO _ (.load 25 _) ?_); refine step_load1 25 _ _ _ rfl (cL) _ Tryd.underlying25 rfl gw ?_) | ((with_reducible refine iO _ (.load 23 _) ?_); refine step_load1 23 _ _ _ rfl (cL) _ Tryd.underlying23 rfl gw ?_) | (go_at_call 29; (with_reducible refine (P1.out _ _ (S.oldB HV.out)).mono ?_); rintro e w1 ⟨rfl, T⟩; replace S := S.call T; clear T; (try simp only [z4, z5] at S)) | fail)
    go_ret
    exact ⟨rfl, S.nil⟩
  · have hB : c2B now key = false := by unfold c2B; rw [decide_eq_false hk1, Bool.false_and]
    rw [hB]
    have i1 : ¬ (now : Int) ≤ 4611686018427387904 := by omega
    have H1 := Lib.hid h1; have H2 := Lib.hid h2; have HV := Lib.hid hv; have P1 := Lib.hid p1; clear h1 h2 hv p1
    clear hB
    go_enter Tryd.func28, Tryd.ntmps28
    go_wp2_with (first | ((with_reducible refine iO _ (.load 25 _) ?_); refine step_load1 25 _ _ _ rfl (cL) _ Tryd.underlying25 rfl gw ?_) | ((with_reducible refine iO _ (.load 23 _) ?_); refine step_load1 23 _ _ _ rfl (cL) _ Tryd.underlying23 rfl gw ?_) | (go_at_call 29; (with_reducible refine (P1.out _ _ (S.oldB HV.out)).mono ?_); rintro e w1 ⟨rfl, T⟩; replace S := S.call T; clear T; (try simp only [z4, z5] at S)) | fail)
    go_ret
    exact ⟨rfl, S.nil⟩

set_option maxRecDepth 100000 in
set_option maxHeartbeats 1000000 in
theorem clo3_s (p q : Nat) (v : Value) (key : List UInt8) (t : Tok) (w0 : World) (h1 : w0.cell? ⟨p, 0, none⟩ = some v) (h2 : w0.heap[q]? = some (.cells (tokL t).toArray 34 (0, 0))) (hv : Bs w0 v key) (hK : KT w0) :
    Calls Tryd.prog 30 #[.pointer (some ⟨p, 0, none⟩), .pointer (some ⟨q, 0, none⟩)] w0 fun e w' => e = .returned (.bool (vkB key && decide (sgT key t = t))) ∧ Has w0 w' [] := by
  have S := Has.start w0
  obtain ⟨a0, c0, rfl, k1, k2⟩ := Sl.shape hv
  have p1 := fun v w h k => genuine_s v key t w h k
  generalize (vkB key && decide (sgT key t = t)) = B at p1
  generalize snE key = E at p1
  have H1 := Lib.hid h1; have H2 := Lib.hid h2; have HV := Lib.hid hv; have P1 := Lib.hid p1; have HK := Lib.hid hK; clear h1 h2 hv p1 hK
  go_enter Tryd.func30, Tryd.ntmps30
  go_wp2_with (first | ((with_reducible refine iO _ (.load 23 _) ?_); refine step_load1 23 _ _ _ rfl (cL) _ Tryd.underlying23 rfl rfl ?_) | ((with_reducible refine iO _ (.load 34 _) ?_); first | (refine step_load S 34 _ _ rfl _ _ _ pk _ Tryd.underlying34 rfl 36 kR lN rfl ?_) | (refine step_loadO 34 _ _ rfl _ _ _ (S.old_heap (Hid.out (by assumption))) _ Tryd.underlying34 rfl 36 kR lN rfl ?_) | (refine step_loadR 34 _ _ _ rfl _ (S.old_range hy) _ Tryd.underlying34 rfl 36 kR lN _ rfl rfl ?_)) | (go_at_call 31; (with_reducible refine (P1.out _ _ (S.oldB HV.out) kT).mono ?_); rintro e w1 ⟨rfl, T⟩; replace S := S.call T; clear T; (try simp only [z4, z5] at S)) | fail)
  go_ret
  exact ⟨rfl, S.nil⟩

set_option maxRecDepth 100000 in
set_option maxHeartbeats 1000000 in
theorem clo4_s (p q : Nat) (t : Tok) (tenant : Int) (w0 : World) (h1 : w0.cell? ⟨p, 0, none⟩ = some (.int .u8 (t.tenant.toNat : Int))) (h2 : w0.cell? ⟨q, 0, none⟩ = some (.int .i64 tenant)) :
    Calls Tryd.prog 32 #[.pointer (some ⟨p, 0, none⟩), .pointer (some ⟨q, 0, none⟩)] w0 fun e w' => e = .returned (.bool ((t.tenant.toNat : Int) == tenant)) ∧ Has w0 w' [] := by
  have S := Has.start w0
  have hb := t.tenant.toNat_lt
  have hw : IntKind.i64.wrap (t.tenant.toNat : Int) = (t.tenant.toNat : Int) := IntWalk.i64_in _ (by omega)
  have H1 := Lib.hid h1; have H2 := Lib.hid h2; clear h1 h2
  go_enter Tryd.func32, Tryd.ntmps32
  go_wp2_with (first | ((with_reducible refine iO _ (.load 5 _) ?_); refine step_load1 5 _ _ _ rfl (cL) _ Tryd.underlying5 rfl rfl ?_) | ((with_reducible refine iO _ (.load 3 _) ?_); refine step_load1 3 _ _ _ rfl (cL) _ Tryd.underlying3 rfl rfl ?_) | fail)
  go_ret
  exact ⟨rfl, S.nil⟩

set_option maxRecDepth 100000 in
set_option maxHeartbeats 1000000 in
theorem clo5_s (p q r : Nat) (is : Bool) (x : Mnt) (t : Tok) (w0 : World) (h1 : w0.cell? ⟨p, 0, none⟩ = some (.bool is)) (h2 : w0.cell? ⟨q, 0, none⟩ = some (.int .u8 (x.role.toNat : Int))) (h3 : w0.cell? ⟨q, 1, none⟩ = some (.int .u64 (x.expiry.toNat : Int)))
    (h4 : w0.cell? ⟨r, 1, none⟩ = some (.int .u8 (t.role.toNat : Int))) (h5 : w0.cell? ⟨r, 2, none⟩ = some (.int .u64 (t.expiry.toNat : Int))) :
    Calls Tryd.prog 33 #[.pointer (some ⟨p, 0, none⟩), .pointer (some ⟨q, 0, none⟩), .pointer (some ⟨r, 0, none⟩)] w0 fun e w' => e = .returned (.bool (c5B is x t)) ∧ Has w0 w' [] := by
  have S := Has.start w0
  have hB : c5B is x t = (is && (((x.role.toNat : Int) == (t.role.toNat : Int)) && ((x.expiry.toNat : Int) == (t.expiry.toNat : Int)))) := by unfold c5B; rw [beqU8, beqU64]
  rw [hB]
  clear hB
  have H1 := Lib.hid h1; have H2 := Lib.hid h2; have H3 := Lib.hid h3; have H4 := Lib.hid h4; have H5 := Lib.hid h5; clear h1 h2 h3 h4 h5
  cases is with
  | false =>
    go_enter Tryd.func33, Tryd.ntmps33
    go_wp2_with (first | ((with_reducible refine iO _ (.load 4 _) ?_); refine step_load1 4 _ _ _ rfl (cL) _ Tryd.underlying4 rfl gw ?_) | ((with_reducible refine iO _ (.load 5 _) ?_); refine step_load1 5 _ _ _ rfl (cL) _ Tryd.underlying5 rfl gw ?_) | ((with_reducible refine iO _ (.load 25 _) ?_); refine step_load1 25 _ _ _ rfl (cL) _ Tryd.underlying25 rfl gw ?_) | fail)
    go_ret
    exact ⟨rfl, S.nil⟩
  | true =>
    by_cases hr : ((x.role.toNat : Int) == (t.role.toNat : Int)) = true
    · rw [hr]
      go_enter Tryd.func33, Tryd.ntmps33
      go_wp2_with (first | ((with_reducible refine iO _ (.load 4 _) ?_); refine step_load1 4 _ _ _ rfl (cL) _ Tryd.underlying4 rfl gw ?_) | ((with_reducible refine iO _ (.load 5 _) ?_); refine step_load1 5 _ _ _ rfl (cL) _ Tryd.underlying5 rfl gw ?_) | ((with_reducible refine iO _ (.load 25 _) ?_); refine step_load1 25 _ _ _ rfl (cL) _ Tryd.underlying25 rfl gw ?_) | fail)
      go_ret
      exact ⟨by simp, S.nil⟩
    · have hr : ((x.role.toNat : Int) == (t.role.toNat : Int)) = false := by simpa using hr
      rw [hr]
      go_enter Tryd.func33, Tryd.ntmps33
      go_wp2_with (first | ((with_reducible refine iO _ (.load 4 _) ?_); refine step_load1 4 _ _ _ rfl (cL) _ Tryd.underlying4 rfl gw ?_) | ((with_reducible refine iO _ (.load 5 _) ?_); refine step_load1 5 _ _ _ rfl (cL) _ Tryd.underlying5 rfl gw ?_) | ((with_reducible refine iO _ (.load 25 _) ?_); refine step_load1 25 _ _ _ rfl (cL) _ Tryd.underlying25 rfl gw ?_) | fail)
      go_ret
      exact ⟨by simp, S.nil⟩

set_option maxRecDepth 100000 in
set_option maxHeartbeats 1000000 in
theorem clo6_s (p : Nat) (x : Mnt) (w0 : World) (h1 : w0.cell? ⟨p, 2, none⟩ = some (.bool x.revoked)) :
    Calls Tryd.prog 34 #[.pointer (some ⟨p, 0, none⟩)] w0 fun e w' => e = .returned (.bool (!x.revoked)) ∧ Has w0 w' [] := by
  have S := Has.start w0
  have H1 := Lib.hid h1; clear h1
  go_enter Tryd.func34, Tryd.ntmps34
  go_wp2_with (first | ((with_reducible refine iO _ (.load 4 _) ?_); refine step_load1 4 _ _ _ rfl (cL) _ Tryd.underlying4 rfl rfl ?_) | fail)
  go_ret
  exact ⟨rfl, S.nil⟩

set_option maxRecDepth 100000 in
set_option maxHeartbeats 1000000 in
theorem clo7_s (p q : Nat) (now : Nat) (x : Mnt) (w0 : World) (h1 : w0.cell? ⟨p, 0, none⟩ = some (.int .u64 (now : Int))) (h2 : w0.cell? ⟨q, 1, none⟩ = some (.int .u64 (x.expiry.toNat : Int))) :
    Calls Tryd.prog 35 #[.pointer (some ⟨p, 0, none⟩), .pointer (some ⟨q, 0, none⟩)] w0 fun e w' => e = .returned (.bool (decide (now < x.expiry.toNat))) ∧ Has w0 w' [] := by
  have S := Has.start w0
  have H1 := Lib.hid h1; have H2 := Lib.hid h2; clear h1 h2
  go_enter Tryd.func35, Tryd.ntmps35
  go_wp2_with (first | ((with_reducible refine iO _ (.load 25 _) ?_); refine step_load1 25 _ _ _ rfl (cL) _ Tryd.underlying25 rfl rfl ?_) | fail)
  go_ret
  exact ⟨rfl, S.nil⟩

set_option maxRecDepth 100000 in
set_option maxHeartbeats 1000000 in
theorem clo8_s (p q : Nat) (x : Mnt) (kind : Nat) (w0 : World) (h1 : w0.cell? ⟨p, 0, none⟩ = some (.int .u8 (x.role.toNat : Int))) (h2 : w0.cell? ⟨q, 0, none⟩ = some (.int .u8 (kind : Int))) (hk : kind < 256) (hP : PT w0) :
    Calls Tryd.prog 36 #[.pointer (some ⟨p, 0, none⟩), .pointer (some ⟨q, 0, none⟩)] w0 fun e w' => e = .returned (.bool (prmB x.role.toNat kind)) ∧ Has w0 w' [] := by
  have S := Has.start w0
  have p1 := fun w h => permits_s x.role.toNat kind w h (by have := x.role.toNat_lt; omega) hk
  generalize prmB x.role.toNat kind = B at p1
  have H1 := Lib.hid h1; have H2 := Lib.hid h2; have P1 := Lib.hid p1; have HP := Lib.hid hP; clear h1 h2 p1 hP
  go_enter Tryd.func36, Tryd.ntmps36
  go_wp2_with (first | ((with_reducible refine iO _ (.load 5 _) ?_); refine step_load1 5 _ _ _ rfl (cL) _ Tryd.underlying5 rfl rfl ?_) | (go_at_call 10; (with_reducible refine (P1.out _ (S.pt HP.out)).mono ?_); rintro e w1 ⟨rfl, T⟩; replace S := S.call T; clear T; (try simp only [z4, z5] at S)) | fail)
  go_ret
  exact ⟨rfl, S.nil⟩
end Go.Proofs.YtmcefinhmihmnaaDoor
