/- Rotations: what bits.RotateLeft32, the closure of digest.mixed, and dunnageref01.rotr return. No condition but the counts' own bounds. -/
import Derived.Test.YtioonimpobcglaaDoorProg
import Derived.Test.YtioonimpobcglaaDoorWord
import Derived.WalkLawsBesides
import Derived.WalkSpells
import Derived.Outline
import Derived.Lib.Hide
import Derived.Deep.QuietTactic
import Derived.BigQuiet
import Derived.Deep.RegionWith
set_option linter.unusedSimpArgs false
set_option linter.unusedVariables false
namespace Go.Proofs.YtioonimpobcglaaDoor
open Go.RowKit

theorem neg_and (n : Nat) (h1 : 1 ≤ n) (h2 : n ≤ 31) : bits .and .u64 (IntKind.u64.wrap (-(n : Int))) 31 = 32 - (n : Int) := by
  have h : ∀ k : Fin 31, bits .and .u64 (IntKind.u64.wrap (-((k.val + 1 : Nat) : Int))) 31 = 32 - ((k.val + 1 : Nat) : Int) := by decide +kernel
  have := h ⟨n - 1, by omega⟩
  simp only [Nat.sub_add_cancel h1] at this
  exact this

theorem rot_eq (x : UInt32) (n : Nat) (h1 : 1 ≤ n) (h2 : n ≤ 31) :
    bits .or .u32 ((x.toNat : Int) * 2 ^ (32 - n) % 4294967296) ((x.toNat : Int) / 2 ^ (32 - (32 - n))) = ((rotr x n).toNat : Int) := by
  have hx := u32_lt x
  have hn : 32 - (32 - n) = n := by omega
  rw [hn]
  have hp : 2 ^ n * 2 ^ (32 - n) = 4294967296 := by rw [← Nat.pow_add, show n + (32 - n) = 32 by omega]
  have hA : x.toNat * 2 ^ (32 - n) % 4294967296 = x.toNat % 2 ^ n * 2 ^ (32 - n) := by rw [← hp, Nat.mul_mod_mul_right]
  have hpos : 0 < 2 ^ (32 - n) := Nat.two_pow_pos _
  have hpos2 : 0 < 2 ^ n := Nat.two_pow_pos _
  have hAlt : x.toNat % 2 ^ n * 2 ^ (32 - n) < 4294967296 := by rw [← hA]; exact Nat.mod_lt _ (by decide)
  have hB : x.toNat / 2 ^ n < 2 ^ (32 - n) := by rw [Nat.div_lt_iff_lt_mul hpos2, Nat.mul_comm, hp]; exact hx
  have hBlt : x.toNat / 2 ^ n < 4294967296 := Nat.lt_of_le_of_lt (Nat.div_le_self _ _) hx
  have hj : x.toNat % 2 ^ n * 2 ^ (32 - n) ||| x.toNat / 2 ^ n = x.toNat % 2 ^ n * 2 ^ (32 - n) + x.toNat / 2 ^ n := nat_join (32 - n) _ _ (Nat.mul_mod_left _ _) hB
  have hsum : x.toNat / 2 ^ n + x.toNat % 2 ^ n * 2 ^ (32 - n) < 4294967296 := by
    have hm : x.toNat % 2 ^ n + 1 ≤ 2 ^ n := Nat.mod_lt _ hpos2
    have := Nat.mul_le_mul_right (2 ^ (32 - n)) hm
    rw [hp, Nat.add_mul, Nat.one_mul] at this
    omega
  have e1 : (x.toNat : Int) * 2 ^ (32 - n) % 4294967296 = ((x.toNat % 2 ^ n * 2 ^ (32 - n) : Nat) : Int) := by
    rw [← hA, Int.natCast_emod, Int.natCast_mul, Int.natCast_pow]; rfl
  have e2 : (x.toNat : Int) / 2 ^ n = ((x.toNat / 2 ^ n : Nat) : Int) := by rw [Int.natCast_ediv, Int.natCast_pow]; rfl
  have hr : (rotr x n).toNat = x.toNat / 2 ^ n + x.toNat % 2 ^ n * 2 ^ (32 - n) := by
    unfold rotr
    rw [UInt32.toNat_ofNat']
    exact Nat.mod_eq_of_lt hsum
  rw [e1, e2, u32_or_nat _ _ hAlt hBlt, hj, hr, Nat.add_comm]

set_option maxRecDepth 20000 in
set_option maxHeartbeats 400000 in
theorem rot_any (x : UInt32) (n : Nat) (w : World) (h1 : 1 ≤ n) (h2 : n ≤ 31) :
    Calls Tryd.prog 92 #[U32 x, .int .i64 (-(n : Int))] w fun e w' => e = .returned (U32 (rotr x n)) ∧ w' = w := by
  have hr := rot_eq x n h1 h2
  have HR := Lib.hid hr; clear hr
  have hx := u32_lt x
  have hand := neg_and n h1 h2
  unfold U32
  go_enter Tryd.func92, Tryd.ntmps92
  go_wp2
  go_ret
  exact ⟨ret_int HR.out, rfl⟩

/-- A power of two as a word. -/
def pw (n : Nat) : UInt32 := UInt32.ofNat (2 ^ n)

theorem pw_nat (n : Nat) (h : n ≤ 31) : (pw n).toNat = 2 ^ n := by
  unfold pw
  rw [UInt32.toNat_ofNat']
  exact Nat.mod_eq_of_lt (Nat.pow_lt_pow_right (by decide) (by omega))

theorem pw_ne (n : Nat) (h : n ≤ 31) : (pw n).toNat ≠ 0 := by
  rw [pw_nat n h]
  have := Nat.two_pow_pos n
  omega

theorem pw_rotr (x : UInt32) (n : Nat) (h1 : 1 ≤ n) (h2 : n ≤ 31) : x / pw n + x % pw n * pw (32 - n) = rotr x n := by
  apply UInt32.toNat_inj.1
  unfold rotr
  rw [UInt32.toNat_add, UInt32.toNat_mul, UInt32.toNat_div, UInt32.toNat_mod, pw_nat n h2, pw_nat (32 - n) (by omega), UInt32.toNat_ofNat', Nat.add_mod_mod]

theorem pw_shr3 (x : UInt32) : x / pw 3 = x >>> 3 := by
  apply UInt32.toNat_inj.1
  rw [UInt32.toNat_div, pw_nat 3 (by decide), UInt32.toNat_shiftRight, Nat.shiftRight_eq_div_pow]
  rfl

theorem pw_shr10 (x : UInt32) : x / pw 10 = x >>> 10 := by
  apply UInt32.toNat_inj.1
  rw [UInt32.toNat_div, pw_nat 10 (by decide), UInt32.toNat_shiftRight, Nat.shiftRight_eq_div_pow]
  rfl

set_option maxRecDepth 20000 in
set_option maxHeartbeats 400000 in
theorem power_any (n : Nat) (w : World) (h : n ≤ 31) :
    Calls Tryd.prog 96 #[.int .i64 (n : Int)] w fun e w' => e = .returned (U32 (pw n)) ∧ w' = w := by
  go_enter Tryd.func96, Tryd.ntmps96
  go_wp2
  go_loop [3, 4] (fun p i => ∃ k : Nat, k ≤ n ∧ i = .int .i64 (k : Int) ∧ p = U32 (pw k)) (fun _ i => n - (intOf i).toNat)
  case atStart => exact ⟨0, Nat.zero_le _, rfl, rfl⟩
  case round =>
    obtain ⟨k, hk, rfl, rfl⟩ := hrel
    by_cases hlt : k < n
    · have hs : Value.int .u32 2 = U32 2 := rfl
      have h2 : 2 * pw k = pw (k + 1) := by
        apply UInt32.toNat_inj.1
        rw [UInt32.toNat_mul, pw_nat k (by omega), pw_nat (k + 1) (by omega), show (2 : UInt32).toNat = 2 from rfl, Nat.mul_comm, ← Nat.pow_succ]
        exact Nat.mod_eq_of_lt (Nat.pow_lt_pow_right (by decide) (by omega))
      have H2 := Lib.hid h2; clear h2
      go_wp2
      go_round
      case rel => exact ⟨k + 1, by omega, by go_num, by rw [H2.out]⟩
      case measure => simp [intOf]; omega
    · obtain rfl : k = n := by omega
      go_wp2
      go_ret
      exact ⟨rfl, rfl⟩

set_option maxRecDepth 20000 in
set_option maxHeartbeats 400000 in
theorem rotr_any (x : UInt32) (n : Nat) (w : World) (h1 : 1 ≤ n) (h2 : n ≤ 31) :
    Calls Tryd.prog 95 #[U32 x, .int .i64 (n : Int)] w fun e w' => e = .returned (U32 (rotr x n)) ∧ ∃ m, w' = w.drewN m := by
  have hp := pw_ne n h2
  have hw1 : IntKind.i64.wrap (32 - (n : Int)) = 32 - (n : Int) := IntWalk.i64_in _ (by omega)
  have hpr := pw_rotr x n h1 h2
  have hsub : (32 : Int) - (n : Int) = ((32 - n : Nat) : Int) := by omega
  have HPR := Lib.hid hpr; have HS := Lib.hid hsub; clear hpr hsub
  go_enter Tryd.func95, Tryd.ntmps95
  go_wp2_with fail
  go_quiet ((first | (go_at_call_of 96 (Value.int .i64 (n : Int)); exact Calls.quiet_of_same (power_any n _ h2)) | (go_at_call 96; rw [HS.out]; exact Calls.quiet_of_same (power_any (32 - n) _ (by omega)))))
  go_wp2_with fail
  go_ret
  exact ⟨ret_U32 HPR.out, _, rfl⟩

/-- What the closure of digest.mixed holds: a box with the counts. -/
structure MixBox (w : World) (bx : Nat) (ns : List Nat) : Prop where
  ok : ∀ n ∈ ns, 1 ≤ n ∧ n ≤ 31
  len : ns.length ≤ 1000
  at' : ∃ g, g < bx ∧ w.cell? ⟨bx, 0, none⟩ = some (.slice (some ⟨g, 0, none⟩) ns.length ns.length) ∧ ∀ i (h : i < ns.length), w.cell? ⟨g, i, none⟩ = some (.int .i64 (ns[i] : Int))

theorem MixBox.below {w w' : World} {bx : Nat} {ns : List Nat} (h : MixBox w bx ns) (hb : Below w.heap.size w w') : MixBox w' bx ns := by
  obtain ⟨ok, len, g, hg, h1, h2⟩ := h
  exact ⟨ok, len, g, hg, (hb.cell (World.block_lt_of_cell? w _ h1)).trans h1, fun i hi => (hb.cell (World.block_lt_of_cell? w _ (h2 i hi))).trans (h2 i hi)⟩

theorem MixBox.row {w w' : World} {bx B : Nat} {ns : List Nat} (h : MixBox w bx ns) (hg : w.grownBy w' (some B)) (hB : bx < B) : MixBox w' bx ns := by
  obtain ⟨ok, len, g, hgl, h1, h2⟩ := h
  exact ⟨ok, len, g, hgl, hg.cell h1 (by simp; omega), fun i hi => hg.cell (h2 i hi) (by simp; omega)⟩

theorem mixS_snoc (ns : List Nat) (n : Nat) (x : UInt32) : mixS (ns ++ [n]) x = mixS ns x ^^^ rotr x n := by simp [mixS]

set_option maxRecDepth 20000 in
set_option maxHeartbeats 400000 in
theorem mixc_any (ns : List Nat) (x : UInt32) (bx : Nat) (w : World) (hm : MixBox w bx ns) :
    Calls Tryd.prog 91 #[U32 x, .pointer (some ⟨bx, 0, none⟩)] w fun e w' => e = .returned (U32 (mixS ns x)) ∧ w' = w := by
  obtain ⟨hok, hlen, g, _, hbox, hcells⟩ := hm
  go_enter Tryd.func91, Tryd.ntmps91
  go_wp2_with fail
  go_loop [4, 9] (fun o i => ∃ k : Nat, k ≤ ns.length ∧ i = .int .i64 (k : Int) ∧ o = U32 (mixS (ns.take k) x)) (fun _ i => ns.length - (intOf i).toNat)
  case atStart => exact ⟨0, Nat.zero_le _, rfl, rfl⟩
  case round =>
    obtain ⟨k, hk, rfl, rfl⟩ := hrel
    by_cases hlt : k < ns.length
    · have hc := hcells k hlt
      obtain ⟨n1, n2⟩ := hok ns[k] (List.getElem_mem hlt)
      have hs : mixS (ns.take (k + 1)) x = mixS (ns.take k) x ^^^ rotr x ns[k] := by rw [List.take_succ_eq_append_getElem hlt, mixS_snoc]
      obtain ⟨n, hn⟩ : ∃ n, n = ns[k] := ⟨_, rfl⟩
      rw [← hn] at hc n1 n2 hs
      have HS := Lib.hid hs; clear hs hn hcells hok
      go_wp2_with (go_at_call 92; refine (rot_any x n _ n1 n2).mono ?_; rintro e w' ⟨rfl, rfl⟩)
      go_round
      case rel => exact ⟨k + 1, by omega, by go_num, by rw [HS.out]⟩
      case measure => simp [intOf]; omega
    · go_wp2_with fail
      go_ret
      exact ⟨ret_U32 (by rw [List.take_of_length_le (by omega)]), rfl⟩

set_option maxRecDepth 20000 in
set_option maxHeartbeats 400000 in
theorem mixed_any (a : Option Addr) (n c : Nat) (w : World) :
    Calls Tryd.prog 89 #[.slice a n c] w fun e w' => e = .returned (.func (.func 91) #[] #[.pointer (some ⟨w.heap.size, 0, none⟩)]) ∧ w' = w.alloc (.cells #[.slice a n c] 138) := by
  go_enter Tryd.func89, Tryd.ntmps89
  go_wp2_with fail
  go_ret
  exact ⟨rfl, rfl⟩
end Go.Proofs.YtioonimpobcglaaDoor
