/- Hexadecimal text: what the program's Hex and the specification's return for any bytes. No condition but the bound on the length that both test. -/
import Derived.Test.YthdhnpejakljkaaDoorIdx
import Derived.Deep.RegionLaw
import Derived.Deep.QuietTactic
import Derived.BigQuiet
import Derived.Laws.BitsAllLaws
set_option linter.unusedSimpArgs false
set_option linter.unusedVariables false
namespace Go.Proofs.YthdhnpejakljkaaDoor
open Go.RowKit

/-- The hexadecimal text of bytes, as bytes. -/
def hexB (xs : List UInt8) : List UInt8 := xs.flatMap fun c => [dig (c.toNat / 16), dig (c.toNat % 16)]

theorem hexB_length (xs : List UInt8) : (hexB xs).length = 2 * xs.length := by
  induction xs with
  | nil => rfl
  | cons c xs ih => simp only [hexB, List.flatMap_cons, List.length_append, List.length_cons, List.length_nil] at *; omega

theorem hexB_snoc (xs : List UInt8) (c : UInt8) : hexB (xs ++ [c]) = hexB xs ++ [dig (c.toNat / 16), dig (c.toNat % 16)] := by simp [hexB]

theorem dig_at (k : Nat) (hk : k < 16) (w : World) :
    (Instr.index 9 (.string { data := #[48, 49, 50, 51, 52, 53, 54, 55, 56, 57, 97, 98, 99, 100, 101, 102] }) (.int .u8 (k : Int))).run Tryd.prog w = .ok (.int .u8 ((dig k).toNat : Int)) w := by
  rcases (by omega : k = 0 ∨ k = 1 ∨ k = 2 ∨ k = 3 ∨ k = 4 ∨ k = 5 ∨ k = 6 ∨ k = 7 ∨ k = 8 ∨ k = 9 ∨ k = 10 ∨ k = 11 ∨ k = 12 ∨ k = 13 ∨ k = 14 ∨ k = 15) with rfl | rfl | rfl | rfl | rfl | rfl | rfl | rfl | rfl | rfl | rfl | rfl | rfl | rfl | rfl | rfl
  all_goals kernel_rfl

theorem and15 (c : UInt8) : bits .and .u8 (c.toNat : Int) 15 = (c.toNat : Int) % 16 := by
  have h := u8_and_nat c.toNat 15 c.toNat_lt (by decide)
  rw [nat_mask4] at h
  simpa using h

theorem hex_row {w : World} {base : Nat} {v : Value} {n : Nat} {L : List Value} (h : w.ownsRow base 5 1 v n L) (xs : List UInt8) (k : Nat) (hk : k < xs.length) (hn : n = 2 * k + 2) (hL : L = (hexB (xs.take k)).map by8 ++ [by8 (dig ((xs[k]).toNat / 16)), by8 (dig ((xs[k]).toNat % 16))]) :
    w.ownsRow base 5 1 v (2 * (k + 1)) ((hexB (xs.take (k + 1))).map by8) := by
  subst hn; subst hL
  rw [List.take_succ_eq_append_getElem hk, hexB_snoc]
  exact own_eq h (by omega) (by simp)

set_option maxRecDepth 20000 in
set_option maxHeartbeats 400000 in
theorem hex_any (v : Value) (xs : List UInt8) (w : World) (hv : Bs w v xs) (hl : xs.length ≤ 8192) :
    Calls Tryd.prog 40 #[v] w fun e w' => e = .returned (.tuple #[.string (strB (hexB xs)), .int .i64 0]) ∧ Below w.heap.size w w' := by
  rcases hv.cases with ⟨a, rfl, rfl⟩ | ⟨b, off, cap, rfl, hlc, hm, hc⟩
  · have hcv := Bs.conv (P := Tryd.prog) (Bs.mk0 w none) 27 9 5 Tryd.underlying27 Tryd.underlying5 Tryd.underlying9
    clear hv
    go_enter Tryd.func40, Tryd.ntmps40
    go_wp2
    refine wp_loop_rounds 1 ?_
    rw [rounds_succ]
    go_wp2
    go_ret2
    exact ⟨rfl, Below.refl _ _⟩
  · unfold maxLen at hm
    go_enter Tryd.func40, Tryd.ntmps40
    go_wp2
    go_loopw [4, 12] (fun o i wr => ∃ k : Nat, k ≤ xs.length ∧ i = .int .i64 (k : Int) ∧ wr.ownsRow w.heap.size 5 1 o (2 * k) ((hexB (xs.take k)).map by8) ∧ Below w.heap.size w wr) (fun _ i _ => xs.length - (intOf i).toNat)
    case atStart => exact ⟨0, Nat.zero_le _, rfl, World.ownsRow_nil _ _ _ _, Below.refl _ _⟩
    case round =>
      obtain ⟨k, hk, rfl, hown, hb⟩ := hrel
      by_cases hlt : k < xs.length
      · have hck := hc k hlt
        have hck' : wr.cell? ⟨b, off + k, none⟩ = some (.int .u8 ((xs[k]).toNat : Int)) := (hb.cell (World.block_lt_of_cell? w _ hck)).trans hck
        obtain ⟨c, hcx⟩ : ∃ c, c = xs[k] := ⟨_, rfl⟩
        rw [← hcx] at hck'
        have HX := Lib.hid hcx; clear hcx
        have hu := c.toNat_lt
        have hd1 : ∀ w1, (Instr.index 9 (.string { data := #[48, 49, 50, 51, 52, 53, 54, 55, 56, 57, 97, 98, 99, 100, 101, 102] }) (.int .u8 ((c.toNat : Int) / 16))).run Tryd.prog w1 = .ok (.int .u8 ((dig (c.toNat / 16)).toNat : Int)) w1 := fun w1 => by simpa using dig_at (c.toNat / 16) (by omega) w1
        have hd2 : ∀ w1, (Instr.index 9 (.string { data := #[48, 49, 50, 51, 52, 53, 54, 55, 56, 57, 97, 98, 99, 100, 101, 102] }) (.int .u8 ((c.toNat : Int) % 16))).run Tryd.prog w1 = .ok (.int .u8 ((dig (c.toNat % 16)).toNat : Int)) w1 := fun w1 => by simpa using dig_at (c.toNat % 16) (by omega) w1
        have hw1 : IntKind.u8.wrap ((c.toNat : Int) / 16) = (c.toNat : Int) / 16 := by rw [IntKind.wrap_u8']; omega
        have hw2 : IntKind.u8.wrap ((c.toNat : Int) % 16) = (c.toNat : Int) % 16 := by rw [IntKind.wrap_u8']; omega
        have hand := and15 c
        have htm : (c.toNat : Int).tmod 16 = (c.toNat : Int) % 16 := Int.tmod_eq_emod_of_nonneg (by omega)
        have HO := Lib.hid hown; have HB := Lib.hid hb; clear hown hb hc hck hv
        go_wp2
        go_region_law (refine step_append_grew _ rfl (.tmp 16) (.tmp 23) 27 rfl w.heap.size 5 (.int .u8 0) 1 1 Tryd.underlying27 Tryd.infoB rfl (by decide) _ _ _ rfl (HO.out.alloc _) _ 2 [by8 (dig (c.toNat / 16)), by8 (dig (c.toNat % 16))] rfl (Sl.lit _ _ 2 _ (by decide) rfl) (by intro u hu; simp at hu; rcases hu with rfl | rfl <;> rfl) (by unfold maxLen; omega) (by omega) (by have := HB.out.size; simp; omega) ?_; intro v' w1 hown' hgrow; have HO' := Lib.hid hown'; have HG := Lib.hid hgrow; clear hown' hgrow)
        all_goals
          have hsz := HB.out.size
          have hbel := HB.out.trans ((((Below.refl _ wr).drew).alloc hsz _).trans (HG.out.belowOwn (HO.out.alloc _) (Nat.le_refl _) (by simp; omega)))
          have hrow := hex_row HO'.out xs k hlt (by omega) (by rw [← HX.out])
          have HR := Lib.hid hrow; have HBL := Lib.hid hbel; clear hrow hbel HO' HG hsz
          go_wp2
          go_roundw
          case rel => exact ⟨k + 1, by omega, by go_num, HR.out, HBL.out⟩
          case measure => simp [intOf]; omega
      · have hcv := Bs.conv (P := Tryd.prog) (Bs.of_own hown (by rw [hexB_length, List.length_take]; omega)) 27 9 5 Tryd.underlying27 Tryd.underlying5 Tryd.underlying9
        have HB := Lib.hid hb; clear hb hown
        go_wp2
        go_ret2
        exact ⟨by rw [List.take_of_length_le (by omega)]; rfl, HB.out⟩

set_option maxRecDepth 20000 in
set_option maxHeartbeats 400000 in
theorem hex_many (v : Value) (xs : List UInt8) (w : World) (hv : Bs w v xs) (hl : 8192 < xs.length) :
    Calls Tryd.prog 40 #[v] w fun e w' => e = .returned (.tuple #[.string (strB []), .int .i64 4]) ∧ Below w.heap.size w w' := by
  obtain ⟨a, c, rfl, h1, h2⟩ := Sl.shape hv
  clear hv
  go_enter Tryd.func40, Tryd.ntmps40
  go_wp2
  go_ret2
  exact ⟨rfl, Below.refl _ _⟩

/-- Hex's text and its error. -/
def hexS (xs : List UInt8) : List UInt8 := if xs.length ≤ 8192 then hexB xs else []
def hexE (xs : List UInt8) : Int := if xs.length ≤ 8192 then 0 else 4

set_option maxRecDepth 20000 in
theorem hexAll_any (v : Value) (xs : List UInt8) (w : World) (hv : Bs w v xs) :
    Calls Tryd.prog 40 #[v] w fun e w' => e = .returned (.tuple #[.string (strB (hexS xs)), .int .i64 (hexE xs)]) ∧ Below w.heap.size w w' := by
  by_cases h : xs.length ≤ 8192
  · rw [hexS, hexE, if_pos h, if_pos h]; exact hex_any v xs w hv h
  · rw [hexS, hexE, if_neg h, if_neg h]; exact hex_many v xs w hv (by omega)

end Go.Proofs.YthdhnpejakljkaaDoor
