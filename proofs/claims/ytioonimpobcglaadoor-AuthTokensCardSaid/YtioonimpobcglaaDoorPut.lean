/- Numbers as bytes, the highest first: what digest.put appends to a slice that the call owns, and what dunnageref01.Number returns in new memory; the memory that was there stays. -/
import Derived.Test.YtioonimpobcglaaDoorProg
import Derived.Test.YtioonimpobcglaaDoorOwn
import Derived.WalkLawsBesides
import Derived.WalkSpells
import Derived.Outline
set_option linter.unusedSimpArgs false
set_option linter.unusedVariables false
namespace Go.Proofs.YtioonimpobcglaaDoor
open Go.RowKit

/-- A number in s bytes, the highest first. -/
def numB (n : Nat) : Nat → List UInt8
  | 0 => []
  | s + 1 => UInt8.ofNat (n / 256 ^ s) :: numB n s

theorem numB_length (n s : Nat) : (numB n s).length = s := by
  induction s with
  | zero => rfl
  | succ s ih => simp [numB, ih]

theorem Tryd.infoB : (Tryd.prog.info? 5).map (fun i => (i.zero, i.size, i.bytes)) = some (some (.int .u8 0), 1, 1) := by kernel_rfl

/-- What a call leaves that appends to v, which it owns: the value is the new one. -/
def Grows (base : Nat) (w : World) (v : Value) (xs : List UInt8) (e : Ending) (w' : World) : Prop :=
  ∃ v', e = .returned v' ∧ w'.ownsRow base 5 1 v' xs.length (xs.map by8) ∧ Grew w w' v v'

/-- What a call leaves that returns bytes in new memory. -/
def Fresh (w : World) (xs : List UInt8) (e : Ending) (w' : World) : Prop :=
  ∃ v', e = .returned v' ∧ w'.ownsRow w.heap.size 5 1 v' xs.length (xs.map by8) ∧ Below w.heap.size w w'

theorem byte_at (n k : Nat) : (n : Int) / 2 ^ (8 * k) % 256 = ((UInt8.ofNat (n / 256 ^ k)).toNat : Int) := by
  have e : (2 : Int) ^ (8 * k) = ((256 ^ k : Nat) : Int) := by rw [Int.pow_mul]; norm_cast
  rw [e]
  simp

theorem own_eq {w : World} {base e size : Nat} {v : Value} {n n' : Nat} {xs xs' : List Value} (h : w.ownsRow base e size v n xs) (hn : n' = n) (hx : xs' = xs) : w.ownsRow base e size v n' xs' := by
  subst hn; subst hx; exact h

set_option maxRecDepth 20000 in
set_option maxHeartbeats 400000 in
theorem put_any (base : Nat) (v : Value) (xs : List UInt8) (n s : Nat) (w : World) (hown : w.ownsRow base 5 1 v xs.length (xs.map by8)) (hb : base ≤ w.heap.size)
    (hl : xs.length ≤ 1000000) (hs : s ≤ 8) :
    Calls Tryd.prog 68 #[v, .int .u64 (n : Int), .int .i64 (s : Int)] w (Grows base w v (xs ++ numB n s)) := by
  go_enter Tryd.func68, Tryd.ntmps68
  go_wp2
  go_loopw [0, 7] (fun b i wr => ∃ (k : Nat) (pre : List UInt8), k ≤ s ∧ i = .int .i64 ((k : Int) - 1) ∧ pre ++ numB n k = numB n s ∧
      wr.ownsRow base 5 1 b (xs ++ pre).length ((xs ++ pre).map by8) ∧ Grew w wr v b) (fun _ i _ => (intOf i + 1).toNat)
  case atStart => exact ⟨s, [], by omega, rfl, by simp, by simpa using hown, Grew.refl _ _⟩
  case round =>
    obtain ⟨k, pre, hk, rfl, hpre, hownr, hgr⟩ := hrel
    have HP := Lib.hid hpre; clear hpre
    have HO := Lib.hid hown; clear hown
    have hsz := hgr.g.size
    cases k with
    | zero =>
      rw [show ((0 : Nat) : Int) - 1 = -1 from rfl]
      go_wp2
      go_ret
      have hp := HP.out
      simp only [numB, List.append_nil] at hp
      subst hp
      exact ⟨_, rfl, hownr, hgr⟩
    | succ k =>
      rw [show ((k + 1 : Nat) : Int) - 1 = (k : Int) from by omega]
      have hlen : (xs ++ pre).length = xs.length + (s - (k + 1)) := by
        have := congrArg List.length HP.out
        simp [numB_length] at this
        simp; omega
      have HL := Lib.hid hlen; clear hlen
      go_wp2_with (at_builtin; refine wpList_append_grew _ rfl (.tmp 14) (.tmp 20) 22 rfl base 5 (.int .u8 0) 1 1 Tryd.underlying22 Tryd.infoB rfl (by decide) _ _ _ rfl (hownr.alloc _) _ 1 [.int .u8 ((n : Int) / 2 ^ (8 * k) % 256)] rfl (Sl.one _ _ _) ?c1 ?c2 ?c3 ?c4 ?_)
      case c1 => intro u hu; simp at hu; subst hu; rfl
      case c2 => rw [HL.out]; unfold maxLen; omega
      case c3 => rw [HL.out]; omega
      case c4 => simp; omega
      intro v' w1 hown' hgrow
      have HO' := Lib.hid (own_eq (n' := (xs ++ (pre ++ [UInt8.ofNat (n / 256 ^ k)])).length) (xs' := (xs ++ (pre ++ [UInt8.ofNat (n / 256 ^ k)])).map by8) hown' (by simp <;> omega) (by rw [byte_at]; simp)); clear hown'
      have HG := Lib.hid ((hgr.alloc _).trans hgrow); clear hgrow hgr hownr
      go_wp2
      go_roundw
      case rel => exact ⟨k, pre ++ [UInt8.ofNat (n / 256 ^ k)], by omega, by go_num, by rw [← HP.out]; simp [numB], HO'.out, HG.out⟩
      case measure => simp [intOf]

set_option maxRecDepth 20000 in
set_option maxHeartbeats 400000 in
theorem clone_any (v : Value) (xs : List UInt8) (w : World) (hv : Bs w v xs) (hl : xs.length ≤ 140737488355328) :
    Calls Tryd.prog 69 #[v] w (Fresh w xs) := by
  obtain ⟨a, c, rfl, hc1, hc2⟩ := Sl.shape hv
  have e1 := @Lib.run_eql_slice_nil Tryd.prog
  cases a with
  | none =>
    obtain ⟨hn, hc, hx⟩ := Sl.empty hv
    have hx' : xs = [] := by simpa using hx
    subst hx'
    subst hc
    clear hx hn hc1 hc2
    go_enter Tryd.func69, Tryd.ntmps69
    go_wp2
    go_ret
    exact ⟨_, rfl, World.ownsRow_nil _ _ _ _, Below.refl _ _⟩
  | some ad =>
    have hv' : Sl (w.alloc (.cells #[] 5)) 1 (.slice (some ad) xs.length c) xs.length (xs.map by8) := Sl.below hv ((Below.refl _ _).alloc (Nat.le_refl _) _)
    have HV := Lib.hid hv'; clear hv hv'
    have ho := World.ownsRow_made (base := w.heap.size) (e := 5) (size := 1) w #[] 0 (Nat.le_refl _) (by decide) rfl
    have HO := Lib.hid ho; clear ho
    go_enter Tryd.func69, Tryd.ntmps69
    go_wp2_with (at_builtin; refine wpList_append_grew _ rfl (.tmp 5) (.tmp 6) 22 rfl w.heap.size 5 (.int .u8 0) 1 1 Tryd.underlying22 Tryd.infoB rfl (by decide) _ _ _ rfl HO.out _ _ _ rfl HV.out (oneCell_u8 _) ?c1 ?c2 ?c3 ?_)
    case c1 => unfold maxLen; omega
    case c2 => omega
    case c3 => simp
    intro v' w1 hown' hgrow
    have hb := hgrow.belowOwn HO.out (Nat.le_refl _) (by simp)
    have HR : Hid (w1.ownsRow w.heap.size 5 1 v' xs.length (xs.map by8) ∧ Below w.heap.size w w1) := ⟨own_eq hown' (by simp) (by simp), ((Below.refl _ _).alloc (Nat.le_refl _) _).trans hb⟩
    clear hown' hgrow hb HO HV
    go_wp2
    go_ret
    exact ⟨_, rfl, HR.out⟩
end Go.Proofs.YtioonimpobcglaaDoor
