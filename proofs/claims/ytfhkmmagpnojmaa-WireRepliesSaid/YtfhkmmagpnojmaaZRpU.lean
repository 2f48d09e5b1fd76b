/- The reply that is read: plain laws. No program, no condition. -/
import Derived.Test.YtfhkmmagpnojmaaZRpT
import Derived.Test.YtfhkmmagpnojmaaZRpK
set_option linter.unusedSimpArgs false
set_option linter.unusedVariables false
namespace Go.Proofs.Ytfhkmmagpnojmaa
open Go.RowKit

def hdX (b : List UInt8) : Rp := rpH (b.getD 2 0) (i64N (atB b 3 2)) (UInt64.ofNat (atB b 5 8))
def rpX (b : List UInt8) : Rp := usK (bk (hdX b)) (hdX b) (rdX (bk (hdX b)) b 13)
theorem bk_hd (b : List UInt8) : bk (hdX b) = if atB b 3 2 ≠ 0 then .n else if b.getD 2 0 = 1 ∨ b.getD 2 0 = 16 then .o else if b.getD 2 0 = 3 then .s else if b.getD 2 0 = 4 then .w else if b.getD 2 0 = 5 then .c else if b.getD 2 0 = 18 then .t else .n := by
  unfold bk hdX rpH
  dsimp only
  rw [i2_at]
  by_cases h : atB b 3 2 = 0
  · have e1 : ¬ ((atB b 3 2 : Int) ≠ 0) := by omega
    have e2 : ¬ (atB b 3 2 ≠ 0) := by omega
    rw [if_neg e1, if_neg e2]
  · have e1 : (atB b 3 2 : Int) ≠ 0 := by omega
    have e2 : atB b 3 2 ≠ 0 := by omega
    rw [if_pos e1, if_pos e2]
theorem psz_rd (b : List UInt8) : psz b = 13 + rdZ (bk (hdX b)) b 13 := by
  rw [bk_hd]
  unfold psz
  congr 1
  repeat' split
  all_goals rfl
theorem rpX_rpP (b : List UInt8) (h : psz b = b.length) : rpX b = rpP b := by
  have hp := psz_rd b
  unfold rpX
  rw [bk_hd] at hp ⊢
  unfold rpP
  by_cases h0 : atB b 3 2 ≠ 0
  · simp only [if_pos h0]
    rfl
  · by_cases h1 : b.getD 2 0 = 1 ∨ b.getD 2 0 = 16
    · simp only [if_neg h0, if_pos h1]
      rfl
    · by_cases h3 : b.getD 2 0 = 3
      · simp only [if_neg h0, if_neg h1, if_pos h3]
        rfl
      · by_cases h4 : b.getD 2 0 = 4
        · simp only [if_neg h0, if_neg h1, if_neg h3, if_pos h4]
          rfl
        · by_cases h5 : b.getD 2 0 = 5
          · simp only [if_neg h0, if_neg h1, if_neg h3, if_neg h4, if_pos h5]
            rfl
          · by_cases h18 : b.getD 2 0 = 18
            · simp only [if_neg h0, if_neg h1, if_neg h3, if_neg h4, if_neg h5, if_pos h18] at hp ⊢
              have hl : b.length = 59 := by rw [← h, hp]; rfl
              rw [if_pos hl]
              have : (b.drop 13).take 46 = b.drop 13 := List.take_of_length_le (by rw [List.length_drop]; omega)
              show usK .t (hdX b) { rpZ with tok := decT ((b.drop 13).take 46) } = _
              rw [this]
              rfl
            · simp only [if_neg h0, if_neg h1, if_neg h3, if_neg h4, if_neg h5, if_neg h18]
              rfl
end Go.Proofs.Ytfhkmmagpnojmaa
