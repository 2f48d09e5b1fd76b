/- Plain laws of the digest: blocks that are compressed in portions; the digest of a hash that was written in portions. No condition. -/
import Derived.Test.YtioonimpobcglaaDoorRefFinish
import Derived.Test.YtioonimpobcglaaDoorSum
set_option linter.unusedSimpArgs false
set_option linter.unusedVariables false
namespace Go.Proofs.YtioonimpobcglaaDoor

theorem absS_add (s : St) (xs : List UInt8) (k m : Nat) : absS (absS s xs k) (xs.drop (64 * k)) m = absS s xs (k + m) := by
  induction m with
  | zero => rfl
  | succ m ih =>
    show compS (absS (absS s xs k) (xs.drop (64 * k)) m) (((xs.drop (64 * k)).drop (64 * m)).take 64) = compS (absS s xs (k + m)) ((xs.drop (64 * (k + m))).take 64)
    rw [ih, List.drop_drop]
    congr 3
    omega

theorem absS_append (s : St) (xs ys : List UInt8) (k : Nat) (h : 64 * k ≤ xs.length) : absS s (xs ++ ys) k = absS s xs k := by
  induction k with
  | zero => rfl
  | succ k ih =>
    show compS (absS s (xs ++ ys) k) (((xs ++ ys).drop (64 * k)).take 64) = compS (absS s xs k) ((xs.drop (64 * k)).take 64)
    rw [ih (by omega), List.drop_append_of_le_length (by omega), List.take_append_of_le_length (by simp; omega)]

/-- Some bytes, and some more, in blocks. -/
theorem absS_both (s : St) (xs ys : List UInt8) (k : Nat) (h : 64 * k ≤ xs.length) :
    absS (absS s xs k) (xs.drop (64 * k) ++ ys) ((xs.drop (64 * k) ++ ys).length / 64) = absS s (xs ++ ys) ((xs ++ ys).length / 64) := by
  have e1 : xs.drop (64 * k) ++ ys = (xs ++ ys).drop (64 * k) := by rw [List.drop_append_of_le_length h]
  rw [← absS_append s xs ys k h, e1, absS_add]
  congr 1
  simp
  omega

/-- A hash of the bytes xs. -/
def hS (xs : List UInt8) : St := absS startS xs (xs.length / 64)
def hT (xs : List UInt8) : List UInt8 := xs.drop (64 * (xs.length / 64))

theorem hT_length (xs : List UInt8) : (hT xs).length = xs.length % 64 := by unfold hT; simp; omega
theorem chk_hT (xs : List UInt8) (h : xs.length ≤ 8192) : chkB (hT xs).length xs.length = true := by
  unfold chkB
  rw [hT_length, decide_eq_true h, decide_eq_true rfl]
  rfl

/-- The digest of such a hash is the bytes' own. -/
theorem fD_hash (xs : List UInt8) (h : xs.length ≤ 8192) : fD (hS xs) (hT xs) xs.length = sumD xs := by
  unfold fD
  rw [if_pos (chk_hT xs h)]
  unfold finD sumD finD lastB hS hT
  rw [absS_both startS xs (padB xs.length) _ (by omega)]

/-- A hash behind more bytes. -/
theorem write_hash (xs bs : List UInt8) (h : xs.length + bs.length ≤ 8192) :
    wE (hT xs).length xs.length bs.length = 0 ∧ wS (hS xs) (hT xs) xs.length bs = hS (xs ++ bs) ∧ wT (hT xs) xs.length bs = hT (xs ++ bs) ∧ wN (hT xs).length xs.length bs.length = (xs ++ bs).length := by
  have hE : wE (hT xs).length xs.length bs.length = 0 := by
    unfold wE
    rw [if_pos (chk_hT xs (by omega)), if_neg (by omega)]
  refine ⟨hE, ?_, ?_, ?_⟩
  · unfold wS
    rw [if_pos hE]
    unfold hS hT
    rw [absS_both startS xs bs _ (by omega)]
  · unfold wT
    rw [if_pos hE]
    unfold hT
    have e1 : xs.drop (64 * (xs.length / 64)) ++ bs = (xs ++ bs).drop (64 * (xs.length / 64)) := by rw [List.drop_append_of_le_length (by omega)]
    rw [e1, List.drop_drop]
    congr 1
    simp
    omega
  · unfold wN
    rw [if_pos hE]
    simp

theorem write_many (xs bs : List UInt8) (h1 : xs.length ≤ 8192) (h : 8192 < xs.length + bs.length) : wE (hT xs).length xs.length bs.length = 4 := by
  unfold wE
  rw [if_pos (chk_hT xs h1), if_pos (by omega)]
end Go.Proofs.YtioonimpobcglaaDoor
