/- How streams are cut, in plain words: portions, frames of encoded requests; decoding of encodings. No program, no condition. -/
import Derived.Test.YtfhkmmagpnojmaaDoorBg
set_option linter.unusedSimpArgs false
set_option linter.unusedVariables false
namespace Go.Proofs.YtfhkmmagpnojmaaDoor
open Go.RowKit

theorem frN_app (a b : List UInt8) (h : 2 ≤ a.length) : frN (a ++ b) = frN a := by
  unfold frN
  have e : ∀ i, i < a.length → (a ++ b).getD i 0 = a.getD i 0 := fun i hi => by simp only [List.getD, List.getElem?_append_left hi]
  rw [e 0 (by omega), e 1 (by omega)]

/-- How a stream is cut into portions does not matter. -/
theorem splitB_app (a b : List UInt8) : splitB (a ++ b) = ((splitB a).1 ++ (splitB ((splitB a).2 ++ b)).1, (splitB ((splitB a).2 ++ b)).2) := by
  suffices key : ∀ (n : Nat) (a : List UInt8), a.length ≤ n → splitB (a ++ b) = ((splitB a).1 ++ (splitB ((splitB a).2 ++ b)).1, (splitB ((splitB a).2 ++ b)).2) from key a.length a (Nat.le_refl _)
  intro n
  induction n with
  | zero =>
    intro a h
    have : a = [] := List.eq_nil_of_length_eq_zero (by omega)
    subst this
    rw [split_stop [] (.inl (by decide))]
    simp
  | succ n ih =>
    intro a h
    by_cases hs : a.length < 2 ∨ a.length < frN a
    · rw [split_stop a hs]
      simp
    · have hp := frN_pos a
      have h2 : 2 ≤ a.length := by omega
      have hfa := frN_app a b h2
      have hl : (a ++ b).length = a.length + b.length := by simp
      have hd : (a ++ b).drop (frN a) = a.drop (frN a) ++ b := by rw [List.drop_append_of_le_length (by omega)]
      have ht : (a ++ b).take (frN a) = a.take (frN a) := by rw [List.take_append_of_le_length (by omega)]
      rw [split_step (a ++ b) (by rw [hfa, hl]; omega), split_step a hs, hfa, hd, ht]
      rw [ih (a.drop (frN a)) (by rw [List.length_drop]; omega)]
      rfl

theorem val_take2 (b : List UInt8) (h : 2 ≤ b.length) : val (b.take 2) = 256 * (b.getD 0 0).toNat + (b.getD 1 0).toNat := by
  match b, h with
  | x :: y :: l, _ => simp [val]; try omega

/-- Bytes that say their own length, a possible one. -/
def isFr (f : List UInt8) : Prop := 2 ≤ f.length ∧ f.length ≤ 64 ∧ val (f.take 2) = f.length
theorem isFr_frN (f : List UInt8) (h : isFr f) : frN f = f.length := by
  obtain ⟨h1, h2, h3⟩ := h
  rw [val_take2 f h1] at h3
  unfold frN
  rw [if_neg (by omega), h3]
theorem split_fr (f b : List UInt8) (h : isFr f) : splitB (f ++ b) = (f :: (splitB b).1, (splitB b).2) := by
  have h1 := isFr_frN f h
  have h2 := frN_app f b h.1
  have hl : (f ++ b).length = f.length + b.length := by simp
  have h3 := h.1
  rw [split_step (f ++ b) (by rw [h2, h1, hl]; omega), h2, h1, List.take_left' rfl, List.drop_left' rfl]
theorem split_frs (fs : List (List UInt8)) (b : List UInt8) (h : ∀ f ∈ fs, isFr f) : splitB (fs.flatten ++ b) = (fs ++ (splitB b).1, (splitB b).2) := by
  induction fs with
  | nil => simp
  | cons f fs ih =>
    rw [List.flatten_cons, List.append_assoc, split_fr f _ (h f (by simp)), ih (fun g hg => h g (by simp [hg]))]
    rfl
/-- A beginning of a frame is no frame. -/
theorem split_begin (f : List UInt8) (h : isFr f) (n : Nat) (hn : n < f.length) : splitB (f.take n) = ([], f.take n) := by
  have hl : (f.take n).length = n := by rw [List.length_take]; omega
  apply split_stop
  rw [hl]
  by_cases h2 : n < 2
  · exact .inl h2
  · right
    have e : f = f.take n ++ f.drop n := (List.take_append_drop n f).symm
    have := isFr_frN f h
    rw [e, frN_app _ _ (by omega), ← e] at this
    omega

theorem encR_fr (r : Rq) : isFr (encR r) := by
  have hl := encR_length r
  have := bsz_le r.kind
  exact ⟨by omega, by omega, (encR_parts r).2.2⟩
theorem dcOk_encR (r : Rq) (h : rqV r = true) : dcOk (encR r) = true := by
  obtain ⟨h1, _, h3⟩ := encR_parts r
  unfold dcOk
  rw [refR_encR r h, h, Bool.and_true, decide_eq_true_eq, h1]
  exact ⟨encR_length r, h3⟩
theorem dcE_encR (r : Rq) (h : rqV r = true) : dcE (encR r) = 0 := by
  have hl := encR_length r
  unfold dcE
  rw [if_neg (by omega), if_pos (dcOk_encR r h)]
theorem dcR_encR (r : Rq) (h : rqV r = true) : dcR (encR r) = r := by
  unfold dcR
  rw [if_pos (dcE_encR r h), refR_encR r h]

/-- The pieces and the rest are the bytes; each piece as long as it says. -/
theorem split_whole (b : List UInt8) : (splitB b).1.flatten ++ (splitB b).2 = b ∧ (∀ f ∈ (splitB b).1, 2 ≤ f.length ∧ f.length = frN f) ∧ (splitB b).2.length < 64 ∧ splitB (splitB b).2 = ([], (splitB b).2) := by
  suffices key : ∀ (n : Nat) (b : List UInt8), b.length ≤ n → (splitB b).1.flatten ++ (splitB b).2 = b ∧ (∀ f ∈ (splitB b).1, 2 ≤ f.length ∧ f.length = frN f) ∧ (splitB b).2.length < 64 ∧ splitB (splitB b).2 = ([], (splitB b).2) from key b.length b (Nat.le_refl _)
  intro n
  induction n with
  | zero =>
    intro b h
    have : b = [] := List.eq_nil_of_length_eq_zero (by omega)
    subst this
    have e := split_stop [] (.inl (by decide))
    rw [e]
    exact ⟨by simp, by simp, by decide, e⟩
  | succ n ih =>
    intro b h
    have hp := frN_pos b
    by_cases hs : b.length < 2 ∨ b.length < frN b
    · have e := split_stop b hs
      rw [e]
      exact ⟨by simp, by simp, by dsimp only; omega, e⟩
    · obtain ⟨i1, i2, i3, i4⟩ := ih (b.drop (frN b)) (by rw [List.length_drop]; omega)
      rw [split_step b hs]
      dsimp only
      refine ⟨?_, ?_, i3, i4⟩
      · rw [List.flatten_cons, List.append_assoc, i1, List.take_append_drop]
      · intro f hf
        rcases List.mem_cons.1 hf with rfl | hf
        · have hl : (b.take (frN b)).length = frN b := by rw [List.length_take]; omega
          refine ⟨by omega, ?_⟩
          rw [hl]
          have e : b = b.take (frN b) ++ b.drop (frN b) := (List.take_append_drop _ b).symm
          have := frN_app (b.take (frN b)) (b.drop (frN b)) (by omega)
          rwa [← e] at this
        · exact i2 f hf
end Go.Proofs.YtfhkmmagpnojmaaDoor
