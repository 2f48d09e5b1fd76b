/- Plain laws for DigestKeyed: a key that is longer by zero bytes; a changed bit. No condition. -/
import Derived.Test.YthdhnpejakljkaaDoorVerify
import Derived.Test.YthdhnpejakljkaaDoorAlive
set_option linter.unusedSimpArgs false
set_option linter.unusedVariables false
namespace Go.Proofs.YthdhnpejakljkaaDoor
open Go.RowKit

theorem extB_take (key : List UInt8) (n : Nat) (h1 : key.length ≤ n) (h2 : n ≤ 64) : extB ((extB key).take n) = extB key := by
  have e : (extB key).take n = key ++ List.replicate (n - key.length) 0 := by
    unfold extB
    rw [List.take_append, List.take_of_length_le h1, List.take_replicate]
    congr 2
    omega
  rw [e]
  unfold extB
  rw [List.length_append, List.length_replicate, List.append_assoc, List.replicate_append_replicate]
  congr 2
  omega

theorem maskB_take (key : List UInt8) (c : UInt8) (n : Nat) (h1 : key.length ≤ n) (h2 : n ≤ 64) : maskB ((extB key).take n) c = maskB key c := by
  rw [maskB_ext, maskB_ext, extB_take key n h1 h2]

theorem tagD_take (key b : List UInt8) (n : Nat) (h1 : key.length ≤ n) (h2 : n ≤ 64) : tagD ((extB key).take n) b = tagD key b := by
  unfold tagD
  rw [maskB_take key _ n h1 h2, maskB_take key _ n h1 h2]

theorem extB_grow (key : List UInt8) (j : Nat) (h : key.length + j = 64) : key ++ List.replicate j 0 = extB key := by
  unfold extB
  rw [show 64 - key.length = j by omega]

theorem arr8_set (xs : List UInt8) (i : Nat) (y : UInt8) : (arr8 xs).setIfInBounds i (by8 y) = arr8 (xs.set i y) := by
  apply Array.ext'
  simp [arr8, List.map_set]

theorem bit_ne (x k : UInt8) (h : k.toNat < 8) : x ^^^ ((1 : UInt8) <<< k) ≠ x := by
  have hk : ∀ k : Fin 8, ((1 : UInt8) <<< (UInt8.ofNat k.val)) ≠ 0 := by decide
  have h1 := hk ⟨k.toNat, h⟩
  have e : UInt8.ofNat k.toNat = k := UInt8.ofNat_toNat
  simp only [e] at h1
  intro h2
  apply h1
  have h3 : x ^^^ (x ^^^ ((1 : UInt8) <<< k)) = x ^^^ x := by rw [h2]
  rw [← UInt8.xor_assoc, UInt8.xor_self, UInt8.zero_xor] at h3
  exact h3

theorem set_ne (xs : List UInt8) (i : Nat) (y : UInt8) (hi : i < xs.length) (hy : y ≠ xs[i]) : xs.set i y ≠ xs := by
  intro h
  have := congrArg (fun l => l[i]?) h
  simp only [List.getElem?_set_self hi, List.getElem?_eq_getElem hi, Option.some.injEq] at this
  exact hy this

theorem shl1 (k : Nat) (hk : k < 8) : ((1 : UInt8) <<< (UInt8.ofNat k)).toNat = 2 ^ k := by
  have : ∀ k : Fin 8, ((1 : UInt8) <<< (UInt8.ofNat k.val)).toNat = 2 ^ k.val := by decide
  exact this ⟨k, hk⟩

/-- A beginning of bytes of one's own reads as the beginning. -/
theorem Has.bs_take {w0 w : World} {l F : List Res} {g c N : Nat} {e : TypeId} {xs : List UInt8} (S : Has w0 w l) (hp : Pick l (row (.slice (some ⟨g, 0, none⟩) N c) e 1 N (xs.map by8)) F) (m : Nat) (hm : m ≤ N) :
    Bs w (.slice (some ⟨g, 0, none⟩) m c) (xs.take m) := by
  have h := S.sl hp
  have hl : xs.length = N := by have := h.1; simpa using this
  obtain ⟨a', h1, h2⟩ := Sl.part h 0 m (by omega)
  have e1 : a' = some ⟨g, 0, none⟩ := by
    rw [← h1]
    split <;> rfl
  subst e1
  have h3 : (xs.take m).length = m := by rw [List.length_take]; omega
  unfold Bs
  rw [h3, List.map_take]
  simpa using h2
end Go.Proofs.YthdhnpejakljkaaDoor
