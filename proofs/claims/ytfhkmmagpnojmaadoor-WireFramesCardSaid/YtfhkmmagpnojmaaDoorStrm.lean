/- Streams of valid requests. No program, no condition. -/
import Derived.Test.YtfhkmmagpnojmaaDoorSplP
set_option linter.unusedSimpArgs false
set_option linter.unusedVariables false
namespace Go.Proofs.YtfhkmmagpnojmaaDoor
open Go.RowKit

/-- The bytes of requests, one after another. -/
def strmL (s : List Rq) : List UInt8 := (s.map encR).flatten
theorem strm_len (s : List Rq) : (strmL s).length ≤ 53 * s.length := by
  induction s with
  | nil => simp [strmL]
  | cons r s ih =>
    have e : strmL (r :: s) = encR r ++ strmL s := rfl
    have := encR_length r
    have := bsz_le r.kind
    rw [e, List.length_append, List.length_cons]
    omega
theorem strm_app (s : List Rq) (r : Rq) : strmL (s ++ [r]) = strmL s ++ encR r := by simp [strmL]
theorem sent_yes (l : List Rq) (k : Nat) (x : Rq) (h : l[k]? = some x) (hv : rqV x = true) : (l.take (k + 1)).filter rqV = (l.take k).filter rqV ++ [x] := by
  obtain ⟨hk, rfl⟩ := List.getElem?_eq_some_iff.1 h
  rw [List.take_succ_eq_append_getElem hk, List.filter_append, List.filter_cons_of_pos hv, List.filter_nil]
theorem sent_no (l : List Rq) (k : Nat) (x : Rq) (h : l[k]? = some x) (hv : rqV x = false) : (l.take (k + 1)).filter rqV = (l.take k).filter rqV := by
  obtain ⟨hk, rfl⟩ := List.getElem?_eq_some_iff.1 h
  rw [List.take_succ_eq_append_getElem hk, List.filter_append, List.filter_cons_of_neg (by rw [hv]; decide), List.filter_nil, List.append_nil]
theorem sent_len (l : List Rq) (k : Nat) : ((l.take k).filter rqV).length ≤ l.length := Nat.le_trans (List.length_filter_le _ _) (by rw [List.length_take]; omega)


def rq4 : Rq := ⟨4, tokZ, 0, 0, 0⟩
theorem rq4_v : rqV rq4 = true := rfl
theorem rq4_len : (encR rq4).length = 49 := by rw [encR_length]; rfl
/-- The stream of valid requests and the beginning of a further one. -/
theorem strm_more (s : List Rq) (m : Nat) (hm : m < 49) : splitB (strmL s ++ (encR rq4).take m) = (s.map encR, (encR rq4).take m) := by
  have h2 := split_frs (s.map encR) ((encR rq4).take m) (fun f hf => by obtain ⟨r, _, rfl⟩ := List.mem_map.1 hf; exact encR_fr r)
  rw [split_begin (encR rq4) (encR_fr rq4) m (by rw [rq4_len]; exact hm), List.append_nil] at h2
  exact h2
end Go.Proofs.YtfhkmmagpnojmaaDoor
