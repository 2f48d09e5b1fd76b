/- TopWired in plain words: the stream of valid requests, cut anywhere; who is authorized carries a signed token of the ring. No program, no condition. -/
import Derived.Test.YtmcefinhmihmnaaDoorAuthP
import Derived.Test.YtmcefinhmihmnaaDoorSplP
set_option linter.unusedSimpArgs false
set_option linter.unusedVariables false
namespace Go.Proofs.YtmcefinhmihmnaaDoor
open Go.RowKit

/-- The bytes of requests, one after another. -/
def strmL (s : List Rq) : List UInt8 := (s.map encR).flatten
theorem strm_len (s : List Rq) : (strmL s).length ≤ 53 * s.length := by
  induction s with
  | nil => simp [strmL]
  | cons r s ih =>
    have e : strmL (r :: s) = encR r ++ strmL s := rfl
    have := encR_length r
    have := bsz_le r.kind
    rw [e, List.length_append, List.length_cons]
    omega
theorem strm_app (s : List Rq) (r : Rq) : strmL (s ++ [r]) = strmL s ++ encR r := by simp [strmL]
theorem sent_yes (l : List Rq) (k : Nat) (x : Rq) (h : l[k]? = some x) (hv : rqV x = true) : (l.take (k + 1)).filter rqV = (l.take k).filter rqV ++ [x] := by
  obtain ⟨hk, rfl⟩ := List.getElem?_eq_some_iff.1 h
  rw [List.take_succ_eq_append_getElem hk, List.filter_append, List.filter_cons_of_pos hv, List.filter_nil]
theorem sent_no (l : List Rq) (k : Nat) (x : Rq) (h : l[k]? = some x) (hv : rqV x = false) : (l.take (k + 1)).filter rqV = (l.take k).filter rqV := by
  obtain ⟨hk, rfl⟩ := List.getElem?_eq_some_iff.1 h
  rw [List.take_succ_eq_append_getElem hk, List.filter_append, List.filter_cons_of_neg (by rw [hv]; decide), List.filter_nil, List.append_nil]
theorem sent_len (l : List Rq) (k : Nat) : ((l.take k).filter rqV).length ≤ l.length := Nat.le_trans (List.length_filter_le _ _) (by rw [List.length_take]; omega)

/-- The stream, cut in two. -/
theorem strm_cut (s : List Rq) (n : Nat) : (splitB ((strmL s).take n)).1 ++ (splitB ((splitB ((strmL s).take n)).2 ++ (strmL s).drop n)).1 = s.map encR ∧ (splitB ((splitB ((strmL s).take n)).2 ++ (strmL s).drop n)).2 = [] := by
  have h1 := splitB_app ((strmL s).take n) ((strmL s).drop n)
  rw [List.take_append_drop] at h1
  have h2 := split_frs (s.map encR) [] (fun f hf => by obtain ⟨r, _, rfl⟩ := List.mem_map.1 hf; exact encR_fr r)
  rw [List.append_nil, split_stop [] (.inl (by decide)), List.append_nil] at h2
  have h3 : splitB (strmL s) = (s.map encR, []) := h2
  rw [h3] at h1
  exact ⟨(congrArg Prod.fst h1).symm, (congrArg Prod.snd h1).symm⟩

/-- The rest of a stream of frames that is cut is short. -/
theorem rest_len (b : List UInt8) : (splitB b).2.length < 64 := (split_whole b).2.2.1

theorem auz_zero (l : List Mnt) (key : List UInt8) (tenant : Int) (t : Tok) (kind now : Nat) (h : auzE l key tenant t kind now = 0) :
    ∃ k x, l[k]? = some x ∧ t.serial.toNat = k + 1 ∧ k < 32 ∧ snT key ⟨UInt8.ofNat tenant.toNat, x.role, x.expiry, t.serial, zs32, rfl⟩ = t ∧ snE key = 0 ∧ x.revoked = false ∧ now < x.expiry.toNat ∧ prmB x.role.toNat kind = true ∧ 0 ≤ tenant ∧ tenant < 3 := by
  have hz : (auzE l key tenant t kind now == 0) = true := by rw [h]; rfl
  have hca : chkR l = 0 ∧ ArgsOk key tenant kind now := by
    by_cases hq : chkR l = 0 ∧ ArgsOk key tenant kind now
    · exact hq
    · rw [auz_refused l key tenant t kind now hq] at hz; cases hz
  obtain ⟨hc, ha⟩ := hca
  rw [auz_exact l key tenant t kind now hc ha, exactK_iff] at hz
  obtain ⟨k, x, hk, hx, hb⟩ := hz
  unfold exactB at hb
  simp only [Bool.and_eq_true, decide_eq_true_eq] at hb
  obtain ⟨⟨⟨h1, h2⟩, h3⟩, h4⟩ := hb
  have hl : l.length ≤ 32 := by
    unfold chkR at hc
    by_cases h32 : 32 < l.length
    · rw [if_pos h32] at hc; cases hc
    · omega
  have hser : t.serial = UInt32.ofNat (k + 1) := by rw [← h1]; rfl
  have hsn : t.serial.toNat = k + 1 := by rw [hser, UInt32.toNat_ofNat']; omega
  obtain ⟨t0, t3, _, _, _, hv⟩ := ha
  refine ⟨k, x, hx, hsn, by omega, ?_, if_pos hv, by simpa using h2, h3, h4, t0, t3⟩
  rw [hser]
  unfold snT
  rw [if_pos hv]
  exact h1
end Go.Proofs.YtmcefinhmihmnaaDoor
