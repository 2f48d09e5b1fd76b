/- Plain laws of rings, tokens and authorizations. No program, no condition. -/
import Derived.Test.YtmcefinhmihmnaaDoorAuthz
import Derived.Test.YtmcefinhmihmnaaDoorIssue
set_option linter.unusedSimpArgs false
set_option linter.unusedVariables false
namespace Go.Proofs.YtmcefinhmihmnaaDoor
open Go.RowKit

theorem sgT_idem (key : List UInt8) (t : Tok) : sgT key (sgT key t) = sgT key t := rfl
theorem sgT_head (key : List UInt8) (t : Tok) : headT (sgT key t) = headT t := rfl

/-- Arguments that Authorize takes. -/
abbrev ArgsOk (key : List UInt8) (tenant : Int) (kind now : Nat) : Prop := 0 ≤ tenant ∧ tenant < 3 ∧ 1 ≤ kind ∧ kind ≤ 6 ∧ now ≤ 4611686018427387904 ∧ vkB key = true

theorem auzT_some (key : List UInt8) (tenant : Int) (t : Tok) (kind now : Nat) (x : Mnt) (ha : ArgsOk key tenant kind now) (hs : sgT key t = t) (ht : (t.tenant.toNat : Int) = tenant) (h1 : x.role = t.role) (h2 : x.expiry = t.expiry) :
    auzT key tenant t kind now (some x) = if x.revoked = true then 192 else if x.expiry.toNat ≤ now then 193 else if prmB x.role.toNat kind = false then 194 else 0 := by
  unfold auzT
  rw [if_neg (not_not_intro ha), if_neg (not_not_intro hs), if_neg (not_not_intro ht)]
  dsimp only
  rw [if_neg (not_not_intro ⟨h1, h2⟩)]

theorem auzT_tenant (key : List UInt8) (tenant : Int) (t : Tok) (kind now : Nat) (o : Option Mnt) (ha : ArgsOk key tenant kind now) (hs : sgT key t = t) (ht : (t.tenant.toNat : Int) ≠ tenant) : auzT key tenant t kind now o = 190 := by
  unfold auzT
  rw [if_neg (not_not_intro ha), if_neg (not_not_intro hs), if_pos ht]

theorem auzT_bad (key : List UInt8) (tenant : Int) (t : Tok) (kind now : Nat) (o : Option Mnt) (ha : ¬ ArgsOk key tenant kind now) : auzT key tenant t kind now o = 2 := by
  unfold auzT
  rw [if_pos ha]

/-- What it means that Authorize refuses a token as revoked or as expired. -/
theorem auzT_cases (key : List UInt8) (tenant : Int) (t : Tok) (kind now : Nat) (o : Option Mnt) (h : auzT key tenant t kind now o = 0 ∨ auzT key tenant t kind now o = 192 ∨ auzT key tenant t kind now o = 193 ∨ auzT key tenant t kind now o = 194) :
    ArgsOk key tenant kind now ∧ sgT key t = t ∧ (t.tenant.toNat : Int) = tenant ∧ ∃ x, o = some x ∧ x.role = t.role ∧ x.expiry = t.expiry := by
  unfold auzT at h
  by_cases ha : ArgsOk key tenant kind now
  · rw [if_neg (not_not_intro ha)] at h
    by_cases hs : sgT key t = t
    · rw [if_neg (not_not_intro hs)] at h
      by_cases ht : (t.tenant.toNat : Int) = tenant
      · rw [if_neg (not_not_intro ht)] at h
        cases o with
        | none => dsimp only at h; omega
        | some x =>
          dsimp only at h
          by_cases hx : x.role = t.role ∧ x.expiry = t.expiry
          · exact ⟨ha, hs, ht, x, rfl, hx.1, hx.2⟩
          · rw [if_pos hx] at h; omega
      · rw [if_pos ht] at h; omega
    · rw [if_pos hs] at h; omega
  · rw [if_pos ha] at h; omega

theorem any_append_bad (l : List Mnt) (x : Mnt) : (l ++ [x]).any badM = (l.any badM || badM x) := by simp

theorem chkR_ok (l : List Mnt) (h1 : l.length ≤ 32) (h2 : l.any badM = false) : chkR l = 0 := by
  unfold chkR
  rw [if_neg (by omega), if_neg (by simp [h2])]
theorem chkR_any (l : List Mnt) (h : chkR l = 0) : l.any badM = false := by
  unfold chkR at h
  split at h
  · cases h
  · split at h
    · cases h
    · rename_i h2; simpa using h2

theorem expM_le (now life : Nat) : expM now life ≤ 4611686018427387904 := by unfold expM; split <;> omega

theorem mintM_good (role life now : Nat) (h1 : 1 ≤ role) (h2 : role ≤ 3) : badM (mintM role life now) = false := by
  have he := expM_le now life
  unfold badM mintM
  apply decide_eq_false
  simp only [UInt8.toNat_ofNat', UInt64.toNat_ofNat']
  omega

theorem mint_args (l : List Mnt) (role life now : Nat) (hE : mintE l role life now = 0) : chkR l = 0 ∧ 1 ≤ role ∧ role ≤ 3 ∧ 1 ≤ life ∧ life ≤ 4611686018427387904 ∧ now ≤ 4611686018427387904 ∧ l.length < 32 := by
  unfold mintE at hE
  split at hE
  · omega
  · rename_i hc
    split at hE
    · cases hE
    · rename_i ha
      split at hE
      · cases hE
      · rename_i hl
        have := chkR_len l (by omega)
        exact ⟨by omega, by omega, by omega, by omega, by omega, by omega, by omega⟩

theorem mint_chk (l : List Mnt) (role life now : Nat) (hE : mintE l role life now = 0) : chkR (l ++ [mintM role life now]) = 0 := by
  obtain ⟨hc, h1, h2, _, _, _, hl⟩ := mint_args l role life now hE
  exact chkR_ok _ (by simp; omega) (by rw [any_append_bad, chkR_any l hc, mintM_good role life now h1 h2]; rfl)

theorem entR_append (l : List Mnt) (x : Mnt) (n : Nat) (hn : n ≠ l.length + 1) : entR (l ++ [x]) n = entR l n := by
  unfold entR
  by_cases h0 : n = 0
  · rw [if_pos h0, if_pos h0]
  · rw [if_neg h0, if_neg h0]
    rw [List.getElem?_append]
    split
    · rfl
    · rename_i h
      rw [List.getElem?_eq_none (by omega : l.length ≤ n - 1)]
      rw [List.getElem?_eq_none]
      simp; omega

theorem entR_last (l : List Mnt) (x : Mnt) : entR (l ++ [x]) (l.length + 1) = some x := by
  unfold entR
  rw [if_neg (by omega)]
  simp

theorem entR_lt (l : List Mnt) (n : Nat) (x : Mnt) (h : entR l n = some x) : 1 ≤ n ∧ n ≤ l.length ∧ l[n - 1]? = some x := by
  unfold entR at h
  split at h
  · cases h
  · exact ⟨by omega, by have := (List.getElem?_eq_some_iff.1 h).1; omega, h⟩

theorem entR_set (l : List Mnt) (k n : Nat) (y : Mnt) (hk : 1 ≤ k) (hn : n ≠ k) : entR (l.set (k - 1) y) n = entR l n := by
  unfold entR
  by_cases h0 : n = 0
  · rw [if_pos h0, if_pos h0]
  · rw [if_neg h0, if_neg h0, List.getElem?_set_ne (by omega)]

theorem entR_set_self (l : List Mnt) (k : Nat) (x y : Mnt) (h : entR l k = some x) : entR (l.set (k - 1) y) k = some y := by
  obtain ⟨h1, h2, h3⟩ := entR_lt l k x h
  unfold entR
  rw [if_neg (by omega), List.getElem?_set_self (by omega)]

theorem any_set_bad (l : List Mnt) (k : Nat) (x y : Mnt) (hx : l[k]? = some x) (hl : l.any badM = false) (hy : badM y = false) : (l.set k y).any badM = false := by
  rw [List.any_eq_false]
  intro z hz
  rcases List.mem_or_eq_of_mem_set hz with h | h
  · exact (List.any_eq_false.1 hl) z h
  · rw [h]; simp [hy]

/-- A ring with an entry revoked. -/
theorem rev_parts (l : List Mnt) (n : Nat) (h : revE l n = 0) : ∃ x, chkR l = 0 ∧ entR l n = some x ∧ x.revoked = false ∧ revR l n = l.set (n - 1) ⟨x.role, x.expiry, true⟩ := by
  have h0 := h
  unfold revE at h
  split at h
  · omega
  · rename_i hc
    cases he : entR l n with
    | none => rw [he] at h; cases h
    | some x =>
      rw [he] at h
      dsimp only at h
      split at h
      · cases h
      · rename_i hr
        refine ⟨x, by omega, rfl, by simpa using hr, ?_⟩
        unfold revR
        rw [if_pos h0, he]

theorem rev_chk0 (l : List Mnt) (n : Nat) (x : Mnt) (hc : chkR l = 0) (he : entR l n = some x) : chkR (l.set (n - 1) ⟨x.role, x.expiry, true⟩) = 0 := by
  obtain ⟨h1, h2, h3⟩ := entR_lt l n x he
  refine chkR_ok _ (by rw [List.length_set]; exact chkR_len l hc) (any_set_bad l (n - 1) x _ h3 (chkR_any l hc) ?_)
  have := (List.any_eq_false.1 (chkR_any l hc)) x (List.mem_of_getElem? h3)
  simpa [badM] using this

/-- One more entry changes nothing for other tokens. -/
theorem auz_minted (l : List Mnt) (key : List UInt8) (tenant : Int) (t : Tok) (kind now role life at_ : Nat) (hE : mintE l role life at_ = 0) (hn : t.serial.toNat ≠ l.length + 1) : auzE (l ++ [mintM role life at_]) key tenant t kind now = auzE l key tenant t kind now := by
  rw [auzE_eq, auzE_eq, mint_chk l role life at_ hE, (mint_args l role life at_ hE).1, entR_append _ _ _ hn]

/-- Another revocation changes nothing. -/
theorem auz_revoked (l : List Mnt) (key : List UInt8) (tenant : Int) (t : Tok) (kind now n : Nat) (hE : revE l n = 0) (hn : t.serial.toNat ≠ n) : auzE (revR l n) key tenant t kind now = auzE l key tenant t kind now := by
  obtain ⟨x, hc, he, _, hR⟩ := rev_parts l n hE
  rw [hR, auzE_eq, auzE_eq, rev_chk0 l n x hc he, hc, entR_set l n _ _ (entR_lt l n x he).1 hn]

/-- The issued token. -/
theorem iss_parts (l : List Mnt) (key : List UInt8) (tenant : Int) (role life now : Nat) (hE : issE l key tenant role life now = 0) :
    mintE l role life now = 0 ∧ 0 ≤ tenant ∧ tenant < 3 ∧ vkB key = true ∧ issR l key tenant role life now = l ++ [mintM role life now] ∧ issT l key tenant role life now = sgT key (bareT tenant role (expM now life) (l.length + 1)) := by
  have h0 := hE
  unfold issE at hE
  split at hE
  · omega
  · split at hE
    · cases hE
    · rename_i hb
      have hb2 : tnB tenant = true ∧ vkB key = true := by
        cases hx : tnB tenant <;> cases hy : vkB key <;> simp_all
      have htn := of_decide_eq_true hb2.1
      refine ⟨hE, htn.1, htn.2, hb2.2, ?_, if_pos h0⟩
      unfold issR mintR
      rw [if_pos h0, if_pos hE]

theorem auz_issued (l : List Mnt) (key : List UInt8) (tenant : Int) (role life now kind later : Nat) (hE : issE l key tenant role life now = 0) (hk : 1 ≤ kind) (hk6 : kind ≤ 6) (hl : later ≤ 4611686018427387904) :
    auzE (issR l key tenant role life now) key tenant (issT l key tenant role life now) kind later = if expM now life ≤ later then 193 else if prmB role kind = false then 194 else 0 := by
  obtain ⟨hm, h0, h3, hv, hR, hT⟩ := iss_parts l key tenant role life now hE
  obtain ⟨hc, r1, r3, _, _, _, hlen⟩ := mint_args l role life now hm
  have he := expM_le now life
  have hser : (UInt32.ofNat (l.length + 1)).toNat = l.length + 1 := by rw [UInt32.toNat_ofNat']; omega
  rw [hR, hT, auzE_eq, mint_chk l role life now hm, if_neg (by simp)]
  show auzT key tenant _ kind later (entR (l ++ [mintM role life now]) (UInt32.ofNat (l.length + 1)).toNat) = _
  rw [hser, entR_last, auzT_some _ _ _ _ _ _ ⟨h0, h3, hk, hk6, hl, hv⟩ (sgT_idem _ _) _ rfl rfl, if_neg (by simp [mintM])]
  · have e1 : (mintM role life now).expiry.toNat = expM now life := by simp only [mintM, UInt64.toNat_ofNat']; omega
    have e2 : (mintM role life now).role.toNat = role := by simp only [mintM, UInt8.toNat_ofNat']; omega
    rw [e1, e2]
  · show ((UInt8.ofNat tenant.toNat).toNat : Int) = tenant
    rw [UInt8.toNat_ofNat']; omega

theorem auz_issued_other (l : List Mnt) (key : List UInt8) (tenant other : Int) (role life now kind later : Nat) (hE : issE l key tenant role life now = 0) (hk : 1 ≤ kind) (hk6 : kind ≤ 6) (hl : later ≤ 4611686018427387904) (ho : 0 ≤ other) (ho3 : other < 3) (hne : other ≠ tenant) :
    auzE (issR l key tenant role life now) key other (issT l key tenant role life now) kind later = 190 := by
  obtain ⟨hm, h0, h3, hv, hR, hT⟩ := iss_parts l key tenant role life now hE
  rw [hR, hT, auzE_eq, mint_chk l role life now hm, if_neg (by simp)]
  refine auzT_tenant _ _ _ _ _ _ ⟨ho, ho3, hk, hk6, hl, hv⟩ (sgT_idem _ _) ?_
  show ((UInt8.ofNat tenant.toNat).toNat : Int) ≠ other
  rw [UInt8.toNat_ofNat']; omega

theorem rev_issued (l : List Mnt) (key : List UInt8) (tenant : Int) (role life now : Nat) (hE : issE l key tenant role life now = 0) : revE (issR l key tenant role life now) (l.length + 1) = 0 := by
  obtain ⟨hm, h0, h3, hv, hR, hT⟩ := iss_parts l key tenant role life now hE
  rw [hR]
  unfold revE
  rw [mint_chk l role life now hm, if_neg (by simp), entR_last]
  simp [mintM]

theorem auz_issued_revoked (l : List Mnt) (key : List UInt8) (tenant : Int) (role life now kind later : Nat) (hE : issE l key tenant role life now = 0) (hk : 1 ≤ kind) (hk6 : kind ≤ 6) (hl : later ≤ 4611686018427387904) :
    auzE (revR (issR l key tenant role life now) (l.length + 1)) key tenant (issT l key tenant role life now) kind later = 192 := by
  obtain ⟨hm, h0, h3, hv, hR, hT⟩ := iss_parts l key tenant role life now hE
  have hr := rev_issued l key tenant role life now hE
  obtain ⟨x, hc, he, _, hR2⟩ := rev_parts _ _ hr
  have hlen := (mint_args l role life now hm).2.2.2.2.2.2
  have hser : (UInt32.ofNat (l.length + 1)).toNat = l.length + 1 := by rw [UInt32.toNat_ofNat']; omega
  rw [hR2, hT, auzE_eq, rev_chk0 _ _ x hc he, if_neg (by simp)]
  show auzT key tenant _ kind later (entR _ (UInt32.ofNat (l.length + 1)).toNat) = _
  have hx : x = mintM role life now := by rw [hR, entR_last] at he; exact (Option.some.inj he).symm
  subst hx
  rw [hser, entR_set_self _ _ _ _ he, auzT_some _ _ _ _ _ _ ⟨h0, h3, hk, hk6, hl, hv⟩ (sgT_idem _ _) _ rfl rfl, if_pos rfl]
  show ((UInt8.ofNat tenant.toNat).toNat : Int) = tenant
  rw [UInt8.toNat_ofNat']; omega

/-- A token that is refused as revoked or expired stays so. -/
theorem auz_never (l m : List Mnt) (key : List UInt8) (tenant : Int) (t : Tok) (kind now later : Nat) (hm : chkR m = 0) (hent : ∀ x, entR l t.serial.toNat = some x → entR m t.serial.toNat = some x) (hl : now ≤ later)
    (hw : auzE l key tenant t kind now = 192 ∨ auzE l key tenant t kind now = 193) : auzE m key tenant t kind later = if 4611686018427387904 < later then 2 else auzE l key tenant t kind now := by
  rw [auzE_eq l] at hw ⊢
  by_cases hc : chkR l = 0
  · rw [if_neg (not_not_intro hc)] at hw ⊢
    rw [auzE_eq, if_neg (not_not_intro hm)]
    obtain ⟨ha, hs, ht, x, hx, h1, h2⟩ := auzT_cases key tenant t kind now _ (.inr (hw.elim .inl (fun h => .inr (.inl h))))
    rw [hent x hx]
    rw [hx] at hw ⊢
    obtain ⟨a1, a2, a3, a4, a5, a6⟩ := ha
    split
    · exact auzT_bad _ _ _ _ _ _ (fun h => by have := h.2.2.2.2.1; omega)
    · rw [auzT_some _ _ _ _ _ _ ⟨a1, a2, a3, a4, a5, a6⟩ hs ht h1 h2] at hw ⊢
      rw [auzT_some _ _ _ _ _ _ ⟨a1, a2, a3, a4, by omega, a6⟩ hs ht h1 h2]
      split
      · rfl
      · rename_i hr
        rw [if_neg hr] at hw
        by_cases hx : x.expiry.toNat ≤ now
        · rw [if_pos hx, if_pos (by omega)]
        · rw [if_neg hx] at hw
          split at hw <;> omega
  · rw [if_pos hc] at hw
    rcases chkR_cases l with h | h | h <;> omega

/-- The token of an entry of a ring. -/
def entT (key : List UInt8) (tenant : Int) (i : Nat) (x : Mnt) : Tok := sgT key ⟨UInt8.ofNat tenant.toNat, x.role, x.expiry, UInt32.ofNat (i + 1), zs32, rfl⟩

/-- Whether t is the token of the entry at i, which is live and whose role permits the kind. -/
def exactB (key : List UInt8) (tenant : Int) (t : Tok) (kind now : Nat) (i : Nat) (x : Mnt) : Bool := decide (entT key tenant i x = t) && !x.revoked && decide (now < x.expiry.toNat) && prmB x.role.toNat kind
def exactK (l : List Mnt) (key : List UInt8) (tenant : Int) (t : Tok) (kind now : Nat) : Nat → Bool
  | 0 => false
  | k + 1 => exactK l key tenant t kind now k || (match l[k]? with | some x => exactB key tenant t kind now k x | none => false)

theorem exactK_iff (l : List Mnt) (key : List UInt8) (tenant : Int) (t : Tok) (kind now n : Nat) : exactK l key tenant t kind now n = true ↔ ∃ k x, k < n ∧ l[k]? = some x ∧ exactB key tenant t kind now k x = true := by
  induction n with
  | zero => simp [exactK]
  | succ n ih =>
    unfold exactK
    rw [Bool.or_eq_true, ih]
    constructor
    · rintro (⟨k, x, h1, h2, h3⟩ | h)
      · exact ⟨k, x, by omega, h2, h3⟩
      · cases hx : l[n]? with
        | none => rw [hx] at h; cases h
        | some x => rw [hx] at h; exact ⟨n, x, by omega, hx, h⟩
    · rintro ⟨k, x, h1, h2, h3⟩
      by_cases hk : k = n
      · subst hk; right; rw [h2]; exact h3
      · left; exact ⟨k, x, by omega, h2, h3⟩

theorem auz_exact (l : List Mnt) (key : List UInt8) (tenant : Int) (t : Tok) (kind now : Nat) (hc : chkR l = 0) (ha : ArgsOk key tenant kind now) : (auzE l key tenant t kind now == 0) = exactK l key tenant t kind now l.length := by
  have hlen := chkR_len l hc
  rw [Bool.eq_iff_iff, exactK_iff, beq_iff_eq, auzE_eq, if_neg (not_not_intro hc)]
  constructor
  · intro h
    obtain ⟨_, hs, ht, x, hx, h1, h2⟩ := auzT_cases key tenant t kind now _ (.inl h)
    obtain ⟨e1, e2, e3⟩ := entR_lt l _ x hx
    rw [hx, auzT_some _ _ _ _ _ _ ha hs ht h1 h2] at h
    refine ⟨t.serial.toNat - 1, x, by omega, e3, ?_⟩
    have hT : entT key tenant (t.serial.toNat - 1) x = t := by
      have h4 : UInt8.ofNat tenant.toNat = t.tenant := by
        apply UInt8.toNat_inj.1; rw [UInt8.toNat_ofNat', ← ht]; have := t.tenant.toNat_lt; omega
      have h5 : UInt32.ofNat (t.serial.toNat - 1 + 1) = t.serial := by
        apply UInt32.toNat_inj.1; rw [UInt32.toNat_ofNat']; have := t.serial.toNat_lt; omega
      unfold entT
      rw [h4, h5, h1, h2]
      exact hs
    unfold exactB
    rw [hT]
    by_cases hr : x.revoked = true
    · rw [if_pos hr] at h; cases h
    · rw [if_neg hr] at h
      by_cases hx : x.expiry.toNat ≤ now
      · rw [if_pos hx] at h; cases h
      · rw [if_neg hx] at h
        by_cases hp : prmB x.role.toNat kind = false
        · rw [if_pos hp] at h; cases h
        · have hr : x.revoked = false := by simpa using hr
          have hp : prmB x.role.toNat kind = true := by simpa using hp
          simp [hr, hp]; omega
  · rintro ⟨k, x, h1, h2, h3⟩
    unfold exactB at h3
    simp only [Bool.and_eq_true, decide_eq_true_eq, Bool.not_eq_true'] at h3
    obtain ⟨⟨⟨e1, e2⟩, e3⟩, e4⟩ := h3
    have hser : (UInt32.ofNat (k + 1)).toNat = k + 1 := by rw [UInt32.toNat_ofNat']; omega
    subst e1
    have he : entR l (entT key tenant k x).serial.toNat = some x := by
      show entR l (UInt32.ofNat (k + 1)).toNat = _
      rw [hser]; unfold entR; rw [if_neg (by omega)]; exact h2
    rw [he, auzT_some key tenant (entT key tenant k x) kind now x ha (sgT_idem _ _) (by show ((UInt8.ofNat tenant.toNat).toNat : Int) = tenant; rw [UInt8.toNat_ofNat']; have := ha.1; have := ha.2.1; omega) rfl rfl]
    rw [if_neg (by simp [e2]), if_neg (by omega), if_neg (by simp [e4])]

theorem auz_refused (l : List Mnt) (key : List UInt8) (tenant : Int) (t : Tok) (kind now : Nat) (h : ¬ (chkR l = 0 ∧ ArgsOk key tenant kind now)) : (auzE l key tenant t kind now == 0) = false := by
  rw [beq_eq_false_iff_ne, auzE_eq]
  by_cases hc : chkR l = 0
  · rw [if_neg (not_not_intro hc), auzT_bad _ _ _ _ _ _ (fun ha => h ⟨hc, ha⟩)]; decide
  · rw [if_pos hc]; exact hc

/-- The token of an entry is authorized for Watch just where the entry is live. -/
theorem auz_watch (l : List Mnt) (key : List UInt8) (tenant : Int) (now k : Nat) (x : Mnt) (hc : chkR l = 0) (ha : ArgsOk key tenant 4 now) (hx : l[k]? = some x) : (auzE l key tenant (entT key tenant k x) 4 now == 0) = liveB now x := by
  have hlen := chkR_len l hc
  have hk := (List.getElem?_eq_some_iff.1 hx).1
  have hser : (UInt32.ofNat (k + 1)).toNat = k + 1 := by rw [UInt32.toNat_ofNat']; omega
  have he : entR l (entT key tenant k x).serial.toNat = some x := by
    show entR l (UInt32.ofNat (k + 1)).toNat = _
    rw [hser]; unfold entR; rw [if_neg (by omega)]; exact hx
  have hp : prmB x.role.toNat 4 = true := by
    have := (List.any_eq_false.1 (chkR_any l hc)) x (List.mem_of_getElem? hx)
    unfold badM at this
    simp only [decide_eq_true_eq, not_or] at this
    rw [prmB_eq]; apply decide_eq_true; omega
  rw [auzE_eq, if_neg (not_not_intro hc), he, auzT_some key tenant (entT key tenant k x) 4 now x ha (sgT_idem _ _) (by show ((UInt8.ofNat tenant.toNat).toNat : Int) = tenant; rw [UInt8.toNat_ofNat']; have := ha.1; have := ha.2.1; omega) rfl rfl, hp]
  unfold liveB
  cases hr : x.revoked with
  | true => simp
  | false =>
    by_cases hx : x.expiry.toNat ≤ now
    · simp [hx] <;> omega
    · simp [hx] <;> omega
end Go.Proofs.YtmcefinhmihmnaaDoor
