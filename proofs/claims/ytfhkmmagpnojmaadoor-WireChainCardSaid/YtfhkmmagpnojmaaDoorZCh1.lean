/- Notes and the chain of a log, in plain words. No program, no condition. -/
import Derived.Test.YtfhkmmagpnojmaaDoorZAlv7
import Derived.Test.YtfhkmmagpnojmaaDoorZLgU
import Derived.Test.YtfhkmmagpnojmaaDoorZPf1
set_option linter.unusedSimpArgs false
set_option linter.unusedVariables false
namespace Go.Proofs.YtfhkmmagpnojmaaDoor
open Go.RowKit

/-- What is added to a log: a tick, a kind, a code, a frame and the slice that is its header. -/
structure Nt where
  tick : UInt64
  kind : UInt8
  code : UInt16
  hv : Value
  b : List UInt8
def ntL (n : Nt) : List Value := [.int .u64 (n.tick.toNat : Int), .int .u8 (n.kind.toNat : Int), .int .u16 (n.code.toNat : Int), n.hv]
theorem ntL_length (n : Nt) : (ntL n).length = 4 := rfl
def ntC (n : Nt) : I64 := ⟨(n.code.toNat : Int), by have := n.code.toNat_lt; omega⟩
def ntV (n : Nt) : Bool := decide (n.tick.toNat ≤ 4611686018427387904 ∧ n.kind.toNat ≤ 6 ∧ n.b.length ≤ 64)
abbrev ntR (G : Lg) (n : Nt) : Rcd := newR G n.tick n.kind (ntC n) n.b
abbrev ntG (G : Lg) (n : Nt) : Lg := apR G n.tick n.kind (ntC n) n.b
abbrev ntE (G : Lg) (n : Nt) : Int := apE G n.tick n.kind (ntC n) n.b.length
theorem lgV_apR (g : Lg) (t : UInt64) (k : UInt8) (c : I64) (b : List UInt8) (G : Lg) (D : List UInt8) (x : Rcd) (ok : ApOk g t k c b G D x) (hv : lgV g = true) (ht : t.toNat ≤ 4611686018427387904) (hk : k.toNat ≤ 6) : lgE G = 0 := by
  obtain ⟨h1, h2, _⟩ := lgV_parts g hv
  have hl : (keepR g.recs).length = g.recs.length - (g.recs.length + 1 - 32) := by simp [keepR]
  have hx : rcdV x = true := by unfold rcdV; rw [ok.x0, ok.x1, ok.x2, decide_eq_true ⟨ht, hk, ok.c0, ok.c1⟩]
  have hm : G.recs.length = (keepR g.recs).length + 1 := by rw [ok.g2]; simp
  have hc := ok.g0
  have hlen : G.recs.length = min G.cnt.toNat 32 := by omega
  have hch : chV G.recs = true := (chV_iff _).2 ⟨by omega, fun y hy => by
    rw [ok.g2] at hy
    rcases List.mem_append.1 hy with h | h
    · exact h2 y (List.mem_of_mem_drop h)
    · rw [List.mem_singleton.1 h]; exact hx⟩
  have hlast : G.link = lastK G.recs := by
    rw [lastK_at G.recs (keepR g.recs).length x hm (by rw [ok.g2]; simp), ok.x3, ok.g1]
  have : lgV G = true := by unfold lgV; rw [decide_eq_true hlen, hch, decide_eq_true hlast]; rfl
  unfold lgE
  rw [if_pos this]
/-- All records A so far, their frames P, all links LK and the log G. -/
structure Chn (A : List Rcd) (P : List (Value × List UInt8)) (LK : List (List UInt8)) (G : Lg) : Prop where
  cnt : G.cnt.toNat = A.length
  recs : G.recs = A.drop (A.length - 32)
  v : lgV G = true
  np : P.length = A.length
  nk : LK.length = A.length + 1
  kn : ∀ L ∈ LK, L.length = 32
  kl : ∀ (i : Nat) (x : Rcd), A[i]? = some x → LK[i + 1]? = some x.link
  kL : LK[A.length]? = some G.link
  ok : ∀ (i : Nat) (x : Rcd) (p : Value × List UInt8) (L : List UInt8), A[i]? = some x → P[i]? = some p → LK[i]? = some L → lnkD L x.tick x.kind x.code p.2 = x.link ∧ rcdV x = true ∧ p.2.length ≤ 64
theorem chn0 : Chn [] [] [zs32] lgZ where
  cnt := rfl
  recs := rfl
  v := by decide
  np := rfl
  nk := rfl
  kn := by intro L hL; rw [List.mem_singleton.1 hL]; rfl
  kl := by intro i x h; simp at h
  kL := rfl
  ok := by intro i x p L h; simp at h
theorem ntC_v (n : Nt) : (ntC n).v = (n.code.toNat : Int) := rfl
theorem chn_lk (n : Nt) : lkV n.tick n.kind (ntC n) = decide (n.tick.toNat ≤ 4611686018427387904 ∧ n.kind.toNat ≤ 6) := by
  have hc := n.code.toNat_lt
  have e : lkV n.tick n.kind (ntC n) = decide (n.tick.toNat ≤ 4611686018427387904 ∧ n.kind.toNat ≤ 6 ∧ 0 ≤ (n.code.toNat : Int) ∧ (n.code.toNat : Int) ≤ 65535) := rfl
  rw [e, Bool.eq_iff_iff, decide_eq_true_eq, decide_eq_true_eq]
  exact ⟨fun h => ⟨h.1, h.2.1⟩, fun h => ⟨h.1, h.2, by omega, by omega⟩⟩
theorem chn_lnk (n : Nt) : lnkE n.tick n.kind (ntC n) n.b.length = 0 ↔ ntV n = true := by
  unfold lnkE ntV
  rw [chn_lk n, decide_eq_true_eq]
  by_cases h1 : n.tick.toNat ≤ 4611686018427387904 ∧ n.kind.toNat ≤ 6
  · rw [decide_eq_true h1, if_neg (by decide)]
    split
    · exact ⟨fun h => absurd h (by decide), fun h => by omega⟩
    · exact ⟨fun _ => ⟨h1.1, h1.2, by omega⟩, fun _ => rfl⟩
  · rw [decide_eq_false h1, if_pos rfl]
    exact ⟨fun h => absurd h (by decide), fun h => absurd ⟨h.1, h.2.1⟩ h1⟩
theorem chn_E {A : List Rcd} {P : List (Value × List UInt8)} {LK : List (List UInt8)} {G : Lg} (h : Chn A P LK G) (hA : A.length ≤ 200) (n : Nt) : ntE G n = 0 ↔ ntV n = true := by
  show apE G n.tick n.kind (ntC n) n.b.length = 0 ↔ _
  unfold apE
  rw [h.v, if_neg (by decide), ← chn_lnk n]
  have hc := h.cnt
  split
  · rename_i h2; exact ⟨fun e => absurd e h2, fun e => absurd e h2⟩
  · rename_i h2
    rw [if_neg (by omega)]
    exact ⟨fun _ => by omega, fun _ => rfl⟩
theorem chn_step {A : List Rcd} {P : List (Value × List UInt8)} {LK : List (List UInt8)} {G : Lg} (h : Chn A P LK G) (hA : A.length ≤ 200) (n : Nt) (hv : ntV n = true) :
    Chn (A ++ [ntR G n]) (P ++ [(n.hv, n.b)]) (LK ++ [(ntR G n).link]) (ntG G n) := by
  have hE : ntE G n = 0 := (chn_E h hA n).2 hv
  obtain ⟨D, x, ok⟩ := apOk G n.tick n.kind (ntC n) n.b hE
  obtain ⟨e1, e2, e3⟩ := apR_all G n.tick n.kind (ntC n) n.b hE
  have hvv := of_decide_eq_true hv
  have hcnt := h.cnt
  have hcn := ok.g0
  have hrl : G.recs.length = min A.length 32 := by rw [h.recs, List.length_drop]; omega
  have hlink : (ntR G n).link = lnkD G.link n.tick n.kind (ntC n) n.b := rfl
  constructor
  · show (apR G n.tick n.kind (ntC n) n.b).cnt.toNat = _
    rw [List.length_append, List.length_singleton]; omega
  · rw [e3]
    show keepR G.recs ++ [ntR G n] = _
    unfold keepR
    rw [List.length_append, List.length_singleton]
    by_cases h32 : A.length < 32
    · have hr : G.recs = A := by rw [h.recs, show A.length - 32 = 0 by omega]; rfl
      rw [hr, show A.length + 1 - 32 = 0 by omega]
      rfl
    · rw [hrl, show min A.length 32 + 1 - 32 = 1 by omega, h.recs, List.drop_drop, List.drop_append_of_le_length (by omega), show A.length - 32 + 1 = A.length + 1 - 32 by omega]
  · have := lgV_apR G n.tick n.kind (ntC n) n.b _ D x ok h.v hvv.1 hvv.2.1
    unfold lgE at this
    by_cases hq : lgV (ntG G n) = true
    · exact hq
    · rw [if_neg hq] at this; cases this
  · simp [h.np]
  · simp [h.nk]
  · intro L hL
    rcases List.mem_append.1 hL with hL | hL
    · exact h.kn L hL
    · rw [List.mem_singleton.1 hL]; exact (ntR G n).len
  · intro i y hy
    by_cases hi : i < A.length
    · rw [List.getElem?_append_left hi] at hy
      rw [List.getElem?_append_left (by rw [h.nk]; omega)]
      exact h.kl i y hy
    · rw [List.getElem?_append_right (by omega)] at hy
      have hi0 : i - A.length = 0 := by
        rcases Nat.eq_zero_or_pos (i - A.length) with h0 | h0
        · exact h0
        · rw [List.getElem?_eq_none (by simp; omega)] at hy; cases hy
      rw [hi0] at hy
      obtain rfl : ntR G n = y := by simpa using hy
      rw [List.getElem?_append_right (by rw [h.nk]; omega), h.nk, show i + 1 - (A.length + 1) = 0 by omega]
      rfl
  · rw [List.length_append, List.length_singleton, List.getElem?_append_right (by rw [h.nk]; exact Nat.le_refl _), h.nk, Nat.sub_self, e2]
    rfl
  · intro i y p L hy hp hL
    by_cases hi : i < A.length
    · rw [List.getElem?_append_left hi] at hy
      rw [List.getElem?_append_left (by rw [h.np]; exact hi)] at hp
      rw [List.getElem?_append_left (by rw [h.nk]; omega)] at hL
      exact h.ok i y p L hy hp hL
    · rw [List.getElem?_append_right (by omega)] at hy
      have hi0 : i - A.length = 0 := by
        rcases Nat.eq_zero_or_pos (i - A.length) with h0 | h0
        · exact h0
        · rw [List.getElem?_eq_none (by simp; omega)] at hy; cases hy
      have hiA : i = A.length := by omega
      subst hiA
      rw [Nat.sub_self] at hy
      obtain rfl : ntR G n = y := by simpa using hy
      rw [List.getElem?_append_right (by rw [h.np]; exact Nat.le_refl _), h.np, Nat.sub_self] at hp
      obtain rfl : (n.hv, n.b) = p := by simpa using hp
      rw [List.getElem?_append_left (by rw [h.nk]; omega), h.kL] at hL
      obtain rfl := Option.some.inj hL
      have hc2 := n.code.toNat_lt
      refine ⟨rfl, ?_, hvv.2.2⟩
      unfold rcdV
      rw [decide_eq_true_eq]
      exact ⟨hvv.1, hvv.2.1, by show (0 : Int) ≤ (n.code.toNat : Int); omega, by show (n.code.toNat : Int) ≤ 65535; omega⟩
/-- All links from one on are right. -/
theorem chn_vf {A : List Rcd} {P : List (Value × List UInt8)} {LK : List (List UInt8)} {G : Lg} (h : Chn A P LK G) : ∀ (m j : Nat) (L : List UInt8), j + m = A.length → LK[j]? = some L → vfN L (A.drop j) ((P.map (·.2)).drop j) = m := by
  intro m
  induction m with
  | zero =>
    intro j L hj hL
    rw [List.drop_of_length_le (show A.length ≤ j by omega)]
    rfl
  | succ m ih =>
    intro j L hj hL
    have hjA : j < A.length := by omega
    have hx : A[j]? = some A[j] := List.getElem?_eq_getElem hjA
    have hjP : j < P.length := by rw [h.np]; exact hjA
    have hp : P[j]? = some P[j] := List.getElem?_eq_getElem hjP
    obtain ⟨o1, o2, o3⟩ := h.ok j _ _ L hx hp hL
    rw [vfN_step L A (P.map (·.2)) j A[j] P[j].2 hx (by rw [List.getElem?_map, hp]; rfl), if_pos o1, ih (j + 1) _ (by omega) (h.kl j _ hx)]
    omega
theorem chn_end {A : List Rcd} {P : List (Value × List UInt8)} {LK : List (List UInt8)} {G : Lg} (h : Chn A P LK G) :
    ∃ L, LK[A.length - 32]? = some L ∧ L.length = 32 ∧ vfR L G.recs ((P.drop (A.length - 32)).map (·.2)) = (G.recs.length, 0) := by
  have hlt : A.length - 32 < LK.length := by rw [h.nk]; omega
  have hL := List.getElem?_eq_getElem hlt
  refine ⟨_, hL, h.kn _ (List.getElem_mem hlt), ?_⟩
  have hrl : G.recs.length = A.length - (A.length - 32) := by rw [h.recs, List.length_drop]
  have hpl : ((P.drop (A.length - 32)).map (·.2)).length = G.recs.length := by rw [List.length_map, List.length_drop, hrl, h.np]
  have va := vfAll LK[A.length - 32] G.recs ((P.drop (A.length - 32)).map (·.2)) (by omega) hpl
  have hval : ∀ x ∈ G.recs, rcdV x = true := (lgV_parts G h.v).2.1
  have hsm : ∀ b ∈ (P.drop (A.length - 32)).map (·.2), b.length ≤ 64 := by
    intro b hb
    obtain ⟨p, hp, rfl⟩ := List.mem_map.1 hb
    obtain ⟨i, hi, rfl⟩ := List.getElem_of_mem (List.mem_of_mem_drop hp)
    have hi2 : i < A.length := by rw [← h.np]; exact hi
    exact (h.ok i _ _ _ (List.getElem?_eq_getElem hi2) (List.getElem?_eq_getElem hi) (List.getElem?_eq_getElem (show i < LK.length by rw [h.nk]; omega))).2.2
  obtain ⟨g1, g2⟩ := va.good hval hsm
  have hvf := chn_vf h (A.length - (A.length - 32)) (A.length - 32) _ (by omega) hL
  rw [← h.recs, ← List.map_drop, ← hrl] at hvf
  rw [hvf] at g2
  exact Prod.ext g2 g1
theorem chn_since {A : List Rcd} {P : List (Value × List UInt8)} {LK : List (List UInt8)} {G : Lg} (h : Chn A P LK G) (first : UInt32) :
    sinceR G first = A.drop (if first.toNat < A.length then max first.toNat (A.length - 32) else A.length) := by
  have hrl : G.recs.length = A.length - (A.length - 32) := by rw [h.recs, List.length_drop]
  rw [sinceR_ok G first h.v, h.cnt, h.recs, List.drop_drop]
  congr 1
  rw [List.length_drop]
  unfold skipN
  split <;> omega
end Go.Proofs.YtfhkmmagpnojmaaDoor
