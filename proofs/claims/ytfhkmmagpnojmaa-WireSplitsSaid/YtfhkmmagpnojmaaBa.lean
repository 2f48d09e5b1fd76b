/- Several texts under one header: Lib, Own, Put, Take, PutU, RefNum, Sha, Word, Mix, Row, Row2, Eq, Args, Read. No condition but those that each names. -/
import Derived.WalkKit
import Derived.Lib.Hide
import Derived.Laws.AppendOwnNone
import Derived.Laws.BytesArg
import Derived.Test.YtfhkmmagpnojmaaProg
import Derived.WalkLawsBesides
import Derived.WalkSpells
import Derived.Outline
import Derived.Laws.BitsAllLaws
import Derived.Laws.DeepBits32
import Derived.Deep.QuietTactic
import Derived.BigQuiet
import Derived.Deep.RegionWith
import Derived.Laws.Rows
import Derived.Laws.Tables
import Derived.Laws.ResultCell
import Derived.StillTailTactics
import Derived.Deep.MidRow
import Derived.Laws.StructEq
import Derived.ProofKit
import Derived.OpenShut
import Derived.ShutString
import Derived.ChangeOld
import Derived.SizedLaws
import Derived.Deep.Slices
set_option linter.unusedSimpArgs false
set_option linter.unusedVariables false

/- Plain vocabulary for this seat's walks: a slice value that reads as a list of cells, bytes as UInt8, and how such readings are kept when the call makes new memory. No condition. -/
namespace Go.Proofs.Ytfhkmmagpnojmaa
open Go.RowKit

theorem ret_int {k : IntKind} {a b : Int} (h : a = b) : Ending.returned (.int k a) = .returned (.int k b) := by rw [h]

/-- v is a slice of n elements of 'size' cells each, and its cells are xs. -/
def Sl (w : World) (size : Nat) (v : Value) (n : Nat) (xs : List Value) : Prop :=
  xs.length = n * size ∧
  ((∃ a, v = .slice a 0 0 ∧ n = 0) ∨
   ∃ b off cap, v = .slice (some ⟨b, off, none⟩) n cap ∧ n ≤ cap ∧ cap ≤ maxLen ∧
     ∀ i (h : i < xs.length), w.cell? ⟨b, off + i, none⟩ = some xs[i])

/-- A byte as a value. -/
abbrev by8 (x : UInt8) : Value := .int .u8 (x.toNat : Int)

/-- v is a slice that reads as the bytes xs. -/
def Bs (w : World) (v : Value) (xs : List UInt8) : Prop := Sl w 1 v xs.length (xs.map by8)

theorem Sl.len {w : World} {size : Nat} {v : Value} {n : Nat} {xs : List Value} (h : Sl w size v n xs) : xs.length = n * size := h.1

theorem Sl.below {w w' : World} {size : Nat} {v : Value} {n : Nat} {xs : List Value} (h : Sl w size v n xs) (hb : Below w.heap.size w w') : Sl w' size v n xs := by
  refine ⟨h.1, ?_⟩
  rcases h.2 with h | ⟨b, off, cap, hv, h1, h2, hc⟩
  · exact .inl h
  · refine .inr ⟨b, off, cap, hv, h1, h2, fun i hi => ?_⟩
    have := hc i hi
    rw [hb.cell (World.block_lt_of_cell? w _ this)]
    exact this

theorem Bs.below {w w' : World} {v : Value} {xs : List UInt8} (h : Bs w v xs) (hb : Below w.heap.size w w') : Bs w' v xs := Sl.below h hb

theorem Bs.cases {w : World} {v : Value} {xs : List UInt8} (h : Bs w v xs) :
    (∃ a, v = .slice a 0 0 ∧ xs = []) ∨
    ∃ b off cap, v = .slice (some ⟨b, off, none⟩) xs.length cap ∧ xs.length ≤ cap ∧ cap ≤ maxLen ∧
      ∀ i (h : i < xs.length), w.cell? ⟨b, off + i, none⟩ = some (.int .u8 (xs[i].toNat : Int)) := by
  rcases h.2 with ⟨a, hv, hn⟩ | ⟨b, off, cap, hv, h1, h2, hc⟩
  · exact .inl ⟨a, hv, List.eq_nil_of_length_eq_zero hn⟩
  · refine .inr ⟨b, off, cap, hv, h1, h2, fun i hi => ?_⟩
    have := hc i (by simpa using hi)
    simpa using this

theorem Bs.mk {w : World} {xs : List UInt8} {b off cap : Nat} (h1 : xs.length ≤ cap) (h2 : cap ≤ maxLen)
    (hc : ∀ i (h : i < xs.length), w.cell? ⟨b, off + i, none⟩ = some (.int .u8 (xs[i].toNat : Int))) : Bs w (.slice (some ⟨b, off, none⟩) xs.length cap) xs :=
  ⟨by simp, .inr ⟨b, off, cap, rfl, h1, h2, fun i hi => by rw [hc i (by simpa using hi)]; simp⟩⟩

theorem Bs.mk0 (w : World) (a : Option Addr) : Bs w (.slice a 0 0) [] := ⟨rfl, .inl ⟨a, rfl, rfl⟩⟩

/-- What the call owns reads as what it owns. -/
theorem Sl.of_own {w : World} {base : Nat} {e : TypeId} {size : Nat} {v : Value} {n : Nat} {xs : List Value} (h : w.ownsRow base e size v n xs) : Sl w size v n xs := by
  refine ⟨h.1, ?_⟩
  rcases h.2 with ⟨hv, hn⟩ | ⟨g, cap, cur, hv, _, hg, h1, h2, h3, h4⟩
  · exact .inl ⟨none, by rw [hv], hn⟩
  · refine .inr ⟨g, 0, cap, hv, h1, h2, fun i hi => ?_⟩
    have := h.cells (g := g) (by rw [hv]; rfl) i xs[i] (by simp)
    have hadd : (⟨g, 0, none⟩ : Addr).add i = ⟨g, 0 + i, none⟩ := by unfold Addr.add; split <;> simp_all
    rw [← hadd]
    exact this

/-- The number that bytes are, the first the highest. -/
def val (xs : List UInt8) : Nat := xs.foldl (fun n c => 256 * n + c.toNat) 0

theorem val_snoc (xs : List UInt8) (c : UInt8) : val (xs ++ [c]) = 256 * val xs + c.toNat := by simp [val]

theorem val_lt (xs : List UInt8) : val xs < 256 ^ xs.length := by
  suffices h : ∀ (ys : List UInt8) (n m : Nat), n < 256 ^ m → ys.foldl (fun n c => 256 * n + c.toNat) n < 256 ^ (m + ys.length) by
    simpa [val] using h xs 0 0 (by simp)
  intro ys
  induction ys with
  | nil => intro n m h; simpa using h
  | cons c ys ih =>
    intro n m h
    have hc := c.toNat_lt
    have := ih (256 * n + c.toNat) (m + 1) (by rw [Nat.pow_succ]; omega)
    simp only [List.foldl_cons, List.length_cons]
    rw [show m + (ys.length + 1) = m + 1 + ys.length by omega]
    exact this

theorem val_take_succ (xs : List UInt8) (k : Nat) (h : k < xs.length) : val (xs.take (k + 1)) = 256 * val (xs.take k) + (xs[k]).toNat := by
  rw [List.take_succ_eq_append_getElem h, val_snoc]

theorem val_take_lt (xs : List UInt8) (k : Nat) (h : k < xs.length) (h8 : xs.length ≤ 8) : val (xs.take k) < 72057594037927936 := by
  have := val_lt (xs.take k)
  have hk : (xs.take k).length ≤ 7 := by simp; omega
  exact Nat.lt_of_lt_of_le this (Nat.le_trans (Nat.pow_le_pow_right (by decide) hk) (by decide))

end Go.Proofs.Ytfhkmmagpnojmaa

/- Laws for append onto a slice that the call itself owns, from any slice that can be read; what such an append leaves (Grew): new blocks, and writes to that slice's own row alone. No condition. -/
namespace Go.Proofs.Ytfhkmmagpnojmaa
open Go.RowKit

/-- w' is w with new blocks and with writes to v's own row alone, and v' lies in v's row or in a new block. -/
structure Grew (w w' : World) (v v' : Value) : Prop where
  g : w.grownBy w' v.ownBlock
  at' : v'.ownBlock = none ∨ v'.ownBlock = v.ownBlock ∨ ∃ k, v'.ownBlock = some k ∧ w.heap.size ≤ k

theorem Grew.refl (w : World) (v : Value) : Grew w w v v := ⟨⟨rfl, rfl, rfl, Nat.le_refl _, fun _ _ _ => rfl⟩, .inr (.inl rfl)⟩

theorem Grew.trans {w w1 w2 : World} {v v1 v2 : Value} (h : Grew w w1 v v1) (k : Grew w1 w2 v1 v2) : Grew w w2 v v2 := by
  refine ⟨⟨k.g.os.trans h.g.os, k.g.tape.trans h.g.tape, k.g.output.trans h.g.output, Nat.le_trans h.g.size k.g.size, fun j hj hne => ?_⟩, ?_⟩
  · have h1 := h.g.block j hj hne
    have hj1 : j < w1.heap.size := Nat.lt_of_lt_of_le hj h.g.size
    refine (k.g.block j hj1 ?_).trans h1
    rcases h.at' with e | e | ⟨q, e, hq⟩
    · rw [e]; simp
    · rw [e]; exact hne
    · rw [e]
      intro he
      simp at he
      omega
  · rcases k.at' with e | e | ⟨q, e, hq⟩
    · exact .inl e
    · rw [e]; exact h.at'
    · exact .inr (.inr ⟨q, e, Nat.le_trans h.g.size hq⟩)

theorem Grew.alloc {w w1 : World} {v v1 : Value} (h : Grew w w1 v v1) (o : Obj) : Grew w (w1.alloc o) v v1 :=
  h.trans ⟨World.grownBy_alloc w1 o _, .inr (.inl rfl)⟩

theorem Grew.drew {w w1 : World} {v v1 : Value} (h : Grew w w1 v v1) : Grew w w1.drew v v1 :=
  h.trans ⟨⟨rfl, rfl, rfl, Nat.le_refl _, fun _ _ _ => rfl⟩, .inr (.inl rfl)⟩

theorem Grew.below {B : Nat} {w w' : World} {v v' : Value} (h : Grew w w' v v') (hB : B ≤ w.heap.size) (hv : ∀ k, v.ownBlock = some k → B ≤ k) : Below B w w' :=
  (Below.refl B w).grown h.g hB hv

theorem Grew.belowOwn {B base : Nat} {w w' : World} {e : TypeId} {size n : Nat} {xs : List Value} {v v' : Value} (h : Grew w w' v v') (hown : w.ownsRow base e size v n xs) (hB : B ≤ base) (hs : B ≤ w.heap.size) : Below B w w' :=
  h.below hs fun k hk => by have := hown.lt k hk; omega

/-- A fresh slice (nil, or in a new block) grew out of nothing that was there. -/
theorem Grew.ofBelow {w w' : World} {v' : Value} (a : Option Addr) (hb : Below w.heap.size w w') {e : TypeId} {size n : Nat} {xs : List Value} (hown : w'.ownsRow w.heap.size e size v' n xs) (ha : a = none) : Grew w w' (.slice a 0 0) v' := by
  subst ha
  refine ⟨⟨hb.os, hb.tape, hb.output, hb.size, fun k hk _ => hb.block k hk⟩, ?_⟩
  cases hv : v'.ownBlock with
  | none => exact .inl rfl
  | some k => exact .inr (.inr ⟨k, rfl, (hown.lt k hv).1⟩)

theorem Sl.one (w : World) (x : Value) (e : TypeId) : Sl (w.alloc (.cells #[x] e)) 1 (.slice (some ⟨w.heap.size, 0, none⟩) 1 1) 1 [x] := by
  refine ⟨rfl, .inr ⟨w.heap.size, 0, 1, rfl, Nat.le_refl _, by decide, fun i hi => ?_⟩⟩
  have : i = 0 := by simpa using hi
  subst this
  unfold World.cell?
  rw [show (⟨w.heap.size, 0 + 0, none⟩ : Addr).block = w.heap.size from rfl, heap_alloc_new w _]
  rfl

theorem Sl.lit (w : World) (xs : List Value) (n : Nat) (e : TypeId) (hm : n ≤ maxLen) (hx : xs.length = n) : Sl (w.alloc (.cells xs.toArray e)) 1 (.slice (some ⟨w.heap.size, 0, none⟩) n n) n xs := by
  refine ⟨by omega, .inr ⟨w.heap.size, 0, n, rfl, Nat.le_refl _, hm, fun i hi => ?_⟩⟩
  unfold World.cell?
  rw [show (⟨w.heap.size, 0 + i, none⟩ : Addr).block = w.heap.size from rfl, heap_alloc_new w _]
  simp

theorem Sl.shape {w : World} {size : Nat} {v : Value} {n : Nat} {xs : List Value} (h : Sl w size v n xs) : ∃ a c, v = .slice a n c ∧ n ≤ c ∧ c ≤ maxLen := by
  rcases h.2 with ⟨a, hv, hn⟩ | ⟨b, off, cap, hv, h1, h2, _⟩
  · exact ⟨a, 0, by rw [hv, hn], by omega, by simp [maxLen]⟩
  · exact ⟨_, cap, hv, h1, h2⟩

theorem Sl.cellsAt {w : World} {size : Nat} {ad : Addr} {n c : Nat} {xs : List Value} (h : Sl w size (.slice (some ad) n c) n xs) : ∀ j u, xs[j]? = some u → w.cell? (ad.add j) = some u := by
  intro j u hu
  obtain ⟨hj, hu'⟩ := List.getElem?_eq_some_iff.1 hu
  rcases h.2 with ⟨a, hv, hn⟩ | ⟨b, off, cap, hv, h1, h2, hc⟩
  · have := h.1
    subst hn
    omega
  · simp only [Value.slice.injEq, Option.some.injEq] at hv
    obtain ⟨rfl, _, rfl⟩ := hv
    have hadd : (⟨b, off, none⟩ : Addr).add j = ⟨b, off + j, none⟩ := by unfold Addr.add; split <;> simp_all
    rw [hadd, hc j hj, hu']

theorem Sl.empty {w : World} {size : Nat} {n c : Nat} {xs : List Value} (h : Sl w size (.slice none n c) n xs) : n = 0 ∧ c = 0 ∧ xs = [] := by
  rcases h.2 with ⟨a, hv, hn⟩ | ⟨b, off, cap, hv, h1, h2, hc⟩
  · simp only [Value.slice.injEq] at hv
    have := h.1
    refine ⟨hn, hv.2.2, List.eq_nil_of_length_eq_zero ?_⟩
    rw [this, hn, Nat.zero_mul]
  · simp at hv

/-- What 's[l:h]' reads as, whatever address it has got. -/
theorem Sl.part {w : World} {size : Nat} {a : Option Addr} {n c : Nat} {xs : List Value} (h : Sl w size (.slice a n c) n xs) (l m : Nat) (hn : l + m ≤ n) :
    ∃ a', (if c = l then a else a.map (fun x => x.add (l * size))) = a' ∧ Sl w size (.slice a' m (c - l)) m ((xs.drop (l * size)).take (m * size)) := by
  have hlen := h.1
  have hle : (l + m) * size ≤ n * size := Nat.mul_le_mul_right _ hn
  have hl2 : ((xs.drop (l * size)).take (m * size)).length = m * size := by
    simp only [List.length_take, List.length_drop, hlen]
    rw [Nat.add_mul] at hle
    omega
  rcases h.2 with ⟨a0, hv, hn0⟩ | ⟨b, off, cap, hv, h1, h2, hc⟩
  · simp only [Value.slice.injEq] at hv
    obtain ⟨rfl, rfl, rfl⟩ := hv
    have hl0 : l = 0 := by omega
    have hm0 : m = 0 := by omega
    subst hl0; subst hm0
    exact ⟨a, by simp, by simp, .inl ⟨a, rfl, rfl⟩⟩
  · simp only [Value.slice.injEq] at hv
    obtain ⟨rfl, _, rfl⟩ := hv
    by_cases hcl : c = l
    · subst hcl
      have hm0 : m = 0 := by omega
      subst hm0
      exact ⟨some ⟨b, off, none⟩, by simp, by simp, .inl ⟨_, by rw [Nat.sub_self], rfl⟩⟩
    · refine ⟨some ⟨b, off + l * size, none⟩, ?_, hl2, .inr ⟨b, off + l * size, c - l, rfl, by omega, by omega, fun i hi => ?_⟩⟩
      · rw [if_neg hcl]
        simp only [Option.map_some, Option.some.injEq]
        unfold Addr.add
        split <;> simp_all
      · rw [hl2] at hi
        have hle2 : l * size + m * size ≤ xs.length := by rw [hlen]; rw [Nat.add_mul] at hle; omega
        have := hc (l * size + i) (by omega)
        rw [Nat.add_assoc, this]
        simp

section
variable {P : Program} (w : World)

theorem run_append_grew (base : Nat) (t ty e : TypeId) (i : TypeInfo) (z : Value) (size bytes : Nat) (ht : P.underlying t = some (.slice e)) (hi : P.info? e = some i) (hz : i.zero = some z)
    (hsize : i.size = size) (hby : i.bytes = bytes) (hzs : z.cells.size = size) (hsz : 0 < size)
    (v : Value) (n : Nat) (xs : List Value) (hown : w.ownsRow base e size v n xs)
    (src : Value) (m : Nat) (news : List Value) (hsrc : Sl w size src m news) (h1 : ∀ u ∈ news, u.oneCell' = true)
    (h63 : n + m ≤ maxLen) (hbytes : (n + m) * bytes ≤ 140737488355328) (hbase : base ≤ w.heap.size) :
    ∃ v' w', (Builtin.append_ #[t, t] ty #[v, src]).run P w = .ok v' w' ∧ w'.ownsRow base e size v' (n + m) (xs ++ news) ∧ Grew w w' v v' := by
  obtain ⟨a, c, rfl, hmc, hcm⟩ := hsrc.shape
  cases a with
  | none =>
    obtain ⟨rfl, rfl, rfl⟩ := hsrc.empty
    have := run_append_owned_none (P := P) (w := w) base t ty e i size ht hi v n xs hown
    refine ⟨v, w, this, by simpa using hown, Grew.refl w v⟩
  | some ad =>
    have hnews := hsrc.cellsAt
    have hl := hsrc.1
    obtain ⟨v', w', hr, ho, hg, _⟩ := run_append_own (P := P) w base t ty e i z size bytes ht hi hz hsize hby hzs hsz v n xs hown ad m c news hl hnews h1 h63 hbytes hbase
    refine ⟨v', w', hr, ho, hg, ?_⟩
    rcases hown.2 with ⟨rfl, rfl⟩ | ⟨g, cap, cur, rfl, hbg, hgg, hnc, hcm', hcs, htake⟩
    · obtain ⟨v2, w2, hr2, ho2, _, _⟩ := run_append_own (P := P) w w.heap.size t ty e i z size bytes ht hi hz hsize hby hzs hsz (.slice none 0 0) 0 xs ⟨hown.1, .inl ⟨rfl, rfl⟩⟩ ad m c news hl hnews h1 h63 hbytes (Nat.le_refl _)
      rw [hr] at hr2
      simp only [Result.ok.injEq] at hr2
      obtain ⟨rfl, rfl⟩ := hr2
      cases hv : v'.ownBlock with
      | none => exact .inl rfl
      | some k => exact .inr (.inr ⟨k, rfl, (ho2.lt k hv).1⟩)
    · subst hsize
      by_cases hroom : n + m ≤ cap
      · have hr2 := run_append_room (P := P) w t ty e i ht hi g n cap cur hgg ad m c news hl hnews h1 hroom (by rw [hl, hcs, ← Nat.add_mul]; exact Nat.mul_le_mul_right _ hroom)
        rw [hr] at hr2
        simp only [Result.ok.injEq] at hr2
        obtain ⟨rfl, _⟩ := hr2
        exact .inr (.inl rfl)
      · subst hby
        have hr2 := run_append_grow (P := P) w t ty e i z ht hi hz ⟨g, 0, none⟩ n cap xs hown.1 (hown.cells (g := g) rfl) ad m c news hl hnews (by omega) (by simp only [maxLen] at h63; omega) (growslice_fits (by omega) hbytes)
        rw [hr] at hr2
        simp only [Result.ok.injEq] at hr2
        obtain ⟨rfl, _⟩ := hr2
        exact .inr (.inr ⟨_, rfl, Nat.le_refl _⟩)

theorem wpList_append_grew {ops : Array Oper} {rest : List Oper} {o : Oper} {a : Act} {Q : Exit → Act → World → Prop} (hgd : o.guard = none) (s x : Operand) (t : TypeId)
    (ho : o.op = .call { callee := .builtin .append, args := #[s, x], argTypes := #[t, t] })
    (base : Nat) (e : TypeId) (z : Value) (size bytes : Nat) (ht : P.underlying t = some (.slice e)) (hinfo : (P.info? e).map (fun i => (i.zero, i.size, i.bytes)) = some (some z, size, bytes)) (hzs : z.cells.size = size) (hsz : 0 < size)
    (v : Value) (n : Nat) (xs : List Value) (hs : a.eval s = v) (hown : w.ownsRow base e size v n xs)
    (src : Value) (m : Nat) (news : List Value) (hx : a.eval x = src) (hsrc : Sl w size src m news) (h1 : ∀ u ∈ news, u.oneCell' = true)
    (h63 : n + m ≤ maxLen) (hbytes : (n + m) * bytes ≤ 140737488355328) (hbase : base ≤ w.heap.size)
    (h : ∀ v' w', w'.ownsRow base e size v' (n + m) (xs ++ news) → Grew w w' v v' → wpList P ops Q rest (a.put o.dst v') w') : wpList P ops Q (o :: rest) a w := by
  obtain ⟨i, hi, hz, hsize, hby⟩ := info_parts hinfo
  obtain ⟨v', w', hr, h2, h3⟩ := run_append_grew (P := P) w base t o.type e i z size bytes ht hi hz hsize hby hzs hsz v n xs hown src m news hsrc h1 h63 hbytes hbase
  refine wpList_plain hgd fun K hK => ?_
  unfold Oper.wp execOp
  simp only [ho, resolve, invoke, builtin, Sem.run_bind, Sem.run_pure, Result.andThen_ok, List.map_toArray, List.map_cons, List.map_nil, hs, hx, hr]
  exact hK _ _ (h v' w' h2 h3)

/-- The same as one step of a region that draws its order. -/
theorem step_append_grew {ops : Array Oper} {o : Oper} {a : Act} {K : Act → World → Prop} {Q : Exit → Act → World → Prop} {E : Prop} (hgd : o.guard = none) (s x : Operand) (t : TypeId)
    (ho : o.op = .call { callee := .builtin .append, args := #[s, x], argTypes := #[t, t] })
    (base : Nat) (e : TypeId) (z : Value) (size bytes : Nat) (ht : P.underlying t = some (.slice e)) (hinfo : (P.info? e).map (fun i => (i.zero, i.size, i.bytes)) = some (some z, size, bytes)) (hzs : z.cells.size = size) (hsz : 0 < size)
    (v : Value) (n : Nat) (xs : List Value) (hs : a.eval s = v) (hown : w.ownsRow base e size v n xs)
    (src : Value) (m : Nat) (news : List Value) (hx : a.eval x = src) (hsrc : Sl w size src m news) (h1 : ∀ u ∈ news, u.oneCell' = true)
    (h63 : n + m ≤ maxLen) (hbytes : (n + m) * bytes ≤ 140737488355328) (hbase : base ≤ w.heap.size)
    (h : ∀ v' w', w'.ownsRow base e size v' (n + m) (xs ++ news) → Grew w w' v v' → K (a.put o.dst v') w') :
    if Region.wanted o (yielded ops a.tmps) = true then Oper.wp P o a w K Q else E := by
  obtain ⟨i, hi, hz, hsize, hby⟩ := info_parts hinfo
  obtain ⟨v', w', hr, h2, h3⟩ := run_append_grew (P := P) w base t o.type e i z size bytes ht hi hz hsize hby hzs hsz v n xs hown src m news hsrc h1 h63 hbytes hbase
  rw [if_pos (by simp [Region.wanted, hgd])]
  unfold Oper.wp execOp
  simp only [ho, resolve, invoke, builtin, Sem.run_bind, Sem.run_pure, Result.andThen_ok, List.map_toArray, List.map_cons, List.map_nil, hs, hx, hr]
  exact h v' w' h2 h3
end

theorem oneCell_u8 (xs : List UInt8) : ∀ u ∈ xs.map by8, u.oneCell' = true := by
  intro u hu
  obtain ⟨x, _, rfl⟩ := List.mem_map.1 hu
  rfl

/-- A string's bytes. -/
def strB (xs : List UInt8) : ByteArray := ⟨xs.toArray⟩

theorem Bs.conv {P : Program} {w : World} {v : Value} {xs : List UInt8} (h : Bs w v xs) (src dst e : TypeId) (hs : P.underlying src = some (.slice e)) (he : P.underlying e = some (.int .u8)) (hd : P.underlying dst = some .string) :
    (convert src dst v).run P w = .ok (.string (strB xs)) w := by
  rcases h.cases with ⟨a, rfl, rfl⟩ | ⟨b, off, cap, rfl, hl, hm, hc⟩
  · rw [run_convert_bytes_string w src dst e a 0 0 hs he hd]
    cases a <;> (simp [Conv.bytesToString, strB, loadCells, loadCellsFrom, ByteArray.empty, ByteArray.emptyWithCapacity]; rfl)
  · have := run_convert_bytes_arg (P := P) w src e hs he b off xs.length cap (xs.map fun x => (x.toNat : Int)) (by simp) (fun i hi => by rw [hc i hi]; simp [List.getD, hi]) dst hd
    rw [this]
    congr 2
    simp [strOfNums, strB, Function.comp_def]

theorem own_shape {w : World} {base e size : Nat} {v : Value} {n : Nat} {xs : List Value} (h : w.ownsRow base e size v n xs) :
    (v = .slice none 0 0 ∧ n = 0) ∨ ∃ g cap, v = .slice (some ⟨g, 0, none⟩) n cap ∧ w.ownsRow base e size (.slice (some ⟨g, 0, none⟩) n cap) n xs := by
  rcases h.2 with hn | ⟨g, cap, cur, hv, r⟩
  · exact .inl hn
  · exact .inr ⟨g, cap, hv, by rw [← hv]; exact h⟩

/-- What the call owns, n bytes of it. -/
theorem Bs.of_own {w : World} {base e : Nat} {v : Value} {n : Nat} {xs : List UInt8} (h : w.ownsRow base e 1 v n (xs.map by8)) (hn : xs.length = n) : Bs w v xs := by
  subst hn
  exact Sl.of_own h

end Go.Proofs.Ytfhkmmagpnojmaa

/- Numbers as bytes, the highest first: what digest.put appends to a slice that the call owns, and what dunnageref01.Number returns in new memory; the memory that was there stays. -/
namespace Go.Proofs.Ytfhkmmagpnojmaa
open Go.RowKit

/-- A number in s bytes, the highest first. -/
def numB (n : Nat) : Nat → List UInt8
  | 0 => []
  | s + 1 => UInt8.ofNat (n / 256 ^ s) :: numB n s

theorem numB_length (n s : Nat) : (numB n s).length = s := by
  induction s with
  | zero => rfl
  | succ s ih => simp [numB, ih]

theorem Try.infoB : (Try.prog.info? 5).map (fun i => (i.zero, i.size, i.bytes)) = some (some (.int .u8 0), 1, 1) := by kernel_rfl

/-- What a call leaves that appends to v, which it owns: the value is the new one. -/
def Grows (base : Nat) (w : World) (v : Value) (xs : List UInt8) (e : Ending) (w' : World) : Prop :=
  ∃ v', e = .returned v' ∧ w'.ownsRow base 5 1 v' xs.length (xs.map by8) ∧ Grew w w' v v'

/-- What a call leaves that returns bytes in new memory. -/
def Fresh (w : World) (xs : List UInt8) (e : Ending) (w' : World) : Prop :=
  ∃ v', e = .returned v' ∧ w'.ownsRow w.heap.size 5 1 v' xs.length (xs.map by8) ∧ Below w.heap.size w w'

theorem byte_at (n k : Nat) : (n : Int) / 2 ^ (8 * k) % 256 = ((UInt8.ofNat (n / 256 ^ k)).toNat : Int) := by
  have e : (2 : Int) ^ (8 * k) = ((256 ^ k : Nat) : Int) := by rw [Int.pow_mul]; norm_cast
  rw [e]
  simp

theorem own_eq {w : World} {base e size : Nat} {v : Value} {n n' : Nat} {xs xs' : List Value} (h : w.ownsRow base e size v n xs) (hn : n' = n) (hx : xs' = xs) : w.ownsRow base e size v n' xs' := by
  subst hn; subst hx; exact h

set_option maxRecDepth 20000 in
set_option maxHeartbeats 400000 in
theorem put_any (base : Nat) (v : Value) (xs : List UInt8) (n s : Nat) (w : World) (hown : w.ownsRow base 5 1 v xs.length (xs.map by8)) (hb : base ≤ w.heap.size)
    (hl : xs.length ≤ 1000000) (hs : s ≤ 8) :
    Calls Try.prog 67 #[v, .int .u64 (n : Int), .int .i64 (s : Int)] w (Grows base w v (xs ++ numB n s)) := by
  go_enter Try.func67, Try.ntmps67
  go_wp2
  go_loopw [0, 7] (fun b i wr => ∃ (k : Nat) (pre : List UInt8), k ≤ s ∧ i = .int .i64 ((k : Int) - 1) ∧ pre ++ numB n k = numB n s ∧
      wr.ownsRow base 5 1 b (xs ++ pre).length ((xs ++ pre).map by8) ∧ Grew w wr v b) (fun _ i _ => (intOf i + 1).toNat)
  case atStart => exact ⟨s, [], by omega, rfl, by simp, by simpa using hown, Grew.refl _ _⟩
  case round =>
    obtain ⟨k, pre, hk, rfl, hpre, hownr, hgr⟩ := hrel
    have HP := Lib.hid hpre; clear hpre
    have HO := Lib.hid hown; clear hown
    have hsz := hgr.g.size
    cases k with
    | zero =>
      rw [show ((0 : Nat) : Int) - 1 = -1 from rfl]
      go_wp2
      go_ret
      have hp := HP.out
      simp only [numB, List.append_nil] at hp
      subst hp
      exact ⟨_, rfl, hownr, hgr⟩
    | succ k =>
      rw [show ((k + 1 : Nat) : Int) - 1 = (k : Int) from by omega]
      have hlen : (xs ++ pre).length = xs.length + (s - (k + 1)) := by
        have := congrArg List.length HP.out
        simp [numB_length] at this
        simp; omega
      have HL := Lib.hid hlen; clear hlen
      go_wp2_with (at_builtin; refine wpList_append_grew _ rfl (.tmp 14) (.tmp 20) 22 rfl base 5 (.int .u8 0) 1 1 Try.underlying22 Try.infoB rfl (by decide) _ _ _ rfl (hownr.alloc _) _ 1 [.int .u8 ((n : Int) / 2 ^ (8 * k) % 256)] rfl (Sl.one _ _ _) ?c1 ?c2 ?c3 ?c4 ?_)
      case c1 => intro u hu; simp at hu; subst hu; rfl
      case c2 => rw [HL.out]; unfold maxLen; omega
      case c3 => rw [HL.out]; omega
      case c4 => simp; omega
      intro v' w1 hown' hgrow
      have HO' := Lib.hid (own_eq (n' := (xs ++ (pre ++ [UInt8.ofNat (n / 256 ^ k)])).length) (xs' := (xs ++ (pre ++ [UInt8.ofNat (n / 256 ^ k)])).map by8) hown' (by simp <;> omega) (by rw [byte_at]; simp)); clear hown'
      have HG := Lib.hid ((hgr.alloc _).trans hgrow); clear hgrow hgr hownr
      go_wp2
      go_roundw
      case rel => exact ⟨k, pre ++ [UInt8.ofNat (n / 256 ^ k)], by omega, by go_num, by rw [← HP.out]; simp [numB], HO'.out, HG.out⟩
      case measure => simp [intOf]

set_option maxRecDepth 20000 in
set_option maxHeartbeats 400000 in
theorem clone_any (v : Value) (xs : List UInt8) (w : World) (hv : Bs w v xs) (hl : xs.length ≤ 140737488355328) :
    Calls Try.prog 24 #[v] w (Fresh w xs) := by
  obtain ⟨a, c, rfl, hc1, hc2⟩ := Sl.shape hv
  have e1 := @Lib.run_eql_slice_nil Try.prog
  cases a with
  | none =>
    obtain ⟨hn, hc, hx⟩ := Sl.empty hv
    have hx' : xs = [] := by simpa using hx
    subst hx'
    subst hc
    clear hx hn hc1 hc2
    go_enter Try.func24, Try.ntmps24
    go_wp2
    go_ret
    exact ⟨_, rfl, World.ownsRow_nil _ _ _ _, Below.refl _ _⟩
  | some ad =>
    have hv' : Sl (w.alloc (.cells #[] 5)) 1 (.slice (some ad) xs.length c) xs.length (xs.map by8) := Sl.below hv ((Below.refl _ _).alloc (Nat.le_refl _) _)
    have HV := Lib.hid hv'; clear hv hv'
    have ho := World.ownsRow_made (base := w.heap.size) (e := 5) (size := 1) w #[] 0 (Nat.le_refl _) (by decide) rfl
    have HO := Lib.hid ho; clear ho
    go_enter Try.func24, Try.ntmps24
    go_wp2_with (at_builtin; refine wpList_append_grew _ rfl (.tmp 5) (.tmp 6) 22 rfl w.heap.size 5 (.int .u8 0) 1 1 Try.underlying22 Try.infoB rfl (by decide) _ _ _ rfl HO.out _ _ _ rfl HV.out (oneCell_u8 _) ?c1 ?c2 ?c3 ?_)
    case c1 => unfold maxLen; omega
    case c2 => omega
    case c3 => simp
    intro v' w1 hown' hgrow
    have hb := hgrow.belowOwn HO.out (Nat.le_refl _) (by simp)
    have HR : Hid (w1.ownsRow w.heap.size 5 1 v' xs.length (xs.map by8) ∧ Below w.heap.size w w1) := ⟨own_eq hown' (by simp) (by simp), ((Below.refl _ _).alloc (Nat.le_refl _) _).trans hb⟩
    clear hown' hgrow hb HO HV
    go_wp2
    go_ret
    exact ⟨_, rfl, HR.out⟩
end Go.Proofs.Ytfhkmmagpnojmaa

/- The number that at most eight bytes are: what digest.take and dunnageref01.Value return, for bytes that lie anywhere; the world stays. -/
namespace Go.Proofs.Ytfhkmmagpnojmaa
open Go.RowKit


theorem or_byte (n c : Nat) (hn : n < 72057594037927936) (hc : c < 256) : bits .or .u64 ((n : Int) * 256) (c : Int) = ((256 * n + c : Nat) : Int) := by
  have e : ((n * 256 : Nat) : Int) = (n : Int) * 256 := by omega
  have hj : n * 256 ||| c = 256 * n + c := (nat_join 8 (n * 256) c (by omega) (by omega)).trans (by omega)
  have h := u64_or_nat (n * 256) c (by omega) (by omega)
  rw [e, hj] at h
  exact h

set_option maxHeartbeats 400000 in
theorem take_any (v : Value) (xs : List UInt8) (w : World) (hv : Bs w v xs) (h8 : xs.length ≤ 8) :
    Calls Try.prog 65 #[v] w fun e w' => e = .returned (.int .u64 (val xs : Int)) ∧ w = w' := by
  rcases hv.cases with ⟨a, rfl, rfl⟩ | ⟨b, off, cap, rfl, hl, hm, hc⟩
  · go_enter Try.func65, Try.ntmps65
    go_wp2
    refine wp_loop_rounds 1 ?_
    rw [rounds_succ]
    go_wp2
    go_ret
    exact ⟨rfl, rfl⟩
  · unfold maxLen at hm
    go_enter Try.func65, Try.ntmps65
    go_wp2
    go_loop [3, 8] (fun n i => ∃ k : Nat, k ≤ xs.length ∧ i = .int .i64 k ∧ n = .int .u64 (val (xs.take k) : Int)) (fun _ i => xs.length - (intOf i).toNat)
    case atStart => exact ⟨0, Nat.zero_le _, rfl, rfl⟩
    case round =>
      obtain ⟨k, hk, rfl, rfl⟩ := hrel
      by_cases hlt : k < xs.length
      · have hck := hc k hlt
        have hb := val_take_lt xs k hlt h8
        have hu := (xs[k]).toNat_lt
        have hs := val_take_succ xs k hlt
        have HS := Lib.hid hs; clear hs
        go_wp2
        go_round
        case rel => exact ⟨k + 1, by omega, by go_num, by rw [HS.out, or_byte _ _ hb hu]⟩
        case measure => simp [intOf]; omega
      · go_wp2
        go_ret
        exact ⟨ret_int (by rw [List.take_of_length_le (by omega)]), rfl⟩

set_option maxHeartbeats 400000 in
theorem value_any (v : Value) (xs : List UInt8) (w : World) (hv : Bs w v xs) (h8 : xs.length ≤ 8) :
    Calls Try.prog 39 #[v] w fun e w' => e = .returned (.int .u64 (val xs : Int)) ∧ w = w' := by
  rcases hv.cases with ⟨a, rfl, rfl⟩ | ⟨b, off, cap, rfl, hl, hm, hc⟩
  · go_enter Try.func39, Try.ntmps39
    go_wp2
    refine wp_loop_rounds 1 ?_
    rw [rounds_succ]
    go_wp2
    go_ret
    exact ⟨rfl, rfl⟩
  · unfold maxLen at hm
    go_enter Try.func39, Try.ntmps39
    go_wp2
    go_loop [3, 4] (fun n i => ∃ k : Nat, k ≤ xs.length ∧ i = .int .i64 k ∧ n = .int .u64 (val (xs.take k) : Int)) (fun _ i => xs.length - (intOf i).toNat)
    case atStart => exact ⟨0, Nat.zero_le _, rfl, rfl⟩
    case round =>
      obtain ⟨k, hk, rfl, rfl⟩ := hrel
      by_cases hlt : k < xs.length
      · have hck := hc k hlt
        have hb := val_take_lt xs k hlt h8
        have hu := (xs[k]).toNat_lt
        have hs := val_take_succ xs k hlt
        have HS := Lib.hid hs; clear hs
        go_wp2
        go_round
        case rel => exact ⟨k + 1, by omega, by go_num, by rw [HS.out]; go_num⟩
        case measure => simp [intOf]; omega
      · go_wp2
        go_ret
        exact ⟨ret_int (by rw [List.take_of_length_le (by omega)]), rfl⟩
end Go.Proofs.Ytfhkmmagpnojmaa

/- digest.PutUint, TakeBytes and TakeUint: what they return for any bytes, numbers, sizes and indexes: new memory, the error's number; what was there stays. -/
namespace Go.Proofs.Ytfhkmmagpnojmaa
open Go.RowKit

/-- The error of a number that is put behind len bytes. -/
def putE (len n : Nat) (s : Int) : Int := if s < 1 ∨ 8 < s ∨ 256 ^ s.toNat ≤ n then 2 else if 8192 < (len : Int) + s then 4 else 0

/-- The bytes with a number put behind them. -/
def putR (xs : List UInt8) (n : Nat) (s : Int) : List UInt8 := if putE xs.length n s = 0 then xs ++ numB n s.toNat else []

/-- What a call leaves that returns bytes in new memory and an error's number. -/
def FreshE (w : World) (xs : List UInt8) (code : Int) (e : Ending) (w' : World) : Prop :=
  ∃ v', e = .returned (.tuple #[v', .int .i64 code]) ∧ w'.ownsRow w.heap.size 5 1 v' xs.length (xs.map by8) ∧ Below w.heap.size w w'

theorem shr_ne (n k : Nat) : ((n : Int) / 2 ^ (8 * k) != 0) = decide (256 ^ k ≤ n) := by
  have e : (2 : Int) ^ (8 * k) = ((256 ^ k : Nat) : Int) := by rw [Int.pow_mul]; norm_cast
  rw [e, Bool.eq_iff_iff, bne_iff_ne, decide_eq_true_eq, ← Int.natCast_ediv, ne_eq, Int.natCast_eq_zero, Nat.div_eq_zero_iff]
  have : 0 < 256 ^ k := Nat.pow_pos (by decide)
  omega

set_option maxRecDepth 20000 in
set_option maxHeartbeats 400000 in
theorem putUint_any (v : Value) (xs : List UInt8) (n : Nat) (s : Int) (w : World) (hv : Bs w v xs) (hl : xs.length ≤ 140737488355328) (hn : n < 18446744073709551616)
    (hs : -9223372036854775808 ≤ s ∧ s ≤ 9223372036854775807) :
    Calls Try.prog 63 #[v, .int .u64 (n : Int), .int .i64 s] w (FreshE w (putR xs n s) (putE xs.length n s)) := by
  obtain ⟨a, c, rfl, hc1, hc2⟩ := Sl.shape hv
  have HV := Lib.hid hv; clear hv
  by_cases h1 : s < 1
  · have he : putE xs.length n s = 2 := by simp [putE, h1]
    have hr : putR xs n s = [] := by simp [putR, he]
    rw [he, hr]; clear he hr
    go_enter Try.func63, Try.ntmps63
    go_wp2_with fail
    go_ret2
    exact ⟨_, rfl, World.ownsRow_nil _ _ _ _, Below.refl _ _⟩
  · by_cases h2 : 8 < s
    · have he : putE xs.length n s = 2 := by simp [putE, h2]
      have hr : putR xs n s = [] := by simp [putR, he]
      rw [he, hr]; clear he hr
      go_enter Try.func63, Try.ntmps63
      go_wp2_with fail
      go_ret2
      exact ⟨_, rfl, World.ownsRow_nil _ _ _ _, Below.refl _ _⟩
    · obtain ⟨k, rfl⟩ := Int.eq_ofNat_of_zero_le (show 0 ≤ s by omega)
      by_cases hq : 256 ^ k ≤ n
      · have h8 : (k : Int) < 8 := by
          rcases Nat.lt_or_ge k 8 with h | h
          · omega
          · have := Nat.pow_le_pow_right (show 0 < 256 by decide) h
            omega
        have he : putE xs.length n k = 2 := by simp [putE, hq]
        have hr : putR xs n k = [] := by simp [putR, he]
        have ht : ((n : Int) / 2 ^ (8 * k) != 0) = true := by rw [shr_ne]; simpa using hq
        rw [he, hr]; clear he hr hq hn
        go_enter Try.func63, Try.ntmps63
        go_wp2_with fail
        go_ret2
        exact ⟨_, rfl, World.ownsRow_nil _ _ _ _, Below.refl _ _⟩
      · have ht : ((n : Int) / 2 ^ (8 * k) != 0) = false := by rw [shr_ne]; simpa using hq
        have hE : putE xs.length n k = if 8192 < (xs.length : Int) + k then 4 else 0 := by
          unfold putE; rw [if_neg (by simp; omega)]
        by_cases h4 : 8192 < (xs.length : Int) + k
        · have he : putE xs.length n k = 4 := by rw [hE, if_pos h4]
          have hr : putR xs n k = [] := by simp [putR, he]
          rw [he, hr]; clear he hr hE hq hn
          by_cases h8 : (k : Int) < 8
          all_goals
            go_enter Try.func63, Try.ntmps63
            go_wp2_with fail
            go_ret2
            exact ⟨_, rfl, World.ownsRow_nil _ _ _ _, Below.refl _ _⟩
        · have he : putE xs.length n k = 0 := by rw [hE, if_neg h4]
          have hr : putR xs n k = xs ++ numB n k := by simp [putR, he]
          rw [he, hr]; clear he hr hE hq hn
          by_cases h8 : (k : Int) < 8
          all_goals
            go_enter Try.func63, Try.ntmps63
            go_wp2_with (first | (go_at_call 24; refine (clone_any _ xs _ HV.out (by omega)).mono ?_; rintro e w1 ⟨v1, rfl, ho, hb⟩; have HO := Lib.hid ho; have HB := Lib.hid hb; clear ho hb) | (go_at_call 67; refine (put_any w.heap.size _ xs n k _ HO.out HB.out.size (by omega) (by omega)).mono ?_; rintro e w2 ⟨v2, rfl, ho2, hg2⟩; have HO2 := Lib.hid ho2; have HG2 := Lib.hid hg2; clear ho2 hg2))
            go_ret2
            exact ⟨_, rfl, HO2.out, HB.out.trans (HG2.out.belowOwn HO.out (Nat.le_refl _) HB.out.size)⟩

/-- The error of n bytes at an index. -/
def takeE (len : Nat) (at' n : Int) : Int := if at' < 0 ∨ (len : Int) < at' ∨ n < 0 then 2 else if (len : Int) - at' < n then 10 else 0

/-- n bytes at an index. -/
def takeR (xs : List UInt8) (at' n : Int) : List UInt8 := if takeE xs.length at' n = 0 then (xs.drop at'.toNat).take n.toNat else []

/-- The index behind n bytes at an index. -/
def takeN (len : Nat) (at' n : Int) : Int := if takeE len at' n = 0 then at' + n else 0

/-- TakeUint's number, its index and its error. -/
def tuV (xs : List UInt8) (p s : Int) : Nat := if s < 1 ∨ 8 < s then 0 else val (takeR xs p s)
def tuN (len : Nat) (p s : Int) : Int := if s < 1 ∨ 8 < s then 0 else takeN len p s
def tuE (len : Nat) (p s : Int) : Int := if s < 1 ∨ 8 < s then 2 else takeE len p s

/-- What a call leaves that returns bytes in new memory, an index and an error's number. -/
def FreshNE (w : World) (xs : List UInt8) (next code : Int) (e : Ending) (w' : World) : Prop :=
  ∃ v', e = .returned (.tuple #[v', .int .i64 next, .int .i64 code]) ∧ w'.ownsRow w.heap.size 5 1 v' xs.length (xs.map by8) ∧ Below w.heap.size w w'

set_option maxRecDepth 20000 in
set_option maxHeartbeats 400000 in
theorem takeBytes_any (v : Value) (xs : List UInt8) (p n : Int) (w : World) (hv : Bs w v xs) (hl : xs.length ≤ 140737488355328)
    (hp : -9223372036854775808 ≤ p ∧ p ≤ 9223372036854775807) (hn : -9223372036854775808 ≤ n ∧ n ≤ 9223372036854775807) :
    Calls Try.prog 57 #[v, .int .i64 p, .int .i64 n] w (FreshNE w (takeR xs p n) (takeN xs.length p n) (takeE xs.length p n)) := by
  obtain ⟨a, c, rfl, hc1, hc2⟩ := Sl.shape hv
  by_cases h1 : p < 0 ∨ (xs.length : Int) < p ∨ n < 0
  · have he : takeE xs.length p n = 2 := by simp [takeE, h1]
    have hr : takeR xs p n = [] := by simp [takeR, he]
    have hN : takeN xs.length p n = 0 := by simp [takeN, he]
    rw [he, hr, hN]; clear he hr hN
    have HV := Lib.hid hv; clear hv
    have k1 : p < 0 ∨ (0 ≤ p ∧ (xs.length : Int) < p) ∨ (0 ≤ p ∧ p ≤ (xs.length : Int) ∧ n < 0) := by omega
    clear h1
    rcases k1 with k1 | ⟨k1, k2⟩ | ⟨k1, k2, k3⟩
    all_goals
      go_enter Try.func57, Try.ntmps57
      go_wp2_with fail
      go_ret3
      exact ⟨_, rfl, World.ownsRow_nil _ _ _ _, Below.refl _ _⟩
  · obtain ⟨k, rfl⟩ := Int.eq_ofNat_of_zero_le (show 0 ≤ p by omega)
    obtain ⟨m, rfl⟩ := Int.eq_ofNat_of_zero_le (show 0 ≤ n by omega)
    have hE : takeE xs.length k m = if (xs.length : Int) - k < m then 10 else 0 := by unfold takeE; rw [if_neg h1]
    by_cases h2 : (xs.length : Int) - k < m
    · have he : takeE xs.length k m = 10 := by rw [hE, if_pos h2]
      have hr : takeR xs k m = [] := by simp [takeR, he]
      have hN : takeN xs.length k m = 0 := by simp [takeN, he]
      rw [he, hr, hN]; clear he hr hN hE
      have HV := Lib.hid hv; clear hv
      have k1 : (k : Int) ≤ xs.length := by omega
      clear h1
      go_enter Try.func57, Try.ntmps57
      go_wp2_with fail
      go_ret3
      exact ⟨_, rfl, World.ownsRow_nil _ _ _ _, Below.refl _ _⟩
    · have he : takeE xs.length k m = 0 := by rw [hE, if_neg h2]
      have hr : takeR xs k m = (xs.drop k).take m := by simp [takeR, he]
      have hN : takeN xs.length k m = k + m := by simp [takeN, he]
      rw [he, hr, hN]; clear he hr hN hE
      have k1 : (k : Int) + m ≤ xs.length := by omega
      obtain ⟨a', hif, hp⟩ := Sl.part hv k m (by omega)
      simp only [Nat.mul_one] at hif hp
      have hp' : Bs w (.slice a' m (c - k)) ((xs.drop k).take m) := by
        have e1 : ((xs.drop k).take m).length = m := by simp; omega
        unfold Bs
        rw [e1, List.map_take, List.map_drop]
        exact hp
      have HV := Lib.hid hp'; clear hv hp hp' h1
      have hll : ((xs.drop k).take m).length ≤ 140737488355328 := by simp; omega
      have HL := Lib.hid hll; clear hll
      go_enter Try.func57, Try.ntmps57
      go_wp2_with (go_at_call 24; refine (clone_any _ _ _ HV.out HL.out).mono ?_; rintro e w1 ⟨v1, rfl, ho, hb⟩; have HO := Lib.hid ho; have HB := Lib.hid hb; clear ho hb)
      go_ret3
      exact ⟨_, rfl, HO.out, HB.out⟩

set_option maxRecDepth 20000 in
set_option maxHeartbeats 400000 in
theorem takeUint_any (v : Value) (xs : List UInt8) (p s : Int) (w : World) (hv : Bs w v xs) (hl : xs.length ≤ 140737488355328)
    (hp : -9223372036854775808 ≤ p ∧ p ≤ 9223372036854775807) (hs : -9223372036854775808 ≤ s ∧ s ≤ 9223372036854775807) :
    Calls Try.prog 56 #[v, .int .i64 p, .int .i64 s] w fun e w' =>
      e = .returned (.tuple #[.int .u64 (tuV xs p s : Nat), .int .i64 (tuN xs.length p s), .int .i64 (tuE xs.length p s)]) ∧ Below w.heap.size w w' := by
  by_cases h1 : s < 1 ∨ 8 < s
  · have e1 : tuV xs p s = 0 := if_pos h1
    have e2 : tuN xs.length p s = 0 := if_pos h1
    have e3 : tuE xs.length p s = 2 := if_pos h1
    rw [e1, e2, e3]; clear e1 e2 e3
    rcases h1 with h1 | h1
    all_goals
      clear hv
      go_enter Try.func56, Try.ntmps56
      go_wp2_with fail
      go_ret3
      exact ⟨rfl, Below.refl _ _⟩
  · have e1 : tuV xs p s = val (takeR xs p s) := if_neg h1
    have e2 : tuN xs.length p s = takeN xs.length p s := if_neg h1
    have e3 : tuE xs.length p s = takeE xs.length p s := if_neg h1
    rw [e1, e2, e3]; clear e1 e2 e3
    have HV := Lib.hid hv; clear hv
    have h2 : 1 ≤ s ∧ s ≤ 8 := by omega
    obtain ⟨h3, h4⟩ := h2
    clear h1
    have hlen : (takeR xs p s).length ≤ 8 := by
      unfold takeR; split
      · simp; omega
      · simp
    have HL := Lib.hid hlen; clear hlen
    go_enter Try.func56, Try.ntmps56
    go_wp2_with (first | (go_at_call 57; refine (takeBytes_any _ xs p s _ HV.out hl hp hs).mono ?_; rintro e w1 ⟨v1, rfl, ho, hb⟩; have HO := Lib.hid ho; have HB := Lib.hid hb; clear ho hb) | (go_at_call 65; refine (take_any _ (takeR xs p s) _ (Sl.of_own HO.out) HL.out).mono ?_; rintro e w2 ⟨rfl, rfl⟩))
    go_ret3
    exact ⟨rfl, HB.out⟩
end Go.Proofs.Ytfhkmmagpnojmaa

/- The specification's Number: the bytes of a number, the highest first, in new memory; what was there stays. -/
namespace Go.Proofs.Ytfhkmmagpnojmaa
open Go.RowKit

set_option maxRecDepth 20000 in
set_option maxHeartbeats 400000 in
theorem number_any (n s : Nat) (w : World) (hn : n < 18446744073709551616) (hs : s ≤ 8) :
    Calls Try.prog 53 #[.int .u64 (n : Int), .int .i64 (s : Int)] w (Fresh w (numB n s)) := by
  have HN := Lib.hid hn; clear hn
  go_enter Try.func53, Try.ntmps53
  go_wp2
  go_loopw [0, 5, 6] (fun m b i wr => ∃ (k q : Nat), k ≤ s ∧ i = .int .i64 (k : Int) ∧ q = n / 256 ^ k ∧ m = .int .u64 (q : Int) ∧
      wr.ownsRow w.heap.size 5 1 b k ((numB n k).map by8) ∧ Below w.heap.size w wr) (fun _ _ i _ => s - (intOf i).toNat)
  case atStart => exact ⟨0, n, by omega, rfl, by simp, rfl, World.ownsRow_nil _ _ _ _, Below.refl _ _⟩
  case round =>
    obtain ⟨k, q, hk, rfl, hq, rfl, hown, hb⟩ := hrel
    have hq64 : q < 18446744073709551616 := by rw [hq]; exact Nat.lt_of_le_of_lt (Nat.div_le_self _ _) HN.out
    have HQ := Lib.hid hq; clear hq
    by_cases hlt : k < s
    · have hsz := hb.size
      have hsrc := Sl.below (Sl.of_own hown) ((Below.refl wr.heap.size wr).alloc (Nat.le_refl _) (.cells #[.int .u8 ((q : Int) % 256)] 5))
      have hdst := World.ownsRow_lit (base := w.heap.size) (e := 5) (size := 1) wr #[.int .u8 ((q : Int) % 256)] 1 hsz (by decide) rfl
      have HS := Lib.hid hsrc; have HD := Lib.hid hdst; have HB := Lib.hid hb; clear hsrc hdst hown hb
      go_wp2_with (at_builtin; refine wpList_append_grew _ rfl (.tmp 15) (.tmp 16) 22 rfl w.heap.size 5 (.int .u8 0) 1 1 Try.underlying22 Try.infoB rfl (by decide) _ _ _ rfl HD.out _ _ _ rfl HS.out (oneCell_u8 _) ?c1 ?c2 ?c3 ?_)
      case c1 => unfold maxLen; omega
      case c2 => omega
      case c3 => first | omega | (simp; omega)
      intro v' w1 hown' hgrow
      have hbel := HB.out.trans (((Below.refl _ _).alloc hsz _).trans (hgrow.belowOwn HD.out (Nat.le_refl _) (by simp; omega)))
      have hR := own_eq (n' := k + 1) (xs' := (numB n (k + 1)).map by8) hown' (by omega) (by simp [numB, ← HQ.out])
      have HR := Lib.hid hR; have HBL := Lib.hid hbel
      clear hown' hgrow hbel hR HS HD HB
      go_wp2
      go_roundw
      case rel => exact ⟨k + 1, q / 256, by omega, by go_num, by rw [HQ.out, Nat.pow_succ, Nat.div_div_eq_div_mul], by go_num, HR.out, HBL.out⟩
      case measure => simp [intOf]; omega
    · go_wp2
      go_ret
      obtain rfl : k = s := by omega
      exact ⟨_, rfl, by rw [numB_length]; exact hown, hb⟩
end Go.Proofs.Ytfhkmmagpnojmaa

/- The compression of a block in plain words: rotations, the schedule of words, the rounds; and the table of constants. Plain: no program in sight. No condition. -/
namespace Go.Proofs.Ytfhkmmagpnojmaa

/-- A word rotated right by n bits (n from 1 to 31). -/
def rotr (x : UInt32) (n : Nat) : UInt32 := UInt32.ofNat (x.toNat / 2 ^ n + x.toNat % 2 ^ n * 2 ^ (32 - n))

/-- Some rotations of a word, combined. -/
def mixS (ns : List Nat) (x : UInt32) : UInt32 := ns.foldl (fun out n => out ^^^ rotr x n) 0

/-- Word i of a block. -/
def wordB (b : List UInt8) (i : Nat) : UInt32 := UInt32.ofNat (val ((b.drop (4 * i)).take 4))

/-- The word behind those words. -/
def nextW (ws : List UInt32) (i : Nat) : UInt32 :=
  ws.getD (i - 16) 0 + (mixS [7, 18] (ws.getD (i - 15) 0) ^^^ (ws.getD (i - 15) 0 >>> 3)) + ws.getD (i - 7) 0 + (mixS [17, 19] (ws.getD (i - 2) 0) ^^^ (ws.getD (i - 2) 0 >>> 10))

/-- The first k words of a block's schedule. -/
def schedW (b : List UInt8) : Nat → List UInt32
  | 0 => []
  | k + 1 => schedW b k ++ [if k < 16 then wordB b k else nextW (schedW b k) k]

theorem schedW_length (b : List UInt8) (k : Nat) : (schedW b k).length = k := by
  induction k with
  | zero => rfl
  | succ k ih => simp [schedW, ih]

/-- The words are the same, however many follow. -/
theorem schedW_getD (b : List UInt8) (j k m : Nat) (hj : j < k) (hk : k ≤ m) : (schedW b m).getD j 0 = (schedW b k).getD j 0 := by
  induction m with
  | zero => omega
  | succ m ih =>
    by_cases h : k = m + 1
    · subst h; rfl
    · rw [← ih (by omega)]
      simp only [schedW, List.getD]
      rw [List.getElem?_append_left (by rw [schedW_length]; omega)]

theorem schedW_last (b : List UInt8) (k : Nat) : (schedW b (k + 1)).getD k 0 = if k < 16 then wordB b k else nextW (schedW b k) k := by
  simp only [schedW, List.getD]
  rw [List.getElem?_append_right (by rw [schedW_length]; omega), schedW_length]
  simp

/-- Eight words. -/
structure St where
  a : UInt32
  b : UInt32
  c : UInt32
  d : UInt32
  e : UInt32
  f : UInt32
  g : UInt32
  h : UInt32

def St.list (s : St) : List UInt32 := [s.a, s.b, s.c, s.d, s.e, s.f, s.g, s.h]

def St.of (l : List UInt32) : St := ⟨l.getD 0 0, l.getD 1 0, l.getD 2 0, l.getD 3 0, l.getD 4 0, l.getD 5 0, l.getD 6 0, l.getD 7 0⟩

theorem St.of_list (s : St) : St.of s.list = s := rfl

theorem St.list_of (l : List UInt32) (h : l.length = 8) : (St.of l).list = l := by
  match l, h with
  | [_, _, _, _, _, _, _, _], _ => rfl

def tA (v : St) (k w : UInt32) : UInt32 := v.h + mixS [6, 11, 25] v.e + ((v.e &&& v.f) ^^^ (~~~v.e &&& v.g)) + k + w
def tB (v : St) : UInt32 := mixS [2, 13, 22] v.a + ((v.a &&& v.b) ^^^ (v.a &&& v.c) ^^^ (v.b &&& v.c))

/-- A round. -/
def stepR (v : St) (k w : UInt32) : St := ⟨tA v k w + tB v, v.a, v.b, v.c, v.d + tA v k w, v.e, v.f, v.g⟩

def kTab : List UInt32 := [
  0x428a2f98, 0x71374491, 0xb5c0fbcf, 0xe9b5dba5, 0x3956c25b, 0x59f111f1, 0x923f82a4, 0xab1c5ed5,
  0xd807aa98, 0x12835b01, 0x243185be, 0x550c7dc3, 0x72be5d74, 0x80deb1fe, 0x9bdc06a7, 0xc19bf174,
  0xe49b69c1, 0xefbe4786, 0x0fc19dc6, 0x240ca1cc, 0x2de92c6f, 0x4a7484aa, 0x5cb0a9dc, 0x76f988da,
  0x983e5152, 0xa831c66d, 0xb00327c8, 0xbf597fc7, 0xc6e00bf3, 0xd5a79147, 0x06ca6351, 0x14292967,
  0x27b70a85, 0x2e1b2138, 0x4d2c6dfc, 0x53380d13, 0x650a7354, 0x766a0abb, 0x81c2c92e, 0x92722c85,
  0xa2bfe8a1, 0xa81a664b, 0xc24b8b70, 0xc76c51a3, 0xd192e819, 0xd6990624, 0xf40e3585, 0x106aa070,
  0x19a4c116, 0x1e376c08, 0x2748774c, 0x34b0bcb5, 0x391c0cb3, 0x4ed8aa4a, 0x5b9cca4f, 0x682e6ff3,
  0x748f82ee, 0x78a5636f, 0x84c87814, 0x8cc70208, 0x90befffa, 0xa4506ceb, 0xbef9a3f7, 0xc67178f2]

/-- The state after i rounds with these words. -/
def roundsR (ws : List UInt32) (v : St) : Nat → St
  | 0 => v
  | i + 1 => stepR (roundsR ws v i) (kTab.getD i 0) (ws.getD i 0)

def addS (x y : St) : St := ⟨x.a + y.a, x.b + y.b, x.c + y.c, x.d + y.d, x.e + y.e, x.f + y.f, x.g + y.g, x.h + y.h⟩

/-- The state after a block. -/
def compS (s : St) (b : List UInt8) : St := addS s (roundsR (schedW b 64) s 64)

/-- A word as a value. -/
def U32 (x : UInt32) : Value := .int .u32 (x.toNat : Int)

def startS : St := ⟨0x6a09e667, 0xbb67ae85, 0x3c6ef372, 0xa54ff53a, 0x510e527f, 0x9b05688c, 0x1f83d9ab, 0x5be0cd19⟩

/-- The state after the first n blocks of some bytes. -/
def absS (s : St) (b : List UInt8) : Nat → St
  | 0 => s
  | n + 1 => compS (absS s b n) ((b.drop (64 * n)).take 64)

/-- The bytes behind n bytes, before the last block. -/
def padB (n : Nat) : List UInt8 := 128 :: List.replicate ((119 - n % 64) % 64) 0 ++ numB' (8 * n)
  where numB' (m : Nat) : List UInt8 := [UInt8.ofNat (m / 256 ^ 7), UInt8.ofNat (m / 256 ^ 6), UInt8.ofNat (m / 256 ^ 5), UInt8.ofNat (m / 256 ^ 4), UInt8.ofNat (m / 256 ^ 3), UInt8.ofNat (m / 256 ^ 2), UInt8.ofNat (m / 256), UInt8.ofNat m]

def outW (x : UInt32) : List UInt8 := [UInt8.ofNat (x.toNat / 16777216), UInt8.ofNat (x.toNat / 65536), UInt8.ofNat (x.toNat / 256), UInt8.ofNat x.toNat]

def outS (s : St) : List UInt8 := s.list.flatMap outW

def shaB (b : List UInt8) : List UInt8 := outS (absS startS (b ++ padB b.length) ((b.length + 72) / 64))

set_option maxRecDepth 100000 in
theorem sha_abc : shaB [97, 98, 99] = [0xba, 0x78, 0x16, 0xbf, 0x8f, 0x01, 0xcf, 0xea, 0x41, 0x41, 0x40, 0xde, 0x5d, 0xae, 0x22, 0x23, 0xb0, 0x03, 0x61, 0xa3, 0x96, 0x17, 0x7a, 0x9c, 0xb4, 0x10, 0xff, 0x61, 0xf2, 0x00, 0x15, 0xad] := by decide +kernel
end Go.Proofs.Ytfhkmmagpnojmaa

/- Words as values (U32), kept closed in the walk: what the operations on them give. No condition. -/
namespace Go.Proofs.Ytfhkmmagpnojmaa
open Go.RowKit

theorem wrap32u (n : Int) : IntKind.u32.wrap n = n % 4294967296 := IntKind.wrap_u32' n

theorem u32_lt (x : UInt32) : x.toNat < 4294967296 := x.toNat_lt

@[go_sem] theorem U32_guard (op : BinOp) (t : TypeId) (x y : Operand) (a : UInt32) (v : Value) : eqGuard op t x y (U32 a) v = pure () := by unfold U32; cases op <;> rfl

@[go_sem] theorem U32_add (t : TypeId) (x y : UInt32) : binOp .add t (U32 x) (U32 y) = pure (U32 (x + y)) := by
  unfold U32
  have h : ((x.toNat : Int) + (y.toNat : Int)) % 4294967296 = ((x + y).toNat : Int) := by rw [UInt32.toNat_add]; omega
  rw [binOp_add]
  simp only [Op.intArith, wrap32u, h]

@[go_sem] theorem U32_and (t : TypeId) (x y : UInt32) : binOp .and t (U32 x) (U32 y) = pure (U32 (x &&& y)) := by
  unfold U32
  rw [binOp_and, intBits_and, u32_and_nat _ _ (u32_lt x) (u32_lt y), UInt32.toNat_and]

@[go_sem] theorem U32_xor (t : TypeId) (x y : UInt32) : binOp .xor t (U32 x) (U32 y) = pure (U32 (x ^^^ y)) := by
  unfold U32
  rw [binOp_xor, intBits_xor, u32_xor_nat _ _ (u32_lt x) (u32_lt y), UInt32.toNat_xor]

@[go_sem] theorem U32_shr3 (t : TypeId) (x : UInt32) : binOp .shr t (U32 x) (.int .u64 3) = pure (U32 (x >>> 3)) := by
  unfold U32
  rw [binOp_shr, shift_shr _ _ _ _ (by decide) (by decide), UInt32.toNat_shiftRight, Nat.shiftRight_eq_div_pow]
  rfl

@[go_sem] theorem U32_shr10 (t : TypeId) (x : UInt32) : binOp .shr t (U32 x) (.int .u64 10) = pure (U32 (x >>> 10)) := by
  unfold U32
  rw [binOp_shr, shift_shr _ _ _ _ (by decide) (by decide), UInt32.toNat_shiftRight, Nat.shiftRight_eq_div_pow]
  rfl

theorem not_nat (x : UInt32) : (4294967295 ^^^ x.toNat : Nat) = (~~~x).toNat := by
  have h : (~~~x).toNat = (BitVec.allOnes 32 ^^^ x.toBitVec).toNat := by rw [BitVec.allOnes_xor]; rfl
  rw [h, BitVec.toNat_xor]
  rfl

@[go_sem] theorem U32_not (x : UInt32) : Op.unary .xor (U32 x) = pure (U32 (~~~x)) := by
  unfold U32
  have h := u32_xor_nat 4294967295 x.toNat (by decide) (u32_lt x)
  rw [not_nat] at h
  rw [← h]
  rfl

@[go_sem high] theorem U32_store {P : Program} (w : World) (a : Addr) (m : Mode) (x : UInt32) : (store a (U32 x) m).run P w = stored P w a (U32 x) m := run_store_int _ _ _ _ _ _

@[go_sem] theorem U32_mul (t : TypeId) (x y : UInt32) : binOp .mul t (U32 x) (U32 y) = pure (U32 (x * y)) := by
  unfold U32
  have h : ((x.toNat : Int) * (y.toNat : Int)) % 4294967296 = ((x * y).toNat : Int) := by rw [UInt32.toNat_mul, Int.natCast_emod, Int.natCast_mul]; rfl
  rw [binOp_mul]
  simp only [Op.intArith, wrap32u, h]

@[go_sem] theorem U32_quo (t : TypeId) (x y : UInt32) (hy : y.toNat ≠ 0) : binOp .quo t (U32 x) (U32 y) = pure (U32 (x / y)) := by
  unfold U32
  have hy' : (y.toNat : Int) ≠ 0 := by omega
  have hx := u32_lt x
  have hq : (x.toNat : Int) / (y.toNat : Int) = ((x / y).toNat : Int) := by rw [UInt32.toNat_div]; norm_cast
  have hle : (x / y).toNat < 4294967296 := u32_lt _
  rw [binOp_quo]
  simp only [Op.intDiv, hy', if_false, wrap32u, Int.tdiv_eq_ediv_of_nonneg (Int.natCast_nonneg _), hq]
  congr 2
  omega

@[go_sem] theorem U32_rem (t : TypeId) (x y : UInt32) (hy : y.toNat ≠ 0) : binOp .rem t (U32 x) (U32 y) = pure (U32 (x % y)) := by
  unfold U32
  have hy' : (y.toNat : Int) ≠ 0 := by omega
  have hq : (x.toNat : Int) % (y.toNat : Int) = ((x % y).toNat : Int) := by rw [UInt32.toNat_mod]; norm_cast
  have hle : (x % y).toNat < 4294967296 := u32_lt _
  rw [binOp_rem]
  simp only [Op.intDiv, hy', if_false, wrap32u, Int.tmod_eq_emod_of_nonneg (Int.natCast_nonneg _), hq]

theorem ret_U32 {a b : UInt32} (h : a = b) : Ending.returned (U32 a) = .returned (U32 b) := by rw [h]

@[go_sem] theorem U32_one (x : UInt32) : (U32 x).oneCell' = true := rfl
@[go_sem ↓] theorem U32_cells (x : UInt32) : (U32 x).cells = #[U32 x] := rfl

@[go_sem] theorem U32_match (x : UInt32) : Value.cells.match_1 (fun _ => Array Value) (U32 x) (fun cs => cs) (fun v => #[v]) = #[U32 x] := rfl

theorem andThen_unit (r : Result Unit) : (r.andThen fun _ w => (Result.ok () w : Result Unit)) = r := by cases r <;> rfl

@[go_sem high] theorem U32_storeCells {P : Program} (w : World) (a : Addr) (x : UInt32) : (storeCells a [U32 x]).run P w = stored P w a (U32 x) .plain := by
  rw [← U32_store (P := P) w a .plain x, ← andThen_unit ((store a (U32 x) .plain).run P w)]
  simp only [storeCells, Sem.run_bind, show a.add 0 = a by simp [Addr.add], Sem.run_pure]
end Go.Proofs.Ytfhkmmagpnojmaa

/- Rotations: what bits.RotateLeft32, the closure of digest.mixed, and dunnageref01.rotr return. No condition but the counts' own bounds. -/
namespace Go.Proofs.Ytfhkmmagpnojmaa
open Go.RowKit

theorem neg_and (n : Nat) (h1 : 1 ≤ n) (h2 : n ≤ 31) : bits .and .u64 (IntKind.u64.wrap (-(n : Int))) 31 = 32 - (n : Int) := by
  have h : ∀ k : Fin 31, bits .and .u64 (IntKind.u64.wrap (-((k.val + 1 : Nat) : Int))) 31 = 32 - ((k.val + 1 : Nat) : Int) := by decide +kernel
  have := h ⟨n - 1, by omega⟩
  simp only [Nat.sub_add_cancel h1] at this
  exact this

theorem rot_eq (x : UInt32) (n : Nat) (h1 : 1 ≤ n) (h2 : n ≤ 31) :
    bits .or .u32 ((x.toNat : Int) * 2 ^ (32 - n) % 4294967296) ((x.toNat : Int) / 2 ^ (32 - (32 - n))) = ((rotr x n).toNat : Int) := by
  have hx := u32_lt x
  have hn : 32 - (32 - n) = n := by omega
  rw [hn]
  have hp : 2 ^ n * 2 ^ (32 - n) = 4294967296 := by rw [← Nat.pow_add, show n + (32 - n) = 32 by omega]
  have hA : x.toNat * 2 ^ (32 - n) % 4294967296 = x.toNat % 2 ^ n * 2 ^ (32 - n) := by rw [← hp, Nat.mul_mod_mul_right]
  have hpos : 0 < 2 ^ (32 - n) := Nat.two_pow_pos _
  have hpos2 : 0 < 2 ^ n := Nat.two_pow_pos _
  have hAlt : x.toNat % 2 ^ n * 2 ^ (32 - n) < 4294967296 := by rw [← hA]; exact Nat.mod_lt _ (by decide)
  have hB : x.toNat / 2 ^ n < 2 ^ (32 - n) := by rw [Nat.div_lt_iff_lt_mul hpos2, Nat.mul_comm, hp]; exact hx
  have hBlt : x.toNat / 2 ^ n < 4294967296 := Nat.lt_of_le_of_lt (Nat.div_le_self _ _) hx
  have hj : x.toNat % 2 ^ n * 2 ^ (32 - n) ||| x.toNat / 2 ^ n = x.toNat % 2 ^ n * 2 ^ (32 - n) + x.toNat / 2 ^ n := nat_join (32 - n) _ _ (Nat.mul_mod_left _ _) hB
  have hsum : x.toNat / 2 ^ n + x.toNat % 2 ^ n * 2 ^ (32 - n) < 4294967296 := by
    have hm : x.toNat % 2 ^ n + 1 ≤ 2 ^ n := Nat.mod_lt _ hpos2
    have := Nat.mul_le_mul_right (2 ^ (32 - n)) hm
    rw [hp, Nat.add_mul, Nat.one_mul] at this
    omega
  have e1 : (x.toNat : Int) * 2 ^ (32 - n) % 4294967296 = ((x.toNat % 2 ^ n * 2 ^ (32 - n) : Nat) : Int) := by
    rw [← hA, Int.natCast_emod, Int.natCast_mul, Int.natCast_pow]; rfl
  have e2 : (x.toNat : Int) / 2 ^ n = ((x.toNat / 2 ^ n : Nat) : Int) := by rw [Int.natCast_ediv, Int.natCast_pow]; rfl
  have hr : (rotr x n).toNat = x.toNat / 2 ^ n + x.toNat % 2 ^ n * 2 ^ (32 - n) := by
    unfold rotr
    rw [UInt32.toNat_ofNat']
    exact Nat.mod_eq_of_lt hsum
  rw [e1, e2, u32_or_nat _ _ hAlt hBlt, hj, hr, Nat.add_comm]

/-- A power of two as a word. -/
def pw (n : Nat) : UInt32 := UInt32.ofNat (2 ^ n)

theorem pw_nat (n : Nat) (h : n ≤ 31) : (pw n).toNat = 2 ^ n := by
  unfold pw
  rw [UInt32.toNat_ofNat']
  exact Nat.mod_eq_of_lt (Nat.pow_lt_pow_right (by decide) (by omega))

theorem pw_ne (n : Nat) (h : n ≤ 31) : (pw n).toNat ≠ 0 := by
  rw [pw_nat n h]
  have := Nat.two_pow_pos n
  omega

theorem pw_rotr (x : UInt32) (n : Nat) (h1 : 1 ≤ n) (h2 : n ≤ 31) : x / pw n + x % pw n * pw (32 - n) = rotr x n := by
  apply UInt32.toNat_inj.1
  unfold rotr
  rw [UInt32.toNat_add, UInt32.toNat_mul, UInt32.toNat_div, UInt32.toNat_mod, pw_nat n h2, pw_nat (32 - n) (by omega), UInt32.toNat_ofNat', Nat.add_mod_mod]

theorem pw_shr3 (x : UInt32) : x / pw 3 = x >>> 3 := by
  apply UInt32.toNat_inj.1
  rw [UInt32.toNat_div, pw_nat 3 (by decide), UInt32.toNat_shiftRight, Nat.shiftRight_eq_div_pow]
  rfl

theorem pw_shr10 (x : UInt32) : x / pw 10 = x >>> 10 := by
  apply UInt32.toNat_inj.1
  rw [UInt32.toNat_div, pw_nat 10 (by decide), UInt32.toNat_shiftRight, Nat.shiftRight_eq_div_pow]
  rfl

/-- What the closure of digest.mixed holds: a box with the counts. -/
structure MixBox (w : World) (bx : Nat) (ns : List Nat) : Prop where
  ok : ∀ n ∈ ns, 1 ≤ n ∧ n ≤ 31
  len : ns.length ≤ 1000
  at' : ∃ g, g < bx ∧ w.cell? ⟨bx, 0, none⟩ = some (.slice (some ⟨g, 0, none⟩) ns.length ns.length) ∧ ∀ i (h : i < ns.length), w.cell? ⟨g, i, none⟩ = some (.int .i64 (ns[i] : Int))

theorem MixBox.below {w w' : World} {bx : Nat} {ns : List Nat} (h : MixBox w bx ns) (hb : Below w.heap.size w w') : MixBox w' bx ns := by
  obtain ⟨ok, len, g, hg, h1, h2⟩ := h
  exact ⟨ok, len, g, hg, (hb.cell (World.block_lt_of_cell? w _ h1)).trans h1, fun i hi => (hb.cell (World.block_lt_of_cell? w _ (h2 i hi))).trans (h2 i hi)⟩

theorem MixBox.row {w w' : World} {bx B : Nat} {ns : List Nat} (h : MixBox w bx ns) (hg : w.grownBy w' (some B)) (hB : bx < B) : MixBox w' bx ns := by
  obtain ⟨ok, len, g, hgl, h1, h2⟩ := h
  exact ⟨ok, len, g, hgl, hg.cell h1 (by simp; omega), fun i hi => hg.cell (h2 i hi) (by simp; omega)⟩

theorem mixS_snoc (ns : List Nat) (n : Nat) (x : UInt32) : mixS (ns ++ [n]) x = mixS ns x ^^^ rotr x n := by simp [mixS]

end Go.Proofs.Ytfhkmmagpnojmaa

/- Laws on whole rows whose size is told by a number apart (so that no two rows are ever held against each other to learn it), and small laws on worlds. No condition. -/
namespace Go.Proofs.Ytfhkmmagpnojmaa
open Go.RowKit

theorem wpList_store_rowN {P : Program} {ops : Array Oper} {rest : List Oper} {o : Oper} {a : Act} {w : World} {Q : Exit → Act → World → Prop} (hgd : o.guard = none) (ty : TypeId) (x y : Operand) (ho : o.op = .store ty x y)
    (g : Nat) (cells : Array Value) (hx : a.eval x = .pointer (some ⟨g, 0, none⟩)) (hy : a.eval y = .agg cells)
    (t : TypeId) (old : Array Value) (hg : w.heap[g]? = some (.cells old t (0, 0))) (n : Nat) (hi : (P.info? ty).map (·.size) = some n) (hc : cells.size = n)
    (hold : old.size = n) (h1 : cells.all (·.oneCell') = true)
    (h : wpList P ops Q rest (a.put o.dst undef) (w.setRow g cells)) : wpList P ops Q (o :: rest) a w :=
  wpList_store_row hgd ty x y ho g cells hx hy t old hg (by rw [hc]; exact hi) (by rw [hc]; exact hold) h1 h

theorem wpList_load_rowN {P : Program} {ops : Array Oper} {rest : List Oper} {o : Oper} {a : Act} {w : World} {Q : Exit → Act → World → Prop} (hgd : o.guard = none) (ty : TypeId) (x : Operand) (ho : o.op = .load ty x)
    (g : Nat) (hx : a.eval x = .pointer (some ⟨g, 0, none⟩)) (t : TypeId) (cs : Array Value) (fr : Nat × Nat) (d : TypeDesc) (hg : w.heap[g]? = some (.cells cs t fr))
    (hu : P.underlying ty = some d) (hd : (match d with | .struct _ | .array _ _ => true | _ => false) = true) (n : Nat) (hi : (P.info? ty).map (·.size) = some n) (hc : cs.size = n)
    (h : wpList P ops Q rest (a.put o.dst (.agg cs)) w) : wpList P ops Q (o :: rest) a w :=
  wpList_load_row hgd ty x ho g hx t cs fr d hg hu hd (by rw [hc]; exact hi) h

theorem wpStill_val {P : Program} {ops : Array Oper} {w : World} {Q : Act → Prop} {a : Act} {o : Oper} {rest : List Oper} (v : Value) (hw : Region.wanted o (yielded ops a.tmps) = true)
    (hv : (execOp a.eval o).run P w = .ok (.value v) w) (h : wpStill P ops w Q rest (a.put o.dst v)) : wpStill P ops w Q (o :: rest) a := by
  unfold wpStill
  rw [if_pos hw]
  unfold Oper.still
  rw [hv]
  exact ⟨rfl, h⟩

/-- A whole row, or a part of one, that is loaded at the head of a region that draws its order. -/
theorem wpStill_load_mid {P : Program} {ops : Array Oper} {w : World} {Q : Act → Prop} {a : Act} {o : Oper} {rest : List Oper} (hgd : o.guard = none) (ty : TypeId) (x : Operand) (ho : o.op = .load ty x)
    (b off : Nat) (hx : a.eval x = .pointer (some ⟨b, off, none⟩)) (cs : List Value) (d : TypeDesc) (hc : w.rangeAt b off cs)
    (hu : P.underlying ty = some d) (hd : d.isRow = true) (hi : (P.info? ty).map (·.size) = some cs.length)
    (h : wpStill P ops w Q rest (a.put o.dst (.agg cs.toArray))) : wpStill P ops w Q (o :: rest) a := by
  refine wpStill_val (.agg cs.toArray) (by simp [Region.wanted, hgd]) ?_ h
  unfold execOp
  simp only [ho, hx, Instr.loadAt, Instr.sureAddr, Sem.run_bind, Sem.run_pure, Result.andThen_ok, run_loadVar_mid w b off ty cs d hc hu hd hi]

theorem rangeAt_of_row {w : World} {g : Nat} {cs : Array Value} {t : TypeId} {fr : Nat × Nat} (h : w.heap[g]? = some (.cells cs t fr)) (o n : Nat) : w.rangeAt g o ((cs.toList.drop o).take n) := by
  intro j v hj
  have e : w.cell? ⟨g, o + j, none⟩ = cs[o + j]? := cell_of_row w g (o + j) cs t fr h
  rw [e]
  rw [List.getElem?_take] at hj
  split at hj
  · rw [List.getElem?_drop] at hj
    simpa using hj
  · cases hj

/-- The end of a function whose one result lies in memory. -/
theorem ret_row {P : Program} {fn : Func} {R : Ending → World → Prop} {a : Act} {w : World} {p : Tmp} {ty : TypeId} (h : fn.results = #[.cell p ty]) (g : Nat) (t : TypeId) (cs : Array Value) (hg : w.heap[g]? = some (.cells cs t (0, 0)))
    (d : TypeDesc) (hu : P.underlying ty = some d) (n : Nat) (hi : (P.info? ty).map (·.size) = some n) (hc : cs.size = n) (hd : (match d with | .struct _ | .array _ _ => true | _ => false) = true)
    (hp : a.tmps.getD p undef = .pointer (some ⟨g, 0, none⟩)) (hdf : a.defers = []) (hR : R (.returned (.agg cs)) w) : bodyPost P fn R .ret a w :=
  bodyPost_ret (results_cell_row h _ _ g t cs (0, 0) d hp hg hu hd (by rw [hc]; exact hi)) hdf hR

/-- .. whose first result lies in memory, the second in a slot. -/
theorem ret_row_tmp {P : Program} {fn : Func} {R : Ending → World → Prop} {a : Act} {w : World} {p u : Tmp} {ty : TypeId} (h : fn.results = #[.cell p ty, .tmp u]) (g : Nat) (t : TypeId) (cs : Array Value) (hg : w.heap[g]? = some (.cells cs t (0, 0)))
    (d : TypeDesc) (hu : P.underlying ty = some d) (n : Nat) (hi : (P.info? ty).map (·.size) = some n) (hc : cs.size = n) (hd : (match d with | .struct _ | .array _ _ => true | _ => false) = true)
    (hp : a.tmps.getD p undef = .pointer (some ⟨g, 0, none⟩)) (hdf : a.defers = []) (hR : R (.returned (.tuple #[.agg cs, a.tmps.getD u undef])) w) : bodyPost P fn R .ret a w := by
  refine bodyPost_ret (v := .tuple #[.agg cs, a.tmps.getD u undef]) ?_ hdf hR
  rw [results_cell_tmp h, hp]
  simp only [asAddr, Sem.run_pure, Result.andThen_ok, run_loadVar_row w g t ty cs (0, 0) d hg hu hd (by rw [hc]; exact hi)]

theorem bcell {W w1 : World} (hb : Below W.heap.size W w1) : (∀ b o, b < W.heap.size → w1.cell? ⟨b, o, none⟩ = W.cell? ⟨b, o, none⟩) ∧ (∀ b o, b < W.heap.size → w1.frozen? ⟨b, o, none⟩ = W.frozen? ⟨b, o, none⟩) :=
  ⟨fun b o h => hb.cell (p := ⟨b, o, none⟩) h, fun b o h => hb.frozen (p := ⟨b, o, none⟩) h⟩

theorem below1 (w : World) (o1 : Obj) : Below w.heap.size w (w.alloc o1) := (Below.refl _ _).alloc (Nat.le_refl _) _
theorem below2 (w : World) (o1 o2 : Obj) : Below w.heap.size w ((w.alloc o1).alloc o2) := ((Below.refl _ _).alloc (Nat.le_refl _) _).alloc (by simp) _
theorem below3 (w : World) (o1 o2 o3 : Obj) : Below w.heap.size w (((w.alloc o1).alloc o2).alloc o3) := (((Below.refl _ _).alloc (Nat.le_refl _) _).alloc (by simp) _).alloc (by simp; omega) _

/-- What a later world holds in a block that stood. -/
theorem heap_later {W w1 : World} {o : Option Obj} (hb : Below W.heap.size W w1) {g : Nat} (hg : g < W.heap.size) (h : W.heap[g]? = o) : w1.heap[g]? = o := (hb.block g hg).trans h

theorem below_row {B : Nat} {w w1 : World} (hb : Below B w w1) {g : Nat} (hg : B ≤ g) (cs : Array Value) : Below B w (w1.setRow g cs) :=
  ⟨hb.os, hb.tape, hb.output, by simpa using hb.size, fun k hk => (setRow_other w1 g k cs (by omega)).trans (hb.block k hk)⟩

theorem one_slice (a : Option Addr) (n c : Nat) : (Value.slice a n c).oneCell' = true := rfl
theorem one_int (k : IntKind) (n : Int) : (Value.int k n).oneCell' = true := rfl
theorem one_bool (b : Bool) : (Value.bool b).oneCell' = true := rfl

theorem own_row {w : World} {base e size g : Nat} {v : Value} {n : Nat} {xs : List Value} (h : w.ownsRow base e size v n xs) (hg : g < base) (cs : Array Value) : (w.setRow g cs).ownsRow base e size v n xs := by
  refine ⟨h.1, ?_⟩
  rcases h.2 with h0 | ⟨k, cap, cur, hv, hb, hk, r⟩
  · exact .inl h0
  · exact .inr ⟨k, cap, cur, hv, hb, (setRow_other w g k cs (by omega)).trans hk, r⟩

theorem heap_two0 (w : World) (o0 o1 : Obj) : ((w.alloc o0).alloc o1).heap[w.heap.size]? = some o0 := by
  show ((w.heap.push o0).push o1)[w.heap.size]? = some o0
  rw [Array.getElem?_push, if_neg (by simp), Array.getElem?_push, if_pos rfl]
theorem heap_two1 (w : World) (o0 o1 : Obj) : ((w.alloc o0).alloc o1).heap[w.heap.size + 1]? = some o1 := by
  show ((w.heap.push o0).push o1)[w.heap.size + 1]? = some o1
  rw [Array.getElem?_push, if_pos (by simp)]
theorem size_two (w : World) (o0 o1 : Obj) : ((w.alloc o0).alloc o1).heap.size = w.heap.size + 2 := by simp
theorem heap_three0 (w : World) (o0 o1 o2 : Obj) : (((w.alloc o0).alloc o1).alloc o2).heap[w.heap.size]? = some o0 := by
  show (((w.heap.push o0).push o1).push o2)[w.heap.size]? = some o0
  rw [Array.getElem?_push, if_neg (by simp; omega), Array.getElem?_push, if_neg (by simp), Array.getElem?_push, if_pos rfl]
theorem heap_three1 (w : World) (o0 o1 o2 : Obj) : (((w.alloc o0).alloc o1).alloc o2).heap[w.heap.size + 1]? = some o1 := by
  show (((w.heap.push o0).push o1).push o2)[w.heap.size + 1]? = some o1
  rw [Array.getElem?_push, if_neg (by simp), Array.getElem?_push, if_pos (by simp)]
theorem heap_three2 (w : World) (o0 o1 o2 : Obj) : (((w.alloc o0).alloc o1).alloc o2).heap[w.heap.size + 2]? = some o2 := by
  show (((w.heap.push o0).push o1).push o2)[w.heap.size + 2]? = some o2
  rw [Array.getElem?_push, if_pos (by simp)]

theorem two_cells (w : World) (u v : Value) (t : TypeId) : (w.alloc (.cells #[u, v] t)).cell? ⟨w.heap.size, 0, none⟩ = some u ∧ (w.alloc (.cells #[u, v] t)).cell? ⟨w.heap.size, 1, none⟩ = some v :=
  ⟨cell_of_row _ _ 0 _ _ _ (heap_alloc_new w _), cell_of_row _ _ 1 _ _ _ (heap_alloc_new w _)⟩

theorem cell_later {W w1 : World} {a : Addr} {v : Value} (hb : Below W.heap.size W w1) (h : W.cell? a = some v) : w1.cell? a = some v := (hb.cell (World.block_lt_of_cell? W _ h)).trans h

theorem heap_lt {w : World} {g : Nat} {o : Obj} (h : w.heap[g]? = some o) : g < w.heap.size := (Array.getElem?_eq_some_iff.1 h).1

theorem own_later {w w1 : World} {base e size : Nat} {v : Value} {n : Nat} {xs : List Value} (h : w.ownsRow base e size v n xs) (hb : Below w.heap.size w w1) : w1.ownsRow base e size v n xs :=
  h.kept (row := none) ⟨hb.os, hb.tape, hb.output, hb.size, fun k hk _ => hb.block k hk⟩ (by cases hv : v.ownBlock <;> simp)

theorem heap_new (w : World) (cs : Array Value) (t : TypeId) : (w.alloc (.cells cs t)).heap[w.heap.size]? = some (.cells cs t (0, 0)) := heap_alloc_new w _
end Go.Proofs.Ytfhkmmagpnojmaa

/- More small laws on rows and worlds. No condition. -/
namespace Go.Proofs.Ytfhkmmagpnojmaa
open Go.RowKit

/-- A row of one element type is not a block of another. -/
theorem own_other {w : World} {base e size n g : Nat} {v : Value} {xs : List Value} {cs : Array Value} {t : TypeId} {fr : Nat × Nat} (h : w.ownsRow base e size v n xs) (hg : w.heap[g]? = some (.cells cs t fr)) (hne : e ≠ t) : some g ≠ v.ownBlock := by
  rcases h.2 with ⟨rfl, _⟩ | ⟨k, cap, cur, rfl, _, hk, _⟩
  · simp [Value.ownBlock]
  · intro he
    have : g = k := by simpa [Value.ownBlock] using he
    subst this
    rw [hk] at hg
    simp only [Option.some.injEq, Obj.cells.injEq] at hg
    exact hne hg.2.1

theorem all_by8 (xs : List UInt8) : (xs.map by8).toArray.all (·.oneCell') = true := by
  rw [Array.all_eq_true_iff_forall_mem]
  intro u hu
  simp only [List.mem_toArray, List.mem_map] at hu
  obtain ⟨x, _, rfl⟩ := hu
  rfl

theorem empty_ownB (w : World) : (w.alloc (.cells #[] 5)).ownsRow w.heap.size 5 1 (.slice (some ⟨w.heap.size, 0, none⟩) 0 0) 0 [] :=
  World.ownsRow_made w #[] 0 (Nat.le_refl _) (by decide) rfl

/-- A block that stood, behind a new variable that has been filled. -/
theorem heap_past {w : World} {g : Nat} {o : Option Obj} (h : w.heap[g]? = o) (hg : g < w.heap.size) (z : Obj) (cs : Array Value) : ((w.alloc z).setRow w.heap.size cs).heap[g]? = o :=
  (setRow_other _ _ g _ (by omega)).trans ((Below.heap_alloc w z g hg).trans h)
theorem below_past {B : Nat} {w w1 : World} (h : Below B w w1) (hB : B ≤ w1.heap.size) (z : Obj) (cs : Array Value) : Below B w ((w1.alloc z).setRow w1.heap.size cs) := below_row (h.alloc hB z) hB cs

/-- Bytes do not lie in a block that holds none. -/
theorem Bs.other_blk {w : World} {g : Nat} {t : TypeId} {fr : Nat × Nat} {old : Array Value} {v : Value} {xs : List UInt8} (h : Bs w v xs) (hA : w.heap[g]? = some (.cells old t fr)) (hno : ∀ (i : Nat) (x : UInt8), old[i]? = some (by8 x) → False) (cs : Array Value) : Bs (w.setRow g cs) v xs := by
  rcases h.cases with ⟨a, rfl, rfl⟩ | ⟨b, off, cap, rfl, h1, h2, hc⟩
  · exact Bs.mk0 _ _
  · refine Bs.mk h1 h2 fun i hi => ?_
    have hci := hc i hi
    have hne : b ≠ g := by
      rintro rfl
      rw [cell_of_row w b (off + i) old t fr hA] at hci
      exact hno _ _ hci
    exact (World.cell?_of_block (setRow_other w g b cs hne)).trans hci

theorem some_slice {w : World} {base e size n : Nat} {v : Value} {xs : List Value} (h : w.ownsRow base e size v n xs) (hn : n ≠ 0) : ∃ g cap, v = .slice (some ⟨g, 0, none⟩) n cap ∧ n ≤ cap := by
  rcases h.2 with ⟨_, h0⟩ | ⟨g, cap, cur, hv, _, _, hc, _⟩
  · exact absurd h0 hn
  · exact ⟨g, cap, hv, hc⟩
end Go.Proofs.Ytfhkmmagpnojmaa

/- Whether two arrays are equal: of bytes, of words; whatever their length. No condition. -/
namespace Go.Proofs.Ytfhkmmagpnojmaa
open Go.RowKit

def eqElems (d : Nat) (e : TypeId) (n : Nat) (xs ys : Array Value) : List Nat → Sem Bool
  | [] => pure true
  | i :: l => do
    let a ← part e xs (i * n)
    let b ← part e ys (i * n)
    let r ← Op.equalIn d e a b
    if (!r) = true then pure false else eqElems d e n xs ys l

theorem run_equalIn_elems {P : Program} (w : World) (d : Nat) (t : TypeId) (n m : Nat) (e : TypeId) (xs ys : Array Value) (ht : P.underlying t = some (.array n e)) (hs : (P.info? e).map (·.size) = some m) :
    (Op.equalIn (d + 1) t (.agg xs) (.agg ys)).run P w = (eqElems d e m xs ys (List.range' 0 n)).run P w := by
  obtain ⟨i, hi, hm⟩ : ∃ i, P.info? e = some i ∧ i.size = m := by
    cases h : P.info? e with
    | none => simp [h] at hs
    | some i => exact ⟨i, rfl, by simpa [h] using hs⟩
  simp only [Op.equalIn, Sem.run_bind, run_underlying ht, Result.andThen_ok]
  simp only [sizeOf, typeInfo, Sem.run_bind, run_program, Result.andThen_ok, hi, Sem.run_pure, hm]
  simp only [Std.Legacy.Range.forIn_eq_forIn_range', Std.Legacy.Range.size, Nat.sub_zero, Nat.add_sub_cancel, Nat.div_one]
  generalize List.range' 0 n = l
  clear ht
  induction l generalizing w with
  | nil => simp [eqElems]
  | cons j l ih =>
    simp only [List.forIn_cons, eqElems, Sem.run_bind]
    generalize (part e xs (j * m)).run P w = r1
    cases r1 with
    | ok a w1 =>
      simp only [Result.andThen_ok]
      generalize (part e ys (j * m)).run P w1 = r2
      cases r2 with
      | ok b w2 =>
        simp only [Result.andThen_ok]
        generalize (Op.equalIn d e a b).run P w2 = r3
        cases r3 with
        | ok r w3 =>
          cases r
          · simp only [Result.andThen_ok, Bool.not_false, if_true, Sem.run_pure]
          · simp only [Result.andThen_ok, Bool.not_true, Bool.false_eq_true, if_false, Sem.run_pure]
            exact ih w3
        | halt x w3 => simp [Result.andThen]
      | halt x w2 => simp [Result.andThen]
    | halt x w1 => simp [Result.andThen]

theorem run_eqElems {P : Program} {α : Type} [DecidableEq α] (f : α → Value) (w : World) (d : Nat) (e : TypeId) (hs : ∀ w, (isAgg e).run P w = .ok false w)
    (hf : ∀ a b w, (Op.equalIn d e (f a) (f b)).run P w = .ok (decide (a = b)) w) (xs ys : List α) (hl : xs.length = ys.length) :
    ∀ k, k ≤ xs.length → (eqElems d e 1 (xs.map f).toArray (ys.map f).toArray (List.range' k (xs.length - k))).run P w = .ok (decide (xs.drop k = ys.drop k)) w := by
  intro k
  generalize hm : xs.length - k = m
  induction m generalizing k w with
  | zero =>
    intro hk
    have h1 : xs.drop k = [] := List.drop_eq_nil_of_le (by omega)
    have h2 : ys.drop k = [] := List.drop_eq_nil_of_le (by omega)
    simp [eqElems, h1, h2]
  | succ m ih =>
    intro hk
    have hx : k < xs.length := by omega
    have hy : k < ys.length := by omega
    have ih' := ih w (k + 1) (by omega) (by omega)
    rw [List.range'_succ]
    simp only [eqElems, Sem.run_bind, Nat.mul_one]
    have p1 : (part e (xs.map f).toArray k).run P w = .ok (f xs[k]) w := by
      simp [part, Sem.run_bind, hs, hx]
    have p2 : (part e (ys.map f).toArray k).run P w = .ok (f ys[k]) w := by
      simp [part, Sem.run_bind, hs, hy]
    rw [p1]
    simp only [Result.andThen_ok, p2, hf]
    have hd : (xs.drop k = ys.drop k) ↔ (xs[k] = ys[k] ∧ xs.drop (k + 1) = ys.drop (k + 1)) := by
      rw [List.drop_eq_getElem_cons hx, List.drop_eq_getElem_cons hy, List.cons.injEq]
    by_cases h : xs[k] = ys[k]
    · have hd2 : (xs.drop k = ys.drop k) ↔ (xs.drop (k + 1) = ys.drop (k + 1)) := by rw [hd]; simp [h]
      simp only [h, decide_true, Bool.not_true, Bool.false_eq_true, if_false, ih', hd2]
    · have hd2 : ¬ (xs.drop k = ys.drop k) := by rw [hd]; simp [h]
      simp [h, hd2]

theorem run_equalIn_map {P : Program} {α : Type} [DecidableEq α] (f : α → Value) (w : World) (d : Nat) (t e : TypeId) (n : Nat) (ht : P.underlying t = some (.array n e)) (hi : (P.info? e).map (·.size) = some 1)
    (hs : ∀ w, (isAgg e).run P w = .ok false w) (hf : ∀ a b w, (Op.equalIn d e (f a) (f b)).run P w = .ok (decide (a = b)) w) (xs ys : List α) (hx : xs.length = n) (hy : ys.length = n) :
    (Op.equalIn (d + 1) t (.agg (xs.map f).toArray) (.agg (ys.map f).toArray)).run P w = .ok (decide (xs = ys)) w := by
  rw [run_equalIn_elems w d t n 1 e _ _ ht hi]
  have := run_eqElems (P := P) f w d e hs hf xs ys (by omega) 0 (by omega)
  rw [Nat.sub_zero, hx] at this
  simpa using this

theorem eqIn_by8 {P : Program} (d : Nat) (e : TypeId) (he : P.underlying e = some (.int .u8)) (a b : UInt8) (w : World) : (Op.equalIn (d + 1) e (by8 a) (by8 b)).run P w = .ok (decide (a = b)) w := by
  rw [run_equalIn_int w d e .u8 .u8 _ _ he]
  congr 1
  rw [Bool.eq_iff_iff, beq_iff_eq, decide_eq_true_eq, ← UInt8.toNat_inj]
  omega

theorem eqIn_U32 {P : Program} (d : Nat) (e : TypeId) (he : P.underlying e = some (.int .u32)) (a b : UInt32) (w : World) : (Op.equalIn (d + 1) e (U32 a) (U32 b)).run P w = .ok (decide (a = b)) w := by
  unfold U32
  rw [run_equalIn_int w d e .u32 .u32 _ _ he]
  congr 1
  rw [Bool.eq_iff_iff, beq_iff_eq, decide_eq_true_eq, ← UInt32.toNat_inj]
  omega

theorem isAgg_int {P : Program} {e : TypeId} {k : IntKind} (he : P.underlying e = some (.int k)) (w : World) : (isAgg e).run P w = .ok false w := by
  unfold isAgg
  rw [Sem.run_bind, run_underlying he w]
  rfl

/-- Are two arrays of bytes equal? -/
theorem eql_bytes {P : Program} (t e : TypeId) (n : Nat) (ht : P.underlying t = some (.array n e)) (he : P.underlying e = some (.int .u8)) (hi : (P.info? e).map (·.size) = some 1)
    (xs ys : List UInt8) (hx : xs.length = n) (hy : ys.length = n) (w : World) :
    (binOp .eql t (.agg (xs.map by8).toArray) (.agg (ys.map by8).toArray)).run P w = .ok (.bool (decide (xs = ys))) w := by
  rw [run_eql_struct, show (10000 : Nat) = 9998 + 1 + 1 from rfl, run_equalIn_map by8 w _ t e n ht hi (isAgg_int he) (fun a b w => eqIn_by8 9998 e he a b w) xs ys hx hy]
  rfl

theorem neq_bytes {P : Program} (t e : TypeId) (n : Nat) (ht : P.underlying t = some (.array n e)) (he : P.underlying e = some (.int .u8)) (hi : (P.info? e).map (·.size) = some 1)
    (xs ys : List UInt8) (hx : xs.length = n) (hy : ys.length = n) (w : World) :
    (binOp .neq t (.agg (xs.map by8).toArray) (.agg (ys.map by8).toArray)).run P w = .ok (.bool (!decide (xs = ys))) w := by
  rw [run_neq_struct, show (10000 : Nat) = 9998 + 1 + 1 from rfl, run_equalIn_map by8 w _ t e n ht hi (isAgg_int he) (fun a b w => eqIn_by8 9998 e he a b w) xs ys hx hy]
  rfl

theorem eql_words {P : Program} (t e : TypeId) (n : Nat) (ht : P.underlying t = some (.array n e)) (he : P.underlying e = some (.int .u32)) (hi : (P.info? e).map (·.size) = some 1)
    (xs ys : List UInt32) (hx : xs.length = n) (hy : ys.length = n) (w : World) :
    (binOp .eql t (.agg (xs.map U32).toArray) (.agg (ys.map U32).toArray)).run P w = .ok (.bool (decide (xs = ys))) w := by
  rw [run_eql_struct, show (10000 : Nat) = 9998 + 1 + 1 from rfl, run_equalIn_map U32 w _ t e n ht hi (isAgg_int he) (fun a b w => eqIn_U32 9998 e he a b w) xs ys hx hy]
  rfl
end Go.Proofs.Ytfhkmmagpnojmaa

/- How an argument that came in reads, as the walks of this seat want it: bytes (with the form's own reach), numbers. No condition. -/
namespace Go.Proofs.Ytfhkmmagpnojmaa
open Go.ChangeShapes Go.WideShapes Go.ChangeAt Go.RowKit

def reach : Nat := 140737488351232

theorem toBytes (zs : List Int) (h : ∀ n ∈ zs, (Lit.int .u8 n).wf = true) : zs.map (Value.int .u8) = (zs.map fun n => UInt8.ofNat n.toNat).map by8 := by
  rw [List.map_map]
  apply List.map_congr_left
  intro n hn
  have := bounds_u8 (h n hn)
  simp only [Function.comp, by8, Value.int.injEq, true_and, UInt8.toNat_ofNat']
  omega

theorem open_bytes {H : Type} {enc : TypeId × Value → H} {P : Program} {W : World} {base base2 : Nat} {held : Bool} {t e : TypeId} {v : Value} {d : DataW H} {ps : List MemPlace}
    (ht : P.underlying t = some (.slice e)) (he : P.underlying e = some (.int .u8)) (hc : P.cellsOf e = 1) (hby : P.bytesOf e = 1) (hok : Value.okWide P W .any base2 t v) (h : DataW.Trod enc P W base (fun _ => true) held t v d ps) :
    ∃ xs : List UInt8, Bs W v xs ∧ ∀ (ts : List TypeId) (ds : List (DataW H)) (j : Nat), (DataW.weightsEach P ts ds).all (· ≤ reachBytes) = true → ts[j]? = some t → ds[j]? = some d → xs.length ≤ reach := by
  obtain ⟨a0, len0, cap0, rfl⟩ := okWide_slice ht hok
  obtain ⟨fuel, hf⟩ := h
  rcases open_ints ht he hc hf with ⟨hcs, _⟩ | ⟨x, l, c, zs, hcs, _, hl, hm, hz, hd, hcell, hwz⟩
  · simp [Value.cells] at hcs
    obtain ⟨rfl, rfl, rfl⟩ := hcs
    exact ⟨[], Bs.mk0 _ _, fun _ _ _ _ _ _ => by simp⟩
  · simp [Value.cells] at hcs
    obtain ⟨rfl, rfl, rfl⟩ := hcs
    simp only [Prod.mk.injEq] at hd
    have hlen : len0 ≤ zs.length := by rw [hz]; split <;> omega
    have hwz' : ∀ n ∈ zs.take len0, (Lit.int .u8 n).wf = true := fun n hn => hwz n (List.mem_of_mem_take hn)
    refine ⟨(zs.take len0).map fun n => UInt8.ofNat n.toNat, ?_, ?_⟩
    · have e1 : ((zs.take len0).map fun n => UInt8.ofNat n.toNat).length = len0 := by simp; omega
      unfold Bs
      rw [e1, ← toBytes _ hwz']
      refine ⟨by simp; omega, ?_⟩
      by_cases h0 : len0 = 0 ∧ cap0 = 0
      · exact .inl ⟨some x, by rw [h0.1, h0.2], h0.1⟩
      · have hzc : zs.length = cap0 := by simpa using hz
        have hsp := World.cell?_spot (hcell 0 (by omega))
        obtain ⟨b, off, sp⟩ := x
        have hsp' : sp = none := by simpa [Addr.add] using hsp
        subst hsp'
        refine .inr ⟨b, off, cap0, rfl, hl, hm, fun i hi => ?_⟩
        have hi' : i < len0 := by simp at hi; omega
        have := hcell i (by omega)
        have hadd : (⟨b, off, none⟩ : Addr).add i = ⟨b, off + i, none⟩ := by unfold Addr.add; split <;> simp_all
        rw [hadd] at this
        rw [this]
        have hiz : i < zs.length := by omega
        simp [List.getD, hiz]
    · intro ts ds j hw htj hdj
      have hd1 : d = .slice (lits .u8 (zs.take len0)) (lits .u8 (zs.drop len0)) := hd.1
      rw [hd1] at hdj
      have := sized_slice hw htj hdj ht
      rw [hby] at this
      simp only [lits, List.length_map, List.length_take, List.length_drop, reachBytes] at this
      simp only [List.length_map, List.length_take, reach]
      omega
end Go.Proofs.Ytfhkmmagpnojmaa

/- How data that came in read, cell by cell: numbers, arrays, slices of anything, structs; how much they weigh. No condition. -/
namespace Go.Proofs.Ytfhkmmagpnojmaa
open Go.ChangeShapes Go.WideShapes Go.ChangeAt Go.RowKit Go.Deep

/-- No part of a datum weighs more than the form lets it. -/
def Light {H : Type} (P : Program) (t : TypeId) (d : DataW H) : Prop := ∀ n ∈ d.weights P t, n ≤ reachBytes

section
variable {H : Type} {enc : TypeId × Value → H} {P : Program} {W : World} {base : Nat} {spare : Nat → Bool} {held : Bool}

theorem light_param {ts : List TypeId} {ds : List (DataW H)} {j : Nat} {t : TypeId} {d : DataW H} (h : (DataW.weightsEach P ts ds).all (· ≤ reachBytes) = true) (ht : ts[j]? = some t) (hd : ds[j]? = some d) : Light P t d := fun n hn => by
  simpa using List.all_eq_true.1 h n (DataW.weights_mem_each ht hd n hn)

theorem light_field {fs : Array Field} {t : TypeId} {parts : List (DataW H)} (hs : P.underlying t = some (.struct fs)) (h : Light P t (.agg parts)) {i : Nat} {f : Field} {d : DataW H} (hf : fs[i]? = some f) (hd : parts[i]? = some d) : Light P f.type d := fun n hn => by
  refine h n ?_
  simp only [DataW.weights, hs]
  exact DataW.weights_mem_each (j := i) (by rw [List.getElem?_map, Array.getElem?_toList, hf]; rfl) hd n hn

theorem weightsAll_mem {e : TypeId} : ∀ {ds : List (DataW H)} {d : DataW H}, d ∈ ds → ∀ n ∈ d.weights P e, n ∈ DataW.weightsAll P e ds
  | [], _, h, _, _ => by cases h
  | d0 :: ds, d, h, n, hn => by
    simp only [DataW.weightsAll, List.mem_append]
    rcases List.mem_cons.1 h with rfl | h
    · exact .inl hn
    · exact .inr (weightsAll_mem h n hn)

theorem light_slice {t e : TypeId} {el sp : List (DataW H)} (ht : P.underlying t = some (.slice e)) (h : Light P t (.slice el sp)) : (el.length + sp.length) * P.bytesOf e ≤ reachBytes ∧ ∀ d ∈ el, Light P e d := by
  refine ⟨h _ (by simp [DataW.weights, ht]), fun d hd n hn => h n ?_⟩
  simp only [DataW.weights, ht, List.mem_cons, List.mem_append]
  exact .inr (.inl (weightsAll_mem hd n hn))

theorem flat_get {α : Type} (cells : α → List Value) (s : Nat) (hl : ∀ y, (cells y).length = s) : ∀ (xs : List α) (q r : Nat) (hq : q < xs.length), r < s → (xs.flatMap cells)[q * s + r]? = (cells xs[q])[r]?
  | x :: xs, 0, r, _, hr => by
    rw [List.flatMap_cons, Nat.zero_mul, Nat.zero_add, List.getElem?_append_left (by rw [hl]; exact hr)]
    rfl
  | x :: xs, q + 1, r, hq, hr => by
    have := flat_get cells s hl xs q r (by simpa using hq) hr
    rw [List.flatMap_cons, List.getElem?_append_right (by rw [hl, Nat.add_mul]; omega), hl]
    rw [show (q + 1) * s + r - s = q * s + r by rw [Nat.add_mul]; omega, this]
    simp

/-- A slice of anything. -/
theorem rd_slice {α : Type} {t e : TypeId} {fuel : Nat} {cs : List Value} {x : DataW H × List MemPlace} (cells : α → List Value) (Pr : DataW H → α → Prop) (s : Nat) (hs : 0 < s) (hsp : ∀ b, spare b = true) (ht : P.underlying t = some (.slice e)) (hce : P.cellsOf e = s) (hl : ∀ y, (cells y).length = s)
    (hel : ∀ m cs' y, DataW.trod enc P W base spare held m e cs' = some y → ∃ z, cs' = cells z ∧ Pr y.1 z) (h : DataW.trod enc P W base spare held fuel t cs = some x) :
    ∃ (v : Value) (xs : List α), cs = [v] ∧ Sl W s v xs.length (xs.flatMap cells) ∧ (Light P t x.1 → xs.length * P.bytesOf e ≤ reachBytes) ∧ ∀ z ∈ xs, ∃ d, Pr d z ∧ (Light P t x.1 → Light P e d) := by
  rcases open_slice ht h with ⟨rfl, hx⟩ | ⟨a, len, cap, m, n, D, Pl, rfl, hb, hlc, hcm, hm, rfl, hc⟩
  · exact ⟨_, [], rfl, ⟨by simp, .inl ⟨none, rfl, rfl⟩⟩, fun _ => by simp, fun z hz => by cases hz⟩
  · rw [hsp a.block, if_pos rfl] at hm
    subst hm
    rw [hce] at hc
    have each : ∀ i, i < m → ∃ z, W.cells? base (a.add (i * s)) s = some (cells z) ∧ Pr (D i) z := fun i hi => by
      obtain ⟨cs', h1, h2⟩ := hc i hi
      obtain ⟨z, rfl, hz⟩ := hel _ _ _ h2
      exact ⟨z, h1, hz⟩
    -- the elements
    have pick : ∀ k, k ≤ m → ∃ xs : List α, xs.length = k ∧ ∀ i (hi : i < xs.length), W.cells? base (a.add (i * s)) s = some (cells xs[i]) ∧ Pr (D i) xs[i] := by
      intro k
      induction k with
      | zero => intro _; exact ⟨[], rfl, fun i hi => by simp at hi⟩
      | succ k ih =>
        intro hk
        obtain ⟨xs, hxl, hxs⟩ := ih (by omega)
        obtain ⟨z, h1, h2⟩ := each k (by omega)
        refine ⟨xs ++ [z], by simp [hxl], fun i hi => ?_⟩
        by_cases hik : i < xs.length
        · rw [List.getElem_append_left hik]
          exact hxs i hik
        · have : i = xs.length := by simp at hi; omega
          subst this
          rw [List.getElem_append_right (Nat.le_refl _)]
          simp only [Nat.sub_self, List.getElem_cons_zero]
          rw [hxl]
          exact ⟨h1, h2⟩
    obtain ⟨xs, hxl, hxs⟩ := pick len hlc
    refine ⟨_, xs, rfl, ?_, ?_, ?_⟩
    · refine ⟨?_, ?_⟩
      · rw [List.length_flatMap]
        have : (xs.map fun y => (cells y).length) = List.replicate xs.length s := by
          apply List.ext_getElem <;> simp [hl]
        rw [this, List.sum_replicate_nat]
      · by_cases h0 : len = 0 ∧ m = 0
        · exact .inl ⟨some a, by rw [h0.1, h0.2], by omega⟩
        · obtain ⟨z0, hz0, _⟩ := each 0 (by omega)
          have hsp0 := World.cells?_some hz0
          have hc0 : ∃ v, W.cell? ((a.add (0 * s)).add 0) = some v := by
            have := hsp0.2.2 0 hs
            rw [List.getElem?_eq_getElem (by rw [hl]; exact hs)] at this
            exact ⟨_, this⟩
          obtain ⟨v0, hv0⟩ := hc0
          have hspot := World.cell?_spot hv0
          obtain ⟨b, off, sp⟩ := a
          have hsp' : sp = none := by simpa [Addr.add] using hspot
          subst hsp'
          refine .inr ⟨b, off, m, by rw [hxl], by omega, hcm, fun i hi => ?_⟩
          have hi' : i < xs.length * s := by
            rw [List.length_flatMap] at hi
            have : (xs.map fun y => (cells y).length) = List.replicate xs.length s := by
              apply List.ext_getElem <;> simp [hl]
            rwa [this, List.sum_replicate_nat] at hi
          have hq : i / s < xs.length := (Nat.div_lt_iff_lt_mul hs).2 hi'
          have hr : i % s < s := Nat.mod_lt _ hs
          have he : i / s * s + i % s = i := by rw [Nat.mul_comm]; exact Nat.div_add_mod i s
          have h1 := (World.cells?_some (hxs (i / s) hq).1).2.2 (i % s) hr
          have h2 := flat_get cells s hl xs (i / s) (i % s) hq hr
          rw [he, List.getElem?_eq_getElem hi] at h2
          rw [h2, ← h1]
          congr 1
          have hadd : ∀ (o k : Nat), (⟨b, o, none⟩ : Addr).add k = ⟨b, o + k, none⟩ := fun o k => by unfold Addr.add; split <;> simp_all
          rw [hadd, hadd, Nat.add_assoc, he]
    · intro hlt
      have := (light_slice ht hlt).1
      simp only [List.length_map, List.length_range] at this
      rw [hxl]
      exact Nat.le_trans (Nat.mul_le_mul_right _ (by omega)) this
    · intro z hz
      obtain ⟨i, hi, rfl⟩ := List.getElem_of_mem hz
      refine ⟨D i, (hxs i hi).2, fun hlt => (light_slice ht hlt).2 _ (List.mem_map.2 ⟨i, List.mem_range.2 (by omega), rfl⟩)⟩

theorem rd_bytes {t e : TypeId} {fuel : Nat} {cs : List Value} {x : DataW H × List MemPlace} (hsp : ∀ b, spare b = true) (ht : P.underlying t = some (.slice e)) (he : P.underlying e = some (.int .u8)) (hce : P.cellsOf e = 1) (hby : P.bytesOf e = 1) (h : DataW.trod enc P W base spare held fuel t cs = some x) :
    ∃ (v : Value) (xs : List UInt8), cs = [v] ∧ Bs W v xs ∧ (Light P t x.1 → xs.length ≤ 140737488351232) := by
  obtain ⟨v, xs, rfl, hs, hl, _⟩ := rd_slice (fun z : UInt8 => [by8 z]) (fun _ _ => True) 1 (by decide) hsp ht hce (fun _ => rfl) (fun m cs' y hy => by
    obtain ⟨n, rfl, _, hw⟩ := DataW.trod_int he hy
    have := bounds_u8 hw
    refine ⟨UInt8.ofNat n.toNat, ?_, trivial⟩
    simp only [by8, List.cons.injEq, Value.int.injEq, true_and, UInt8.toNat_ofNat', and_true]
    omega) h
  refine ⟨v, xs, rfl, ?_, fun hlt => ?_⟩
  · unfold Bs
    rw [List.map_eq_flatMap]
    exact hs
  · have := hl hlt
    rw [hby] at this
    simpa [reachBytes] using this

theorem rd_arr {α : Type} {t e : TypeId} {fuel n : Nat} {cs : List Value} {x : DataW H × List MemPlace} (f : α → Value) (ht : P.underlying t = some (.array n e)) (hce : P.cellsOf e = 1) (hct : P.cellsOf t = n)
    (hel : ∀ m cs' y, DataW.trod enc P W base spare held m e cs' = some y → ∃ z, cs' = [f z]) (h : DataW.trod enc P W base spare held fuel t cs = some x) : ∃ xs : List α, xs.length = n ∧ cs = xs.map f := by
  obtain ⟨ys, m, _, _, hl, hx, hi⟩ := DataW.trod_array ht h
  rw [hct] at hl
  have each : ∀ i, i < n → ∃ z, cs[i]? = some (f z) := fun i hin => by
    have h1 := hi i hin
    rw [hce] at h1
    have hxi : ys[i]? = some (ys[i]'(by omega)) := List.getElem?_eq_getElem (by omega)
    rw [hxi] at h1
    obtain ⟨z, hz⟩ := hel _ _ _ h1
    refine ⟨z, ?_⟩
    have := congrArg (·[0]?) hz
    simpa [List.getElem?_take, List.getElem?_drop] using this
  have pick : ∀ k, k ≤ n → ∃ xs : List α, xs.length = k ∧ cs.take k = xs.map f := by
    intro k
    induction k with
    | zero => intro _; exact ⟨[], rfl, by simp⟩
    | succ k ih =>
      intro hk
      obtain ⟨xs, hxl, hxs⟩ := ih (by omega)
      obtain ⟨z, hz⟩ := each k (by omega)
      have hkl : k < cs.length := by omega
      refine ⟨xs ++ [z], by simp [hxl], ?_⟩
      rw [List.take_succ_eq_append_getElem hkl, hxs, List.map_append]
      rw [List.getElem?_eq_getElem hkl] at hz
      rw [Option.some.inj hz]
      rfl
  obtain ⟨xs, h1, h2⟩ := pick n (Nat.le_refl _)
  exact ⟨xs, h1, by rw [← h2, List.take_of_length_le (by omega)]⟩

theorem rd_u8s {t e : TypeId} {fuel n : Nat} {cs : List Value} {x : DataW H × List MemPlace} (ht : P.underlying t = some (.array n e)) (he : P.underlying e = some (.int .u8)) (hce : P.cellsOf e = 1) (hct : P.cellsOf t = n)
    (h : DataW.trod enc P W base spare held fuel t cs = some x) : ∃ xs : List UInt8, xs.length = n ∧ cs = xs.map by8 :=
  rd_arr by8 ht hce hct (fun m cs' y hy => by
    obtain ⟨z, rfl, _, hw⟩ := DataW.trod_int he hy
    have := bounds_u8 hw
    refine ⟨UInt8.ofNat z.toNat, ?_⟩
    simp only [by8, List.cons.injEq, Value.int.injEq, true_and, UInt8.toNat_ofNat', and_true]
    omega) h

/-- A struct: its cells, and each field's reading. -/
theorem rd_struct {t : TypeId} {fs : Array Field} {fuel : Nat} {cs : List Value} {x : DataW H × List MemPlace} (hs : P.underlying t = some (.struct fs)) (h : DataW.trod enc P W base spare held fuel t cs = some x) :
    cs.length = P.cellsOf t ∧ ∀ (i : Nat) (f : Field), fs[i]? = some f → ∃ m y, DataW.trod enc P W base spare held m f.type ((cs.drop f.offset).take (P.cellsOf f.type)) = some y ∧ (Light P t x.1 → Light P f.type y.1) := by
  obtain ⟨xs, m, _, rfl, hl, hx, hi⟩ := DataW.trod_struct hs h
  refine ⟨hl, fun i f hf => ?_⟩
  have hin : i < xs.length := by rw [hx]; exact (Array.getElem?_eq_some_iff.1 hf).1
  refine ⟨m, xs[i], by rw [hi i f hf, List.getElem?_eq_getElem hin], fun hlt => ?_⟩
  exact light_field hs hlt hf (by rw [List.getElem?_map, List.getElem?_eq_getElem hin]; rfl)

/-- A value that came in as a struct. -/
theorem open_cells {t : TypeId} {base2 : Nat} {fs : Array Field} {v : Value} {d : DataW H} {ps : List MemPlace} (hs : P.underlying t = some (.struct fs)) (hok : Value.okWide P W .any base2 t v) (h : DataW.Trod enc P W base spare held t v d ps) :
    ∃ (cs : List Value) (fuel : Nat), v = .agg cs.toArray ∧ DataW.trod enc P W base spare held fuel t cs = some (d, ps) := by
  obtain ⟨cs, rfl, _⟩ := okWide_struct hs hok
  obtain ⟨fuel, hf⟩ := h
  exact ⟨cs.toList, fuel, by simp, by simpa [Value.cells] using hf⟩

/-- A value that came in as a slice. -/
theorem open_slice1 {t e : TypeId} {base2 : Nat} {v : Value} {d : DataW H} {ps : List MemPlace} (hs : P.underlying t = some (.slice e)) (hok : Value.okWide P W .any base2 t v) (h : DataW.Trod enc P W base spare held t v d ps) :
    ∃ (fuel : Nat), DataW.trod enc P W base spare held fuel t [v] = some (d, ps) := by
  obtain ⟨a0, len0, cap0, rfl⟩ := okWide_slice hs hok
  obtain ⟨fuel, hf⟩ := h
  exact ⟨fuel, by simpa [Value.cells] using hf⟩
end
end Go.Proofs.Ytfhkmmagpnojmaa
