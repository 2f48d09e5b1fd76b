/- Laws for append onto a slice that the call itself owns, from any slice that can be read; what such an append leaves (Grew): new blocks, and writes to that slice's own row alone. No condition. -/
import Derived.Test.YtioonimpobcglaaDoorLib
import Derived.Laws.AppendOwnNone
import Derived.Laws.BytesArg
set_option linter.unusedSimpArgs false
set_option linter.unusedVariables false
namespace Go.Proofs.YtioonimpobcglaaDoor
open Go.RowKit

/-- w' is w with new blocks and with writes to v's own row alone, and v' lies in v's row or in a new block. -/
structure Grew (w w' : World) (v v' : Value) : Prop where
  g : w.grownBy w' v.ownBlock
  at' : v'.ownBlock = none ∨ v'.ownBlock = v.ownBlock ∨ ∃ k, v'.ownBlock = some k ∧ w.heap.size ≤ k

theorem Grew.refl (w : World) (v : Value) : Grew w w v v := ⟨⟨rfl, rfl, rfl, Nat.le_refl _, fun _ _ _ => rfl⟩, .inr (.inl rfl)⟩

theorem Grew.trans {w w1 w2 : World} {v v1 v2 : Value} (h : Grew w w1 v v1) (k : Grew w1 w2 v1 v2) : Grew w w2 v v2 := by
  refine ⟨⟨k.g.os.trans h.g.os, k.g.tape.trans h.g.tape, k.g.output.trans h.g.output, Nat.le_trans h.g.size k.g.size, fun j hj hne => ?_⟩, ?_⟩
  · have h1 := h.g.block j hj hne
    have hj1 : j < w1.heap.size := Nat.lt_of_lt_of_le hj h.g.size
    refine (k.g.block j hj1 ?_).trans h1
    rcases h.at' with e | e | ⟨q, e, hq⟩
    · rw [e]; simp
    · rw [e]; exact hne
    · rw [e]
      intro he
      simp at he
      omega
  · rcases k.at' with e | e | ⟨q, e, hq⟩
    · exact .inl e
    · rw [e]; exact h.at'
    · exact .inr (.inr ⟨q, e, Nat.le_trans h.g.size hq⟩)

theorem Grew.alloc {w w1 : World} {v v1 : Value} (h : Grew w w1 v v1) (o : Obj) : Grew w (w1.alloc o) v v1 :=
  h.trans ⟨World.grownBy_alloc w1 o _, .inr (.inl rfl)⟩

theorem Grew.drew {w w1 : World} {v v1 : Value} (h : Grew w w1 v v1) : Grew w w1.drew v v1 :=
  h.trans ⟨⟨rfl, rfl, rfl, Nat.le_refl _, fun _ _ _ => rfl⟩, .inr (.inl rfl)⟩

theorem Grew.below {B : Nat} {w w' : World} {v v' : Value} (h : Grew w w' v v') (hB : B ≤ w.heap.size) (hv : ∀ k, v.ownBlock = some k → B ≤ k) : Below B w w' :=
  (Below.refl B w).grown h.g hB hv

theorem Grew.belowOwn {B base : Nat} {w w' : World} {e : TypeId} {size n : Nat} {xs : List Value} {v v' : Value} (h : Grew w w' v v') (hown : w.ownsRow base e size v n xs) (hB : B ≤ base) (hs : B ≤ w.heap.size) : Below B w w' :=
  h.below hs fun k hk => by have := hown.lt k hk; omega

/-- A fresh slice (nil, or in a new block) grew out of nothing that was there. -/
theorem Grew.ofBelow {w w' : World} {v' : Value} (a : Option Addr) (hb : Below w.heap.size w w') {e : TypeId} {size n : Nat} {xs : List Value} (hown : w'.ownsRow w.heap.size e size v' n xs) (ha : a = none) : Grew w w' (.slice a 0 0) v' := by
  subst ha
  refine ⟨⟨hb.os, hb.tape, hb.output, hb.size, fun k hk _ => hb.block k hk⟩, ?_⟩
  cases hv : v'.ownBlock with
  | none => exact .inl rfl
  | some k => exact .inr (.inr ⟨k, rfl, (hown.lt k hv).1⟩)

theorem Sl.one (w : World) (x : Value) (e : TypeId) : Sl (w.alloc (.cells #[x] e)) 1 (.slice (some ⟨w.heap.size, 0, none⟩) 1 1) 1 [x] := by
  refine ⟨rfl, .inr ⟨w.heap.size, 0, 1, rfl, Nat.le_refl _, by decide, fun i hi => ?_⟩⟩
  have : i = 0 := by simpa using hi
  subst this
  unfold World.cell?
  rw [show (⟨w.heap.size, 0 + 0, none⟩ : Addr).block = w.heap.size from rfl, heap_alloc_new w _]
  rfl

theorem Sl.lit (w : World) (xs : List Value) (n : Nat) (e : TypeId) (hm : n ≤ maxLen) (hx : xs.length = n) : Sl (w.alloc (.cells xs.toArray e)) 1 (.slice (some ⟨w.heap.size, 0, none⟩) n n) n xs := by
  refine ⟨by omega, .inr ⟨w.heap.size, 0, n, rfl, Nat.le_refl _, hm, fun i hi => ?_⟩⟩
  unfold World.cell?
  rw [show (⟨w.heap.size, 0 + i, none⟩ : Addr).block = w.heap.size from rfl, heap_alloc_new w _]
  simp

theorem Sl.shape {w : World} {size : Nat} {v : Value} {n : Nat} {xs : List Value} (h : Sl w size v n xs) : ∃ a c, v = .slice a n c ∧ n ≤ c ∧ c ≤ maxLen := by
  rcases h.2 with ⟨a, hv, hn⟩ | ⟨b, off, cap, hv, h1, h2, _⟩
  · exact ⟨a, 0, by rw [hv, hn], by omega, by simp [maxLen]⟩
  · exact ⟨_, cap, hv, h1, h2⟩

theorem Sl.cellsAt {w : World} {size : Nat} {ad : Addr} {n c : Nat} {xs : List Value} (h : Sl w size (.slice (some ad) n c) n xs) : ∀ j u, xs[j]? = some u → w.cell? (ad.add j) = some u := by
  intro j u hu
  obtain ⟨hj, hu'⟩ := List.getElem?_eq_some_iff.1 hu
  rcases h.2 with ⟨a, hv, hn⟩ | ⟨b, off, cap, hv, h1, h2, hc⟩
  · have := h.1
    subst hn
    omega
  · simp only [Value.slice.injEq, Option.some.injEq] at hv
    obtain ⟨rfl, _, rfl⟩ := hv
    have hadd : (⟨b, off, none⟩ : Addr).add j = ⟨b, off + j, none⟩ := by unfold Addr.add; split <;> simp_all
    rw [hadd, hc j hj, hu']

theorem Sl.empty {w : World} {size : Nat} {n c : Nat} {xs : List Value} (h : Sl w size (.slice none n c) n xs) : n = 0 ∧ c = 0 ∧ xs = [] := by
  rcases h.2 with ⟨a, hv, hn⟩ | ⟨b, off, cap, hv, h1, h2, hc⟩
  · simp only [Value.slice.injEq] at hv
    have := h.1
    refine ⟨hn, hv.2.2, List.eq_nil_of_length_eq_zero ?_⟩
    rw [this, hn, Nat.zero_mul]
  · simp at hv

/-- What 's[l:h]' reads as, whatever address it has got. -/
theorem Sl.part {w : World} {size : Nat} {a : Option Addr} {n c : Nat} {xs : List Value} (h : Sl w size (.slice a n c) n xs) (l m : Nat) (hn : l + m ≤ n) :
    ∃ a', (if c = l then a else a.map (fun x => x.add (l * size))) = a' ∧ Sl w size (.slice a' m (c - l)) m ((xs.drop (l * size)).take (m * size)) := by
  have hlen := h.1
  have hle : (l + m) * size ≤ n * size := Nat.mul_le_mul_right _ hn
  have hl2 : ((xs.drop (l * size)).take (m * size)).length = m * size := by
    simp only [List.length_take, List.length_drop, hlen]
    rw [Nat.add_mul] at hle
    omega
  rcases h.2 with ⟨a0, hv, hn0⟩ | ⟨b, off, cap, hv, h1, h2, hc⟩
  · simp only [Value.slice.injEq] at hv
    obtain ⟨rfl, rfl, rfl⟩ := hv
    have hl0 : l = 0 := by omega
    have hm0 : m = 0 := by omega
    subst hl0; subst hm0
    exact ⟨a, by simp, by simp, .inl ⟨a, rfl, rfl⟩⟩
  · simp only [Value.slice.injEq] at hv
    obtain ⟨rfl, _, rfl⟩ := hv
    by_cases hcl : c = l
    · subst hcl
      have hm0 : m = 0 := by omega
      subst hm0
      exact ⟨some ⟨b, off, none⟩, by simp, by simp, .inl ⟨_, by rw [Nat.sub_self], rfl⟩⟩
    · refine ⟨some ⟨b, off + l * size, none⟩, ?_, hl2, .inr ⟨b, off + l * size, c - l, rfl, by omega, by omega, fun i hi => ?_⟩⟩
      · rw [if_neg hcl]
        simp only [Option.map_some, Option.some.injEq]
        unfold Addr.add
        split <;> simp_all
      · rw [hl2] at hi
        have hle2 : l * size + m * size ≤ xs.length := by rw [hlen]; rw [Nat.add_mul] at hle; omega
        have := hc (l * size + i) (by omega)
        rw [Nat.add_assoc, this]
        simp

section
variable {P : Program} (w : World)

theorem run_append_grew (base : Nat) (t ty e : TypeId) (i : TypeInfo) (z : Value) (size bytes : Nat) (ht : P.underlying t = some (.slice e)) (hi : P.info? e = some i) (hz : i.zero = some z)
    (hsize : i.size = size) (hby : i.bytes = bytes) (hzs : z.cells.size = size) (hsz : 0 < size)
    (v : Value) (n : Nat) (xs : List Value) (hown : w.ownsRow base e size v n xs)
    (src : Value) (m : Nat) (news : List Value) (hsrc : Sl w size src m news) (h1 : ∀ u ∈ news, u.oneCell' = true)
    (h63 : n + m ≤ maxLen) (hbytes : (n + m) * bytes ≤ 140737488355328) (hbase : base ≤ w.heap.size) :
    ∃ v' w', (Builtin.append_ #[t, t] ty #[v, src]).run P w = .ok v' w' ∧ w'.ownsRow base e size v' (n + m) (xs ++ news) ∧ Grew w w' v v' := by
  obtain ⟨a, c, rfl, hmc, hcm⟩ := hsrc.shape
  cases a with
  | none =>
    obtain ⟨rfl, rfl, rfl⟩ := hsrc.empty
    have := run_append_owned_none (P := P) (w := w) base t ty e i size ht hi v n xs hown
    refine ⟨v, w, this, by simpa using hown, Grew.refl w v⟩
  | some ad =>
    have hnews := hsrc.cellsAt
    have hl := hsrc.1
    obtain ⟨v', w', hr, ho, hg, _⟩ := run_append_own (P := P) w base t ty e i z size bytes ht hi hz hsize hby hzs hsz v n xs hown ad m c news hl hnews h1 h63 hbytes hbase
    refine ⟨v', w', hr, ho, hg, ?_⟩
    rcases hown.2 with ⟨rfl, rfl⟩ | ⟨g, cap, cur, rfl, hbg, hgg, hnc, hcm', hcs, htake⟩
    · obtain ⟨v2, w2, hr2, ho2, _, _⟩ := run_append_own (P := P) w w.heap.size t ty e i z size bytes ht hi hz hsize hby hzs hsz (.slice none 0 0) 0 xs ⟨hown.1, .inl ⟨rfl, rfl⟩⟩ ad m c news hl hnews h1 h63 hbytes (Nat.le_refl _)
      rw [hr] at hr2
      simp only [Result.ok.injEq] at hr2
      obtain ⟨rfl, rfl⟩ := hr2
      cases hv : v'.ownBlock with
      | none => exact .inl rfl
      | some k => exact .inr (.inr ⟨k, rfl, (ho2.lt k hv).1⟩)
    · subst hsize
      by_cases hroom : n + m ≤ cap
      · have hr2 := run_append_room (P := P) w t ty e i ht hi g n cap cur hgg ad m c news hl hnews h1 hroom (by rw [hl, hcs, ← Nat.add_mul]; exact Nat.mul_le_mul_right _ hroom)
        rw [hr] at hr2
        simp only [Result.ok.injEq] at hr2
        obtain ⟨rfl, _⟩ := hr2
        exact .inr (.inl rfl)
      · subst hby
        have hr2 := run_append_grow (P := P) w t ty e i z ht hi hz ⟨g, 0, none⟩ n cap xs hown.1 (hown.cells (g := g) rfl) ad m c news hl hnews (by omega) (by simp only [maxLen] at h63; omega) (growslice_fits (by omega) hbytes)
        rw [hr] at hr2
        simp only [Result.ok.injEq] at hr2
        obtain ⟨rfl, _⟩ := hr2
        exact .inr (.inr ⟨_, rfl, Nat.le_refl _⟩)

theorem wpList_append_grew {ops : Array Oper} {rest : List Oper} {o : Oper} {a : Act} {Q : Exit → Act → World → Prop} (hgd : o.guard = none) (s x : Operand) (t : TypeId)
    (ho : o.op = .call { callee := .builtin .append, args := #[s, x], argTypes := #[t, t] })
    (base : Nat) (e : TypeId) (z : Value) (size bytes : Nat) (ht : P.underlying t = some (.slice e)) (hinfo : (P.info? e).map (fun i => (i.zero, i.size, i.bytes)) = some (some z, size, bytes)) (hzs : z.cells.size = size) (hsz : 0 < size)
    (v : Value) (n : Nat) (xs : List Value) (hs : a.eval s = v) (hown : w.ownsRow base e size v n xs)
    (src : Value) (m : Nat) (news : List Value) (hx : a.eval x = src) (hsrc : Sl w size src m news) (h1 : ∀ u ∈ news, u.oneCell' = true)
    (h63 : n + m ≤ maxLen) (hbytes : (n + m) * bytes ≤ 140737488355328) (hbase : base ≤ w.heap.size)
    (h : ∀ v' w', w'.ownsRow base e size v' (n + m) (xs ++ news) → Grew w w' v v' → wpList P ops Q rest (a.put o.dst v') w') : wpList P ops Q (o :: rest) a w := by
  obtain ⟨i, hi, hz, hsize, hby⟩ := info_parts hinfo
  obtain ⟨v', w', hr, h2, h3⟩ := run_append_grew (P := P) w base t o.type e i z size bytes ht hi hz hsize hby hzs hsz v n xs hown src m news hsrc h1 h63 hbytes hbase
  refine wpList_plain hgd fun K hK => ?_
  unfold Oper.wp execOp
  simp only [ho, resolve, invoke, builtin, Sem.run_bind, Sem.run_pure, Result.andThen_ok, List.map_toArray, List.map_cons, List.map_nil, hs, hx, hr]
  exact hK _ _ (h v' w' h2 h3)

/-- The same as one step of a region that draws its order. -/
theorem step_append_grew {ops : Array Oper} {o : Oper} {a : Act} {K : Act → World → Prop} {Q : Exit → Act → World → Prop} {E : Prop} (hgd : o.guard = none) (s x : Operand) (t : TypeId)
    (ho : o.op = .call { callee := .builtin .append, args := #[s, x], argTypes := #[t, t] })
    (base : Nat) (e : TypeId) (z : Value) (size bytes : Nat) (ht : P.underlying t = some (.slice e)) (hinfo : (P.info? e).map (fun i => (i.zero, i.size, i.bytes)) = some (some z, size, bytes)) (hzs : z.cells.size = size) (hsz : 0 < size)
    (v : Value) (n : Nat) (xs : List Value) (hs : a.eval s = v) (hown : w.ownsRow base e size v n xs)
    (src : Value) (m : Nat) (news : List Value) (hx : a.eval x = src) (hsrc : Sl w size src m news) (h1 : ∀ u ∈ news, u.oneCell' = true)
    (h63 : n + m ≤ maxLen) (hbytes : (n + m) * bytes ≤ 140737488355328) (hbase : base ≤ w.heap.size)
    (h : ∀ v' w', w'.ownsRow base e size v' (n + m) (xs ++ news) → Grew w w' v v' → K (a.put o.dst v') w') :
    if Region.wanted o (yielded ops a.tmps) = true then Oper.wp P o a w K Q else E := by
  obtain ⟨i, hi, hz, hsize, hby⟩ := info_parts hinfo
  obtain ⟨v', w', hr, h2, h3⟩ := run_append_grew (P := P) w base t o.type e i z size bytes ht hi hz hsize hby hzs hsz v n xs hown src m news hsrc h1 h63 hbytes hbase
  rw [if_pos (by simp [Region.wanted, hgd])]
  unfold Oper.wp execOp
  simp only [ho, resolve, invoke, builtin, Sem.run_bind, Sem.run_pure, Result.andThen_ok, List.map_toArray, List.map_cons, List.map_nil, hs, hx, hr]
  exact h v' w' h2 h3
end

theorem oneCell_u8 (xs : List UInt8) : ∀ u ∈ xs.map by8, u.oneCell' = true := by
  intro u hu
  obtain ⟨x, _, rfl⟩ := List.mem_map.1 hu
  rfl

/-- A string's bytes. -/
def strB (xs : List UInt8) : ByteArray := ⟨xs.toArray⟩

theorem Bs.conv {P : Program} {w : World} {v : Value} {xs : List UInt8} (h : Bs w v xs) (src dst e : TypeId) (hs : P.underlying src = some (.slice e)) (he : P.underlying e = some (.int .u8)) (hd : P.underlying dst = some .string) :
    (convert src dst v).run P w = .ok (.string (strB xs)) w := by
  rcases h.cases with ⟨a, rfl, rfl⟩ | ⟨b, off, cap, rfl, hl, hm, hc⟩
  · rw [run_convert_bytes_string w src dst e a 0 0 hs he hd]
    cases a <;> (simp [Conv.bytesToString, strB, loadCells, loadCellsFrom, ByteArray.empty, ByteArray.emptyWithCapacity]; rfl)
  · have := run_convert_bytes_arg (P := P) w src e hs he b off xs.length cap (xs.map fun x => (x.toNat : Int)) (by simp) (fun i hi => by rw [hc i hi]; simp [List.getD, hi]) dst hd
    rw [this]
    congr 2
    simp [strOfNums, strB, Function.comp_def]

theorem own_shape {w : World} {base e size : Nat} {v : Value} {n : Nat} {xs : List Value} (h : w.ownsRow base e size v n xs) :
    (v = .slice none 0 0 ∧ n = 0) ∨ ∃ g cap, v = .slice (some ⟨g, 0, none⟩) n cap ∧ w.ownsRow base e size (.slice (some ⟨g, 0, none⟩) n cap) n xs := by
  rcases h.2 with hn | ⟨g, cap, cur, hv, r⟩
  · exact .inl hn
  · exact .inr ⟨g, cap, hv, by rw [← hv]; exact h⟩

/-- What the call owns, n bytes of it. -/
theorem Bs.of_own {w : World} {base e : Nat} {v : Value} {n : Nat} {xs : List UInt8} (h : w.ownsRow base e 1 v n (xs.map by8)) (hn : xs.length = n) : Bs w v xs := by
  subst hn
  exact Sl.of_own h

end Go.Proofs.YtioonimpobcglaaDoor
