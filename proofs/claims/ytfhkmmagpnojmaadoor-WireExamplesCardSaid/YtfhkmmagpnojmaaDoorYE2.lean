/- Several texts under one header: what the claim needs of Bb. No condition but those that each names. -/
import Derived.Test.YtfhkmmagpnojmaaDoorYE1
import Derived.Test.YtfhkmmagpnojmaaDoorYE0
import Derived.StillTailTactics
import Derived.Deep.RegionLaw
import Derived.Deep.RegionHeld3
import Derived.Laws.ResultCell
import Derived.Laws.Cover3
import Derived.Lib.AppendZerosOnto
set_option linter.unusedSimpArgs false
set_option linter.unusedVariables false

/- Several texts under one header: Comp, Sched, RefComp, Start, Check, Absorb, Blocks, Pad, Concat. No condition but those that each names. -/

/- The compression of a block: what digest.Compress returns; new memory alone. -/
namespace Go.Proofs.YtfhkmmagpnojmaaDoor
open Go.RowKit

theorem forget {P : Program} {c : Code} {Q : Exit → Act → World → Prop} {a : Act} (F : World → Prop) {w : World} (hf : F w) (h : ∀ w, F w → c.wp P Q a w) : c.wp P Q a w := h w hf
theorem push_at : ∀ (l : List Obj) (h : Array Obj) (i : Nat) (o : Obj), l[i]? = some o → (l.foldl Array.push h)[h.size + i]? = some o
  | [], _, _, _, hi => by simp at hi
  | x :: l, h, 0, o, hi => by
    have hx : x = o := by simpa using hi
    subst hx
    have old : ∀ (l : List Obj) (g : Array Obj) (j : Nat), j < g.size → (l.foldl Array.push g)[j]? = g[j]? := by
      intro l
      induction l with
      | nil => intro g j _; rfl
      | cons y l ih => intro g j hj; rw [List.foldl_cons, ih _ _ (by simp; omega), Array.getElem?_push, if_neg (by omega)]
    rw [List.foldl_cons, old l _ _ (by simp)]
    simp
  | x :: l, h, i + 1, o, hi => by
    have := push_at l (h.push x) i o (by simpa using hi)
    rw [List.foldl_cons]
    simpa [Nat.add_comm, Nat.add_left_comm, Nat.add_assoc] using this
theorem cell_row {w : World} {g : Nat} {cur : Array Value} {e : TypeId} {fr : Nat × Nat} (h : w.heap[g]? = some (.cells cur e fr)) (j : Nat) : w.cell? ⟨g, j, none⟩ = cur[j]? := by
  exact cell_of_row w g j cur e fr h
/-- Eight words as a value. -/
def aggS (s : St) : Value := .agg #[U32 s.a, U32 s.b, U32 s.c, U32 s.d, U32 s.e, U32 s.f, U32 s.g, U32 s.h]
/-- Eight words as a block's cells. -/
def cellsS (s : St) : Array Value := #[U32 s.a, U32 s.b, U32 s.c, U32 s.d, U32 s.e, U32 s.f, U32 s.g, U32 s.h]
/-- The words that are known, and zeros behind them, as a block's cells. -/
def cellsW (ws : List UInt32) : Array Value := ((ws ++ List.replicate (64 - ws.length) 0).map U32).toArray
/-- What the first part of Compress has laid. -/
structure CompF (w : World) (s : St) (b : List UInt8) (B0 B1 B2 B3 B5 B7 B9 B11 : Nat) (w1 : World) : Prop where
  below : Below w.heap.size w w1
  st : w1.heap[B0]? = some (.cells (cellsS s) 135 (0, 0))
  blk : w1.heap[B1]? = some (.cells (b.map by8).toArray 175 (0, 0))
  res : w1.heap[B2]? = some (.cells (cellsS ⟨0, 0, 0, 0, 0, 0, 0, 0⟩) 135 (0, 0))
  ww : w1.heap[B3]? = some (.cells (cellsW []) 178 (0, 0))
  m5 : MixBox w1 B5 [7, 18]
  m7 : MixBox w1 B7 [17, 19]
  m9 : MixBox w1 B9 [2, 13, 22]
  m11 : MixBox w1 B11 [6, 11, 25]
  ne : B0 = w.heap.size ∧ B1 = B0 + 1 ∧ B2 = B1 + 1 ∧ B3 = B2 + 1 ∧ B5 = B3 + 2 ∧ B7 = B5 + 2 ∧ B9 = B7 + 2 ∧ B11 = B9 + 2 ∧ w1.heap.size = B11 + 1
theorem mixBox_of {w : World} {bx g : Nat} {ns : List Nat} (hgb : g < bx) (ok : ∀ n ∈ ns, 1 ≤ n ∧ n ≤ 31) (len : ns.length ≤ 1000) (h1 : w.heap[bx]? = some (.cells #[.slice (some ⟨g, 0, none⟩) ns.length ns.length] 182 (0, 0)))
    (h2 : w.heap[g]? = some (.cells (ns.map fun (n : Nat) => Value.int .i64 (n : Int)).toArray 3 (0, 0))) : MixBox w bx ns :=
  ⟨ok, len, g, hgb, by rw [cell_row h1]; rfl, fun i hi => by rw [cell_row h2]; simp [hi]⟩
theorem compF_of (w : World) (s : St) (b : List UInt8) (o0 o1 o2 o3 o4 o5 o6 o7 o8 o9 o10 o11 : Obj)
    (h0 : o0 = .cells (cellsS s) 135 (0, 0)) (h1 : o1 = .cells (b.map by8).toArray 175 (0, 0)) (h2 : o2 = .cells (cellsS ⟨0, 0, 0, 0, 0, 0, 0, 0⟩) 135 (0, 0)) (h3 : o3 = .cells (cellsW []) 178 (0, 0))
    (h4 : o4 = .cells #[.int .i64 7, .int .i64 18] 3 (0, 0)) (h5 : o5 = .cells #[.slice (some ⟨w.heap.size + 1 + 1 + 1 + 1, 0, none⟩) 2 2] 182 (0, 0))
    (h6 : o6 = .cells #[.int .i64 17, .int .i64 19] 3 (0, 0)) (h7 : o7 = .cells #[.slice (some ⟨w.heap.size + 1 + 1 + 1 + 1 + 1 + 1, 0, none⟩) 2 2] 182 (0, 0))
    (h8 : o8 = .cells #[.int .i64 2, .int .i64 13, .int .i64 22] 3 (0, 0)) (h9 : o9 = .cells #[.slice (some ⟨w.heap.size + 1 + 1 + 1 + 1 + 1 + 1 + 1 + 1, 0, none⟩) 3 3] 182 (0, 0))
    (h10 : o10 = .cells #[.int .i64 6, .int .i64 11, .int .i64 25] 3 (0, 0)) (h11 : o11 = .cells #[.slice (some ⟨w.heap.size + 1 + 1 + 1 + 1 + 1 + 1 + 1 + 1 + 1 + 1, 0, none⟩) 3 3] 182 (0, 0)) :
    CompF w s b (w.heap.size) (w.heap.size + 1) (w.heap.size + 1 + 1) (w.heap.size + 1 + 1 + 1) (w.heap.size + 1 + 1 + 1 + 1 + 1) (w.heap.size + 1 + 1 + 1 + 1 + 1 + 1 + 1) (w.heap.size + 1 + 1 + 1 + 1 + 1 + 1 + 1 + 1 + 1) (w.heap.size + 1 + 1 + 1 + 1 + 1 + 1 + 1 + 1 + 1 + 1 + 1) ((((((((((((w.alloc o0).alloc o1).alloc o2).alloc o3).alloc o4).alloc o5).alloc o6).alloc o7).alloc o8).alloc o9).alloc o10).alloc o11) := by
  have hh : ((((((((((((w.alloc o0).alloc o1).alloc o2).alloc o3).alloc o4).alloc o5).alloc o6).alloc o7).alloc o8).alloc o9).alloc o10).alloc o11).heap = [o0, o1, o2, o3, o4, o5, o6, o7, o8, o9, o10, o11].foldl Array.push w.heap := rfl
  have at' : ∀ (i : Nat) (o : Obj), [o0, o1, o2, o3, o4, o5, o6, o7, o8, o9, o10, o11][i]? = some o → ((((((((((((w.alloc o0).alloc o1).alloc o2).alloc o3).alloc o4).alloc o5).alloc o6).alloc o7).alloc o8).alloc o9).alloc o10).alloc o11).heap[w.heap.size + i]? = some o := fun i o h => by rw [hh]; exact push_at _ w.heap i o h
  subst h0; subst h1; subst h2; subst h3; subst h4; subst h5; subst h6; subst h7; subst h8; subst h9; subst h10; subst h11
  refine ⟨?_, at' 0 _ rfl, at' 1 _ rfl, at' 2 _ rfl, at' 3 _ rfl, mixBox_of (by omega) (by decide) (by decide) (at' 5 _ rfl) (at' 4 _ rfl), mixBox_of (by omega) (by decide) (by decide) (at' 7 _ rfl) (at' 6 _ rfl), mixBox_of (by omega) (by decide) (by decide) (at' 9 _ rfl) (at' 8 _ rfl), mixBox_of (by omega) (by decide) (by decide) (at' 11 _ rfl) (at' 10 _ rfl), ?_⟩
  · refine (((((((((((((Below.refl _ _).alloc ?_ _).alloc ?_ _).alloc ?_ _).alloc ?_ _).alloc ?_ _).alloc ?_ _).alloc ?_ _).alloc ?_ _).alloc ?_ _).alloc ?_ _).alloc ?_ _).alloc ?_ _)
    all_goals (simp <;> omega)
  · simp <;> omega
theorem cellsW_size (ws : List UInt32) (h : ws.length ≤ 64) : (cellsW ws).size = 64 := by simp [cellsW]; omega
theorem cellsW_get (ws : List UInt32) (j : Nat) (h : j < ws.length) : (cellsW ws)[j]? = some (U32 (ws.getD j 0)) := by
  simp only [cellsW, List.getElem?_toArray, List.getElem?_map]
  rw [List.getElem?_append_left h, List.getElem?_eq_getElem h]
  simp [List.getD, h]
theorem cellsW_any (ws : List UInt32) (j : Nat) (h : j < 64) (hw : ws.length ≤ 64) : ∃ x, (cellsW ws)[j]? = some x := ⟨_, Array.getElem?_eq_getElem (by rw [cellsW_size ws hw]; exact h)⟩
theorem cellsW_set (ws : List UInt32) (x : UInt32) (h : ws.length < 64) : (cellsW ws).setIfInBounds ws.length (U32 x) = cellsW (ws ++ [x]) := by
  apply Array.ext'
  simp only [cellsW, Array.toList_setIfInBounds, List.map_append, List.map_replicate, List.length_append, List.length_cons, List.length_nil]
  rw [List.set_append_right _ _ (by simp)]
  obtain ⟨m, hm⟩ : ∃ m, 64 - ws.length = m + 1 := ⟨63 - ws.length, by omega⟩
  have hm2 : 64 - (ws.length + 1) = m := by omega
  rw [Nat.zero_add, hm, hm2]
  simp [List.replicate_succ]
theorem store_W {w : World} {g : Nat} {ws : List UInt32} (h : w.heap[g]? = some (.cells (cellsW ws) 178 (0, 0))) (x : UInt32) (hl : ws.length < 64) (k : Nat) (hk : k = ws.length) :
    (w.setCell ⟨g, k, none⟩ (U32 x)).heap[g]? = some (.cells (cellsW (ws ++ [x])) 178 (0, 0)) := by
  subst hk
  rw [heap_setCell_same w g _ _ _ _ h, cellsW_set ws x hl]
theorem frozen_row {w : World} {g : Nat} {cur : Array Value} {e : TypeId} (h : w.heap[g]? = some (.cells cur e (0, 0))) (j : Nat) : w.frozen? ⟨g, j, none⟩ = false := by
  simp [World.frozen?, h]
theorem grown_set {w1 wr : World} {g : Nat} (h : w1.grownBy wr (some g)) (j : Nat) (u : Value) : w1.grownBy (wr.setCell ⟨g, j, none⟩ u) (some g) :=
  ⟨h.os, h.tape, h.output, by simpa [World.setCell] using h.size, fun k hk hne => by
    rw [Below.heap_setCell _ _ _ _ (by intro e; exact hne (by rw [e]))]
    exact h.block k hk hne⟩
theorem grown_drew {w1 wr : World} {row : Option Nat} (h : w1.grownBy wr row) : w1.grownBy wr.drew row := ⟨h.os, h.tape, h.output, h.size, h.block⟩
theorem word_bs {w : World} {g : Nat} {b : List UInt8} (h : w.heap[g]? = some (.cells (b.map by8).toArray 175 (0, 0))) (hb : b.length = 64) (k : Nat) (hk : k < 16) :
    Bs w (.slice (some ⟨g, 4 * k, none⟩) 4 (64 - 4 * k)) ((b.drop (4 * k)).take 4) := by
  have hl : ((b.drop (4 * k)).take 4).length = 4 := by simp; omega
  have := Bs.mk (w := w) (xs := (b.drop (4 * k)).take 4) (b := g) (off := 4 * k) (cap := 64 - 4 * k) (by rw [hl]; omega) (by unfold maxLen; omega) (fun i hi => by
    rw [cell_row h]
    rw [hl] at hi
    simp [List.getElem?_map, show 4 * k + i < b.length by omega])
  rw [hl] at this
  exact this
theorem u32_word (n : Nat) : Value.int .u32 ((n : Int) % 4294967296) = U32 (UInt32.ofNat n) := by
  unfold U32
  rw [UInt32.toNat_ofNat']
  rfl
theorem slice_blk (g k : Nat) (hk : k < 16) (w : World) :
    (Instr.sliceAt 175 (.pointer (some ⟨g, 0, none⟩)) (some (.int .i64 (4 * (k : Int)))) (some (.int .i64 (4 * (k : Int) + 4))) none).run Tryd.prog w = .ok (.slice (some ⟨g, 4 * k, none⟩) 4 (64 - 4 * k)) w := by
  have hal : Tryd.prog.arrayLen 175 = 64 := by kernel_rfl
  have hel : Tryd.prog.elem 175 = 5 := by kernel_rfl
  have ht : Tryd.prog.underlying 175 = some (.array (Tryd.prog.arrayLen 175) (Tryd.prog.elem 175)) := by rw [hal, hel]; exact Tryd.underlying175
  have hs : (sizeOf 5).run Tryd.prog w = .ok 1 w := by kernel_rfl
  rw [run_sliceAt_array_lh w 175 ⟨g, 0, none⟩ ht .i64 .i64 (4 * (k : Int)) (4 * (k : Int) + 4) (by omega) (by omega) (by rw [hal]; omega), hal, hel, hs]
  have e1 : (4 * (k : Int)).toNat = 4 * k := by omega
  have e2 : (4 * (k : Int) + 4).toNat = 4 * k + 4 := by omega
  have e3 : ¬ (64 = 4 * k) := by omega
  simp only [Result.andThen, slicedAt, e1, e2, if_neg e3, Nat.mul_one, Addr.add_lit, Nat.zero_add, Nat.add_sub_cancel_left]
theorem MixBox.kept {w1 wr : World} {bx B3 : Nat} {ns : List Nat} (h : MixBox w1 bx ns) (hg : w1.grownBy wr (some B3)) (hw : w1.heap[B3]? = some (.cells (cellsW []) 178 (0, 0))) (hbx : bx ≠ B3) : MixBox wr bx ns := by
  obtain ⟨ok, len, g, hlt', h1, h2⟩ := h
  refine ⟨ok, len, g, hlt', hg.cell h1 (by simp; omega), fun i hi => ?_⟩
  have hi' := h2 i hi
  refine hg.cell hi' ?_
  intro e
  have e' : g = B3 := by simpa using e
  subst e'
  rw [cell_row hw] at hi'
  have hlt : i < 64 := by
    rcases Nat.lt_or_ge i 64 with h | h
    · exact h
    · rw [Array.getElem?_eq_none (by rw [cellsW_size [] (by decide)]; exact h)] at hi'; cases hi'
  have : (cellsW [])[i]? = some (U32 0) := by
    simp only [cellsW, List.getElem?_toArray, List.getElem?_map, List.nil_append, List.length_nil, Nat.sub_zero, List.getElem?_replicate, if_pos hlt, Option.map_some]
  rw [this] at hi'
  simp [U32] at hi'
theorem idx_k (KC : Array Value) (hKC : KC = (kTab.map U32).toArray) (i : Nat) (hi : i < 64) (w : World) :
    (Instr.index 178 (.agg KC) (.int .i64 (i : Int))).run Tryd.prog w = .ok (U32 (kTab.getD i 0)) w := by
  have hu := run_underlying (P := Tryd.prog) (t := 178) Tryd.underlying178
  have hs : (sizeOf 38).run Tryd.prog w = .ok 1 w := by kernel_rfl
  have ha : (isAgg 38).run Tryd.prog w = .ok false w := by kernel_rfl
  have hl : kTab.length = 64 := by decide
  have hc : KC[i]? = some (U32 (kTab.getD i 0)) := by
    rw [hKC]
    simp [List.getD, show i < kTab.length by omega]
  simp [Instr.index, hu, asIntOf, hi, hs, part, ha, hc]
theorem MixBox.drewN {w : World} {bx : Nat} {ns : List Nat} (h : MixBox w bx ns) (n : Nat) : MixBox (w.drewN n) bx ns := ⟨h.ok, h.len, h.at'⟩
theorem cells_of {w : World} {g : Nat} {v : St} (h : w.heap[g]? = some (.cells (cellsS v) 135 (0, 0))) :
    w.cell? ⟨g, 0, none⟩ = some (U32 v.a) ∧ w.cell? ⟨g, 1, none⟩ = some (U32 v.b) ∧ w.cell? ⟨g, 2, none⟩ = some (U32 v.c) ∧ w.cell? ⟨g, 3, none⟩ = some (U32 v.d) ∧
    w.cell? ⟨g, 4, none⟩ = some (U32 v.e) ∧ w.cell? ⟨g, 5, none⟩ = some (U32 v.f) ∧ w.cell? ⟨g, 6, none⟩ = some (U32 v.g) ∧ w.cell? ⟨g, 7, none⟩ = some (U32 v.h) :=
  ⟨cell_row h 0, cell_row h 1, cell_row h 2, cell_row h 3, cell_row h 4, cell_row h 5, cell_row h 6, cell_row h 7⟩
theorem copy_src {w : World} {g : Nat} {v : St} (h : w.heap[g]? = some (.cells (cellsS v) 135 (0, 0))) (j : Nat) (x : Value) (hj : [U32 v.a, U32 v.b, U32 v.c, U32 v.d, U32 v.e, U32 v.f, U32 v.g][j]? = some x) :
    w.cell? ((⟨g, 0, none⟩ : Addr).add j) = some x := by
  have hadd : (⟨g, 0, none⟩ : Addr).add j = ⟨g, j, none⟩ := by unfold Addr.add; split <;> simp_all
  have hl : j < 7 := by
    have := (List.getElem?_eq_some_iff.1 hj).1
    simpa using this
  rw [hadd, cell_row h]
  have e : (cellsS v)[j]? = ([U32 v.a, U32 v.b, U32 v.c, U32 v.d, U32 v.e, U32 v.f, U32 v.g] ++ [U32 v.h])[j]? := by simp [cellsS]
  rw [e, List.getElem?_append_left (by simpa using hl)]
  exact hj
theorem oneCell_seven (v : St) : ∀ u ∈ [U32 v.a, U32 v.b, U32 v.c, U32 v.d, U32 v.e, U32 v.f, U32 v.g], u.oneCell' = true := by
  intro u hu
  simp only [List.mem_cons, List.not_mem_nil, or_false] at hu
  rcases hu with rfl | rfl | rfl | rfl | rfl | rfl | rfl <;> rfl
/-- Two states' sums, the first i words of them, as a block's cells. -/
def cellsP (s v : St) (i : Nat) : Array Value := ((List.range 8).map fun j => U32 (if j < i then s.list.getD j 0 + v.list.getD j 0 else s.list.getD j 0)).toArray
theorem cellsP_zero (s v : St) : cellsP s v 0 = cellsS s := rfl
theorem cellsP_eight (s v : St) : cellsP s v 8 = cellsS (addS s v) := rfl
theorem cellsP_get (s v : St) (i : Nat) (hi : i < 8) : (cellsP s v i)[i]? = some (U32 (s.list.getD i 0)) := by
  simp [cellsP, hi]
theorem cellsS_get (v : St) (i : Nat) (hi : i < 8) : (cellsS v)[i]? = some (U32 (v.list.getD i 0)) := by
  rw [← cellsP_zero v v]
  simp [cellsP, hi]
theorem cellsP_set (s v : St) (i : Nat) (hi : i < 8) : (cellsP s v i).setIfInBounds i (U32 (s.list.getD i 0 + v.list.getD i 0)) = cellsP s v (i + 1) := by
  apply Array.ext'
  simp only [cellsP, Array.toList_setIfInBounds]
  apply List.ext_getElem?
  intro j
  rw [List.getElem?_set]
  by_cases hj : i = j
  · subst hj
    simp [hi]
  · rw [if_neg hj]
    by_cases hj8 : j < 8
    · simp only [List.getElem?_map, List.getElem?_range hj8, Option.map_some]
      congr 2
      by_cases h : j < i
      · rw [if_pos h, if_pos (by omega)]
      · rw [if_neg h, if_neg (by omega)]
    · rw [List.getElem?_eq_none (by simp; omega), List.getElem?_eq_none (by simp; omega)]
/-- What stands when the rounds begin. -/
structure CompG (w : World) (s : St) (b : List UInt8) (B2 B3 B9 B11 BV : Nat) (w2 : World) : Prop where
  below : Below w.heap.size w w2
  st : w2.heap[w.heap.size]? = some (.cells (cellsS s) 135 (0, 0))
  res : w2.heap[B2]? = some (.cells (cellsS ⟨0, 0, 0, 0, 0, 0, 0, 0⟩) 135 (0, 0))
  ww : w2.heap[B3]? = some (.cells (cellsW (schedW b 64)) 178 (0, 0))
  vv : w2.heap[BV]? = some (.cells (cellsS s) 135 (0, 0))
  m9 : MixBox w2 B9 [2, 13, 22]
  m11 : MixBox w2 B11 [6, 11, 25]
  ne : w.heap.size < B2 ∧ B2 < B3 ∧ B3 < B9 ∧ B9 < B11 ∧ B11 < BV ∧ w2.heap.size = BV + 1
theorem compG_of {w w1 wr w2 : World} {s : St} {b : List UInt8} {B1 B2 B3 B5 B7 B9 B11 : Nat} (hF : CompF w s b w.heap.size B1 B2 B3 B5 B7 B9 B11 w1) (hw : wr.heap[B3]? = some (.cells (cellsW (schedW b 64)) 178 (0, 0)))
    (hg : w1.grownBy wr (some B3)) (o : Obj) (h2 : w2 = (wr.alloc o).setRow wr.heap.size (cellsS s)) (ho : ∃ c, o = .cells c 135 (0, 0)) : CompG w s b B2 B3 B9 B11 wr.heap.size w2 := by
  obtain ⟨c, rfl⟩ := ho
  have hne := hF.ne
  have hsz := hg.size
  have old : ∀ j, j < wr.heap.size → w2.heap[j]? = wr.heap[j]? := fun j hj => by rw [h2]; exact (setRow_other _ _ j _ (by omega)).trans (Below.heap_alloc wr _ j hj)
  have keep : ∀ j, j < w1.heap.size → j ≠ B3 → w2.heap[j]? = w1.heap[j]? := fun j hj h => (old j (by omega)).trans (hg.block j hj (by simpa using h))
  have hs2 : w2.heap.size = wr.heap.size + 1 := by rw [h2]; simp
  have hb2 : Below wr.heap.size wr w2 := ⟨by rw [h2]; rfl, by rw [h2]; rfl, by rw [h2]; rfl, by omega, old⟩
  have b1r : Below w.heap.size w1 wr := (Below.refl _ _).grown hg (by omega) (fun k hk => by simp at hk; omega)
  refine ⟨(hF.below.trans b1r).trans (hb2.mono (by omega)), (keep _ (by omega) (by omega)).trans hF.st, (keep _ (by omega) (by omega)).trans hF.res, (old _ (by omega)).trans hw, ?_, (hF.m9.kept hg hF.ww (by omega)).below hb2, (hF.m11.kept hg hF.ww (by omega)).below hb2, by omega⟩
  rw [h2]
  exact setRow_heap _ _ _ _ _ _ (heap_alloc_new wr _)
/-- copy into a row, as one step of a region that draws its order. -/
theorem step_copy_row {P : Program} {ops : Array Oper} {o : Oper} {a : Act} {w : World} {K : Act → World → Prop} {Q : Exit → Act → World → Prop} {E : Prop} (hgd : o.guard = none) (d s : Operand) (dT sT : TypeId)
    (ho : o.op = .call { callee := .builtin .copy, args := #[d, s], argTypes := #[dT, sT] }) (elem : TypeId) (hu : P.underlying dT = some (.slice elem)) (hsz : (P.info? elem).map (·.size) = some 1)
    (g off dLen dCap sLen sCap : Nat) (ad : Addr) (hd : a.eval d = .slice (some ⟨g, off, none⟩) dLen dCap) (hs : a.eval s = .slice (some ad) sLen sCap)
    (cur : Array Value) (t : TypeId) (hg : w.heap[g]? = some (.cells cur t (0, 0))) (cs : List Value) (hn : cs.length = Nat.min sLen dLen)
    (hsrc : ∀ j v, cs[j]? = some v → w.cell? (ad.add j) = some v) (hfit : off + cs.length ≤ cur.size) (h1 : ∀ v ∈ cs, v.oneCell' = true)
    (h : ∀ w', w'.heap[g]? = some (.cells (cur.toList.take off ++ cs ++ cur.toList.drop (off + cs.length)).toArray t (0, 0)) → w.grownBy w' (some g) → K (a.put o.dst (goInt cs.length)) w') :
    if Region.wanted o (yielded ops a.tmps) = true then Oper.wp P o a w K Q else E := by
  rw [if_pos (by simp [Region.wanted, hgd])]
  have hrun := run_copy_row (P := P) w dT sT o.type elem g off dLen dCap ad sLen sCap cur t cs hu hsz hg hn hsrc hfit h1
  unfold Oper.wp
  simp only [execOp, ho, resolve, invoke, builtin, Sem.run_bind, Sem.run_pure, Result.andThen_ok, List.map_toArray, List.map_cons, List.map_nil, hd, hs, hrun]
  exact h _ (setRow_heap _ _ _ _ _ _ hg) ⟨rfl, rfl, rfl, by simp, fun k _ hk => setRow_other w g k _ (fun e => hk (by rw [e]))⟩
set_option maxRecDepth 20000 in
set_option maxHeartbeats 8000000 in
theorem compress_any (kt : TypeId) (kf : Nat × Nat) (s : St) (b : List UInt8) (w : World) (hb : b.length = 64) (hK : w.heap[0]? = some (.cells (kTab.map U32).toArray kt kf)) (h0 : 0 < w.heap.size) :
    Calls Tryd.prog 95 #[.agg #[U32 s.a, U32 s.b, U32 s.c, U32 s.d, U32 s.e, U32 s.f, U32 s.g, U32 s.h], .agg (b.map by8).toArray] w fun e w' => e = .returned (aggS (compS s b)) ∧ Below w.heap.size w w' := by
  obtain ⟨C, hC⟩ : ∃ C, C = (b.map by8).toArray := ⟨_, rfl⟩
  rw [← hC]
  have HC := Lib.hid hC; have HBL := Lib.hid hb; have HK := Lib.hid hK; clear hC hb hK
  go_enter Tryd.func95, Tryd.ntmps95
  go_wp2_with (go_at_call 99; refine (mixed_any _ _ _ _).mono ?_; rintro e w' ⟨rfl, rfl⟩)
  refine forget (CompF w s b w.heap.size (w.heap.size + 1) (w.heap.size + 1 + 1) (w.heap.size + 1 + 1 + 1) (w.heap.size + 1 + 1 + 1 + 1 + 1) (w.heap.size + 1 + 1 + 1 + 1 + 1 + 1 + 1) (w.heap.size + 1 + 1 + 1 + 1 + 1 + 1 + 1 + 1 + 1) (w.heap.size + 1 + 1 + 1 + 1 + 1 + 1 + 1 + 1 + 1 + 1 + 1)) ?_ ?_
  · exact compF_of w s b _ _ _ _ _ _ _ _ _ _ _ _ rfl (by rw [HC.out]) rfl kR rfl rfl rfl rfl rfl rfl rfl rfl
  intro w1 hF
  generalize w.heap.size + 1 + 1 + 1 + 1 + 1 + 1 + 1 + 1 + 1 + 1 + 1 = B11 at hF ⊢
  generalize w.heap.size + 1 + 1 + 1 + 1 + 1 + 1 + 1 + 1 + 1 + 1 = B10
  generalize w.heap.size + 1 + 1 + 1 + 1 + 1 + 1 + 1 + 1 + 1 = B9 at hF ⊢
  generalize w.heap.size + 1 + 1 + 1 + 1 + 1 + 1 + 1 + 1 = B8
  generalize w.heap.size + 1 + 1 + 1 + 1 + 1 + 1 + 1 = B7 at hF ⊢
  generalize w.heap.size + 1 + 1 + 1 + 1 + 1 + 1 = B6
  generalize w.heap.size + 1 + 1 + 1 + 1 + 1 = B5 at hF ⊢
  generalize w.heap.size + 1 + 1 + 1 + 1 = B4
  generalize w.heap.size + 1 + 1 + 1 = B3 at hF ⊢
  generalize w.heap.size + 1 + 1 = B2 at hF ⊢
  generalize w.heap.size + 1 = B1 at hF ⊢
  have HF := Lib.hid hF; clear hF
  go_loopw [25] (fun i wr => ∃ k : Nat, k ≤ 64 ∧ i = .int .i64 (k : Int) ∧ wr.heap[B3]? = some (.cells (cellsW (schedW b k)) 178 (0, 0)) ∧ w1.grownBy wr (some B3)) (fun i _ => 64 - (intOf i).toNat)
  case atStart => exact ⟨0, by omega, rfl, HF.out.ww, World.grownBy.refl _ _⟩
  case round =>
    obtain ⟨k, hk, rfl, hw, hg⟩ := hrel
    have HW := Lib.hid hw; have HG := Lib.hid hg; clear hw hg
    by_cases hlt : k < 64
    · obtain ⟨old, hold⟩ := cellsW_any (schedW b k) k hlt (by rw [schedW_length]; omega)
      have hcell : wr.cell? ⟨B3, k, none⟩ = some old := (cell_row HW.out k).trans hold
      have hfro := frozen_row HW.out k
      clear hold
      by_cases h16 : k < 16
      · have hblk : wr.heap[B1]? = some (.cells (b.map by8).toArray 175 (0, 0)) := by
          have hne := HF.out.ne
          rw [HG.out.block B1 (by omega) (by simp; omega)]; exact HF.out.blk
        have hbs := word_bs hblk HBL.out k h16
        have HB := Lib.hid hbs; clear hbs hblk
        have hsl := fun wx => slice_blk B1 k h16 wx
        have hl4 : ((b.drop (4 * k)).take 4).length ≤ 8 := by simp; omega
        have HL4 := Lib.hid hl4; clear hl4
        go_wp2_with (go_at_call 94; refine (take_any _ ((b.drop (4 * k)).take 4) _ HB.out HL4.out).mono ?_; rintro e w' ⟨rfl, rfl⟩)
        go_roundw
        case rel =>
          have hst := store_W HW.out (wordB b k) (by rw [schedW_length]; exact hlt) k (by rw [schedW_length])
          rw [u32_word]
          refine ⟨k + 1, by omega, by go_num, ?_, grown_set HG.out _ _⟩
          simp only [schedW, if_pos h16]
          exact hst
        case measure => simp [intOf]; omega
      · have hget : ∀ j, j < k → wr.cell? ⟨B3, j, none⟩ = some (U32 ((schedW b k).getD j 0)) := fun j hj => (cell_row HW.out j).trans (cellsW_get _ j (by rw [schedW_length]; exact hj))
        have c16 := hget (k - 16) (by omega)
        have c15 := hget (k - 15) (by omega)
        have c7 := hget (k - 7) (by omega)
        have c2 := hget (k - 2) (by omega)
        have hM5 : MixBox wr.drew B5 [7, 18] := HF.out.m5.kept (grown_drew HG.out) HF.out.ww (by have := HF.out.ne; omega)
        have hM7 : MixBox wr.drew B7 [17, 19] := HF.out.m7.kept (grown_drew HG.out) HF.out.ww (by have := HF.out.ne; omega)
        have hn : nextW (schedW b k) k = nextW (schedW b k) k := rfl
        generalize hx16 : (schedW b k).getD (k - 16) 0 = x16 at c16
        generalize hx15 : (schedW b k).getD (k - 15) 0 = x15 at c15
        generalize hx7 : (schedW b k).getD (k - 7) 0 = x7 at c7
        generalize hx2 : (schedW b k).getD (k - 2) 0 = x2 at c2
        have hnx : nextW (schedW b k) k = x16 + (mixS [7, 18] x15 ^^^ (x15 >>> 3)) + x7 + (mixS [17, 19] x2 ^^^ (x2 >>> 10)) := by unfold nextW; rw [hx16, hx15, hx7, hx2]
        have HNX := Lib.hid hnx; have M5 := Lib.hid hM5; have M7 := Lib.hid hM7
        clear hnx hn hx16 hx15 hx7 hx2 hget hM5 hM7
        have w16 : IntKind.i64.wrap ((k : Int) - 16) = (k : Int) - 16 := IntWalk.i64_in _ (by omega)
        have w15 : IntKind.i64.wrap ((k : Int) - 15) = (k : Int) - 15 := IntWalk.i64_in _ (by omega)
        have w7 : IntKind.i64.wrap ((k : Int) - 7) = (k : Int) - 7 := IntWalk.i64_in _ (by omega)
        have w2 : IntKind.i64.wrap ((k : Int) - 2) = (k : Int) - 2 := IntWalk.i64_in _ (by omega)
        have l16 : (k : Int) - 16 < 64 := by omega
        have z16 : 0 ≤ (k : Int) - 16 := by omega
        have t16 : ((k : Int) - 16).toNat = k - 16 := by omega
        have l15 : (k : Int) - 15 < 64 := by omega
        have z15 : 0 ≤ (k : Int) - 15 := by omega
        have t15 : ((k : Int) - 15).toNat = k - 15 := by omega
        have l7 : (k : Int) - 7 < 64 := by omega
        have z7 : 0 ≤ (k : Int) - 7 := by omega
        have t7 : ((k : Int) - 7).toNat = k - 7 := by omega
        have l2 : (k : Int) - 2 < 64 := by omega
        have z2 : 0 ≤ (k : Int) - 2 := by omega
        have t2 : ((k : Int) - 2).toNat = k - 2 := by omega
        have l0 : (k : Int) < 64 := by omega
        have q16 : (16 : Int) ≤ (k : Int) := by omega
        have q15 : (15 : Int) ≤ (k : Int) := by omega
        have q7 : (7 : Int) ≤ (k : Int) := by omega
        have q2 : (2 : Int) ≤ (k : Int) := by omega
        have k16 : 16 ≤ k := by omega
        go_wp2_with fail
        refine wp_region_still_tail 37 kR kR ?_
        simp only [List.take_succ_cons, List.take_zero, List.drop_succ_cons, List.drop_zero]
        iterate 10 still_step
        still_call (mixc_any [7, 18] x15 B5 _ M5.out)
        iterate 17 still_step
        still_call (mixc_any [17, 19] x2 B7 _ M7.out)
        iterate 8 still_step
        refine wpStill_nil ?_
        change wpList _ _ _ _ _ wr.drew
        go_wp2
        go_roundw
        case rel =>
          have hst := store_W HW.out (nextW (schedW b k) k) (by rw [schedW_length]; exact hlt) k (by rw [schedW_length])
          rw [HNX.out] at hst
          refine ⟨k + 1, by omega, by go_num, ?_, grown_drew (grown_set HG.out _ _)⟩
          simp only [schedW, if_neg h16]
          rw [HNX.out]
          exact hst
        case measure => simp [intOf]; omega
    · obtain rfl : k = 64 := by omega
      have hne := HF.out.ne
      have hst0 : wr.heap[w.heap.size]? = some (.cells (cellsS s) 135 (0, 0)) := by rw [HG.out.block _ (by omega) (by simp; omega)]; exact HF.out.st
      have hk0 : wr.heap[0]? = some (.cells (kTab.map U32).toArray kt kf) := by rw [HG.out.block 0 (by omega) (by simp; omega)]; exact (HF.out.below.block 0 (by omega)).trans HK.out
      have hszr := HG.out.size
      have HS0 := Lib.hid hst0; have HK0 := Lib.hid hk0; have HNE := Lib.hid hne; clear hst0 hk0 hne
      have hi8 : (Tryd.prog.info? 135).map (·.size) = some (cellsS s).size := by kernel_rfl
      have HI8 := Lib.hid hi8; clear hi8
      have hkk : ∀ o, ((wr.alloc o).setRow wr.heap.size (cellsS s)).heap[0]? = some (.cells (kTab.map U32).toArray kt kf) := fun o => (setRow_other _ _ 0 _ (by have := HNE.out; omega)).trans ((Below.heap_alloc wr _ 0 (by have := HNE.out; omega)).trans HK0.out)
      have HKK := Lib.hid hkk; clear hkk
      have hz8 : (cellsS s).all (·.oneCell') = true := by simp [cellsS, U32_one]
      have hi64 : (Tryd.prog.info? 178).map (·.size) = some ((kTab.map U32).toArray).size := by kernel_rfl
      have HZ8 := Lib.hid hz8; have HI64 := Lib.hid hi64; clear hz8 hi64
      go_wp2_with (first | ((with_reducible refine iD 78 (_) ?_); refine wpList_load_row rfl 135 (.tmp 2) rfl w.heap.size rfl 135 (cellsS s) (0, 0) _ HS0.out Tryd.underlying135 rfl HI8.out ?_) | ((with_reducible refine iO none (.store 135 (.tmp 11) (.tmp 78)) ?_); refine wpList_store_row rfl 135 (.tmp 11) (.tmp 78) rfl wr.heap.size (cellsS s) rfl rfl 135 _ (heap_alloc_new wr _) HI8.out rfl HZ8.out ?_) | ((with_reducible refine iD 79 (_) ?_); refine wpList_load_row rfl 178 (.global 0) rfl 0 rfl kt (kTab.map U32).toArray kf _ (HKK.out _) Tryd.underlying178 rfl HI64.out ?_))
      refine forget (CompG w s b B2 B3 B9 B11 wr.heap.size) (compG_of HF.out HW.out HG.out _ rfl ⟨_, rfl⟩) ?_
      intro w2 hG2
      generalize wr.heap.size = BV at hG2 ⊢
      have HH := Lib.hid hG2
      clear hG2 HF HW HG HS0 HK0 HNE hszr
      have hidx : ∀ i : Nat, i < 64 → ∀ w', (Instr.index 178 (.agg (kTab.map U32).toArray) (.int .i64 (i : Int))).run Tryd.prog w' = .ok (U32 (kTab.getD i 0)) w' := fun i hi w' => idx_k _ rfl i hi w'
      generalize (kTab.map U32).toArray = KC at hidx ⊢
      have HIDX := Lib.hid hidx; clear hidx
      go_loopw [80] (fun t wr => ∃ i : Nat, i ≤ 64 ∧ t = .int .i64 (i : Int) ∧ wr.heap[BV]? = some (.cells (cellsS (roundsR (schedW b 64) s i)) 135 (0, 0)) ∧ w2.grownBy wr (some BV)) (fun t _ => 64 - (intOf t).toNat)
      case atStart => exact ⟨0, by omega, rfl, HH.out.vv, World.grownBy.refl _ _⟩
      case round =>
        obtain ⟨i, hi, rfl, hv, hg⟩ := hrel
        by_cases hlt : i < 64
        · have hki := HIDX.out i hlt
          obtain ⟨v, hvv⟩ : ∃ v, v = roundsR (schedW b 64) s i := ⟨_, rfl⟩
          rw [← hvv] at hv
          have hne := HH.out.ne
          have hww : wr.heap[B3]? = some (.cells (cellsW (schedW b 64)) 178 (0, 0)) := by rw [hg.block B3 (by omega) (by simp; omega)]; exact HH.out.ww
          have cw : wr.cell? ⟨B3, i, none⟩ = some (U32 ((schedW b 64).getD i 0)) := (cell_row hww i).trans (cellsW_get _ i (by rw [schedW_length]; exact hlt))
          have hm9 := HH.out.m9.row hg (by omega)
          have hm11 := HH.out.m11.row hg (by omega)
          obtain ⟨c0, c1, c2, c3, c4, c5, c6, c7⟩ := cells_of hv
          obtain ⟨wi, hwi⟩ : ∃ wi, wi = (schedW b 64).getD i 0 := ⟨_, rfl⟩
          rw [← hwi] at cw
          obtain ⟨ki, hkk⟩ : ∃ ki, ki = kTab.getD i 0 := ⟨_, rfl⟩
          rw [← hkk] at hki
          have hst : stepR v ki wi = roundsR (schedW b 64) s (i + 1) := by rw [hvv, hkk, hwi]; rfl
          have M9 := Lib.hid hm9; have M11 := Lib.hid hm11; have HV := Lib.hid hv; have HG := Lib.hid hg; have HST := Lib.hid hst; have HNE := Lib.hid hne
          clear hm9 hm11 hv hg hst hne hvv hwi hkk hww
          have l0 : (i : Int) < 64 := by omega
          go_wp2_with fail
          go_quiet ((go_at_call 101; exact Calls.quiet_of_same (mixc_any [6, 11, 25] v.e B11 _ (M11.out.drewN _))))
          go_wp2_with fail
          have hvq : (wr.drewN nq).heap[BV]? = some (.cells (cellsS v) 135 (0, 0)) := HV.out
          have hgq : w2.grownBy (wr.drewN nq) (some BV) := ⟨HG.out.os, HG.out.tape, HG.out.output, HG.out.size, HG.out.block⟩
          have m9q := M9.out.drewN nq
          clear HV HG M9 M11 cw hki
          generalize wr.drewN nq = wq at hvq hgq m9q ⊢
          clear c0 c1 c2 c3 c4 c5 c6 c7
          obtain ⟨c0, c1, c2, c3, c4, c5, c6, c7⟩ := cells_of hvq
          have HV := Lib.hid hvq; have HG := Lib.hid hgq; have M9 := Lib.hid m9q; clear hvq hgq m9q
          go_quiet ((go_at_call 101; exact Calls.quiet_of_same (mixc_any [2, 13, 22] v.a B9 _ (M9.out.drewN _))))
          go_wp2_with fail
          have hvq : (wq.drewN nq).heap[BV]? = some (.cells (cellsS v) 135 (0, 0)) := HV.out
          have hgq : w2.grownBy (wq.drewN nq) (some BV) := ⟨HG.out.os, HG.out.tape, HG.out.output, HG.out.size, HG.out.block⟩
          clear HV HG M9
          generalize wq.drewN nq = wp at hvq hgq ⊢
          clear c0 c1 c2 c3 c4 c5 c6 c7
          have hsrc : ∀ j x, [U32 v.a, U32 v.b, U32 v.c, U32 v.d, U32 v.e, U32 v.f, U32 v.g][j]? = some x → wp.drew.cell? ((⟨BV, 0, none⟩ : Addr).add j) = some x := fun j x hj => copy_src hvq j x hj
          have hsz22 : (Tryd.prog.info? 38).map (·.size) = some 1 := by kernel_rfl
          have HV := Lib.hid hvq; have HG := Lib.hid hgq; have HSRC := Lib.hid hsrc; have HSZ := Lib.hid hsz22; clear hvq hgq hsrc hsz22
          go_region_law (refine step_copy_row rfl (.tmp 132) (.tmp 133) 181 181 rfl 38 Tryd.underlying181 HSZ.out BV 1 7 7 7 8 ⟨BV, 0, none⟩ rfl rfl (cellsS v) 135 HV.out [U32 v.a, U32 v.b, U32 v.c, U32 v.d, U32 v.e, U32 v.f, U32 v.g] rfl HSRC.out (by simp [cellsS]) (oneCell_seven v) ?_; intro w3 h3 g3; have H3 := Lib.hid h3; have G3 := Lib.hid g3; clear h3 g3)
          have h3 : w3.heap[BV]? = some (.cells (cellsS ⟨v.a, v.a, v.b, v.c, v.d, v.e, v.f, v.g⟩) 135 (0, 0)) := H3.out
          have d4 : w3.cell? ⟨BV, 4, none⟩ = some (U32 v.d) := cell_row h3 4
          have f4 := frozen_row h3 4
          have d0 : w3.cell? ⟨BV, 0, none⟩ = some (U32 v.a) := cell_row h3 0
          have f0 := frozen_row h3 0
          have HB3 := Lib.hid h3; clear h3 H3
          go_wp2
          go_roundw
          case rel =>
            have hg3 : w2.grownBy w3 (some BV) := by
              have g1 := HG.out
              have g2 := G3.out
              exact ⟨g2.os.trans g1.os, g2.tape.trans g1.tape, g2.output.trans g1.output, Nat.le_trans g1.size g2.size, fun k hk hne => (g2.block k (Nat.lt_of_lt_of_le hk g1.size) hne).trans (g1.block k hk hne)⟩
            refine ⟨i + 1, by omega, by go_num, ?_, grown_set (grown_set hg3 _ _) _ _⟩
            rw [← HST.out, heap_setCell_same _ _ _ _ _ _ (heap_setCell_same _ _ _ _ _ _ HB3.out)]
            rfl
          case measure => simp [intOf]; omega
        · obtain rfl : i = 64 := by omega
          have hne := HH.out.ne
          have hst : wr.heap[w.heap.size]? = some (.cells (cellsS s) 135 (0, 0)) := by rw [hg.block _ (by omega) (by simp; omega)]; exact HH.out.st
          have hres : wr.heap[B2]? = some (.cells (cellsS ⟨0, 0, 0, 0, 0, 0, 0, 0⟩) 135 (0, 0)) := by rw [hg.block _ (by omega) (by simp; omega)]; exact HH.out.res
          have hbel : Below w.heap.size w wr := HH.out.below.grown hg (by omega) (fun k hk => by simp at hk; omega)
          have hszr := hg.size
          have hcomp : addS s (roundsR (schedW b 64) s 64) = compS s b := rfl
          obtain ⟨V, hV⟩ : ∃ V, V = roundsR (schedW b 64) s 64 := ⟨_, rfl⟩
          rw [← hV] at hv hcomp
          have HV := Lib.hid hv; have HST := Lib.hid hst; have HRES := Lib.hid hres; have HBEL := Lib.hid hbel; have HNE := Lib.hid hne; have HSZ := Lib.hid hszr; have HCOMP := Lib.hid hcomp
          clear hv hst hres hbel hne hszr hV hcomp hg HH HIDX
          obtain ⟨wo, hwo⟩ : ∃ wo, wo = wr := ⟨_, rfl⟩
          rw [← hwo] at HV HST HRES HBEL HSZ ⊢
          clear hwo
          go_wp2_with fail
          go_loopw [145] (fun t wr => ∃ i : Nat, i ≤ 8 ∧ t = .int .i64 (i : Int) ∧ wr.heap[w.heap.size]? = some (.cells (cellsP s V i) 135 (0, 0)) ∧ wo.grownBy wr (some w.heap.size)) (fun t _ => 8 - (intOf t).toNat)
          case atStart => exact ⟨0, by omega, rfl, HST.out, World.grownBy.refl _ _⟩
          case round =>
            obtain ⟨i, hi, rfl, hv, hg⟩ := hrel
            by_cases hlt : i < 8
            · have hvv : wr.heap[BV]? = some (.cells (cellsS V) 135 (0, 0)) := by have := HNE.out; have := HSZ.out; rw [hg.block BV (by omega) (by simp; omega)]; exact HV.out
              have c1 : wr.cell? ⟨w.heap.size, i, none⟩ = some (U32 (s.list.getD i 0)) := (cell_row hv i).trans (cellsP_get s V i hlt)
              have c2 : wr.cell? ⟨BV, i, none⟩ = some (U32 (V.list.getD i 0)) := (cell_row hvv i).trans (cellsS_get V i hlt)
              have f1 := frozen_row hv i
              have hset := cellsP_set s V i hlt
              obtain ⟨x, hx⟩ : ∃ x, x = s.list.getD i 0 := ⟨_, rfl⟩
              obtain ⟨y, hy⟩ : ∃ y, y = V.list.getD i 0 := ⟨_, rfl⟩
              rw [← hx] at c1 hset
              rw [← hy] at c2 hset
              have HX := Lib.hid hv; have HG := Lib.hid hg; have HSET := Lib.hid hset
              clear hv hg hset hx hy hvv
              have l0 : (i : Int) < 8 := by omega
              go_wp2_with fail
              refine wp_region_still_tail 8 kR kR ?_
              simp only [List.take_succ_cons, List.take_zero, List.drop_succ_cons, List.drop_zero]
              iterate 8 still_step
              refine wpStill_nil ?_
              change wpList _ _ _ _ _ wr.drew
              go_wp2
              go_roundw
              case rel =>
                have hA : ((wr.setCell ⟨w.heap.size, i, none⟩ (U32 (x + y))).drew).heap[w.heap.size]? = some (.cells (cellsP s V (i + 1)) 135 (0, 0)) := by
                  rw [← HSET.out]
                  exact heap_setCell_same _ _ _ _ _ _ HX.out
                have hB := grown_drew (grown_set HG.out i (U32 (x + y)))
                first
                  | exact ⟨i + 1, by omega, by go_num, hA, hB⟩
                  | ((repeat apply Exists.intro); exact ⟨⟨i + 1, by omega, by go_num, hA, hB⟩, rfl⟩)
              case measure => simp [intOf]; omega
            · obtain rfl : i = 8 := by omega
              have hi8P : (Tryd.prog.info? 135).map (·.size) = some (cellsP s V 8).size := HI8.out
              have hz8P : (cellsP s V 8).all (·.oneCell') = true := by rw [cellsP_eight]; simp [cellsS, U32_one]
              have hres : wr.heap[B2]? = some (.cells (cellsS ⟨0, 0, 0, 0, 0, 0, 0, 0⟩) 135 (0, 0)) := by have := HNE.out; have := HSZ.out; rw [hg.block B2 (by omega) (by simp; omega)]; exact HRES.out
              have HX := Lib.hid hv; have HG := Lib.hid hg; have HP8 := Lib.hid hi8P; have HZP := Lib.hid hz8P; have HR := Lib.hid hres
              clear hv hg hi8P hz8P hres
              go_wp2_with (first | ((with_reducible refine iD 157 (_) ?_); refine wpList_load_row rfl 135 (.tmp 2) rfl w.heap.size rfl 135 (cellsP s V 8) (0, 0) _ HX.out Tryd.underlying135 rfl HP8.out ?_) | ((with_reducible refine iO none (.store 135 (.tmp 4) (.tmp 157)) ?_); refine wpList_store_row rfl 135 (.tmp 4) (.tmp 157) rfl B2 (cellsP s V 8) rfl rfl 135 _ HR.out HP8.out rfl HZP.out ?_))
              have hag : aggS (compS s b) = .agg (cellsP s V 8) := by rw [← HCOMP.out]; rfl
              rw [hag]
              have hbw : Below w.heap.size w wr := HBEL.out.grown HG.out (by have := HNE.out; have := HSZ.out; omega) (fun k hk => by simp at hk; omega)
              have hbr : Below w.heap.size wr (wr.setRow B2 (cellsP s V 8)) := ⟨rfl, rfl, rfl, by simp, fun k hk => setRow_other wr B2 k _ (by have := HNE.out; omega)⟩
              exact bodyPost_ret (v := .agg (cellsP s V 8)) (results_cell_row rfl _ _ B2 135 (cellsP s V 8) (0, 0) _ rfl (setRow_heap _ _ _ _ _ _ HR.out) Tryd.underlying135 rfl HP8.out) rfl ⟨rfl, hbw.trans hbr⟩
end Go.Proofs.YtfhkmmagpnojmaaDoor

/- The specification's schedule of words and its table of constants, in new memory; what was there stays. -/
namespace Go.Proofs.YtfhkmmagpnojmaaDoor
open Go.RowKit

theorem own_base {w : World} {base base' e size : Nat} {v : Value} {n : Nat} {xs : List Value} (h : w.ownsRow base e size v n xs) (hb : base' ≤ base) : w.ownsRow base' e size v n xs := by
  refine ⟨h.1, ?_⟩
  rcases h.2 with hn | ⟨g, cap, cur, hv, hg, r⟩
  · exact .inl hn
  · exact .inr ⟨g, cap, cur, hv, Nat.le_trans hb hg, r⟩
end Go.Proofs.YtfhkmmagpnojmaaDoor

/- The specification's compression of a block: what dunnageref01.Compress returns; new memory alone. -/
namespace Go.Proofs.YtfhkmmagpnojmaaDoor
open Go.RowKit

end Go.Proofs.YtfhkmmagpnojmaaDoor

/- A hash as a value; the hash of no bytes; whether two hashes are equal. No condition. -/
namespace Go.Proofs.YtfhkmmagpnojmaaDoor
open Go.RowKit

/-- The table of constants lies where the program has laid it. -/
def KT (w : World) : Prop := (∃ t f, w.heap[0]? = some (.cells (kTab.map U32).toArray t f)) ∧ 0 < w.heap.size
theorem KT.later {w w1 : World} (h : KT w) {B : Nat} (hb : Below B w w1) (hB : w.heap.size ≤ B) : KT w1 := by
  obtain ⟨⟨t, f, h1⟩, h2⟩ := h
  exact ⟨⟨t, f, (hb.block _ (Nat.lt_of_lt_of_le h2 hB)).trans h1⟩, Nat.lt_of_lt_of_le h2 hb.size⟩
theorem KT.alloc {w : World} (h : KT w) (o : Obj) : KT (w.alloc o) := h.later (below1 w o) (Nat.le_refl _)
theorem KT.of_var {w : World} (h : w.var? Tryd.prog "dunnage/digest.constants" = some (kTab.map U32).toArray) : KT w := by
  have hg : Tryd.prog.globalNamed "dunnage/digest.constants" = some 0 := by kernel_rfl
  unfold World.var? at h
  rw [hg] at h
  simp only [Option.bind_some] at h
  cases hq : w.heap[0]? with
  | none => rw [hq] at h; cases h
  | some o =>
    rw [hq] at h
    cases o with
    | cells cs t f =>
      simp only [Option.some.injEq] at h
      subst h
      refine ⟨⟨t, f, hq⟩, ?_⟩
      rcases Nat.lt_or_ge 0 w.heap.size with h | h
      · exact h
      · rw [Array.getElem?_eq_none h] at hq; cases hq
    | _ => cases h
theorem compressK (s : St) (b : List UInt8) (w : World) (hb : b.length = 64) (hK : KT w) :
    Calls Tryd.prog 95 #[.agg #[U32 s.a, U32 s.b, U32 s.c, U32 s.d, U32 s.e, U32 s.f, U32 s.g, U32 s.h], .agg (b.map by8).toArray] w fun e w' => e = .returned (aggS (compS s b)) ∧ Below w.heap.size w w' := by
  obtain ⟨⟨t, f, h1⟩, h2⟩ := hK
  exact compress_any t f s b w hb h1 h2
/-- A hash's cells: its state, its tail, its length. -/
def cellsH (s : St) (t : Value) (n : Nat) : Array Value := #[U32 s.a, U32 s.b, U32 s.c, U32 s.d, U32 s.e, U32 s.f, U32 s.g, U32 s.h, t, .int .u64 (n : Int)]
/-- A hash as a value. -/
def hashV (s : St) (t : Value) (n : Nat) : Value := .agg (cellsH s t n)
set_option maxRecDepth 20000 in
set_option maxHeartbeats 400000 in
theorem start_any (w : World) : Calls Tryd.prog 75 #[] w fun e w' => e = .returned (hashV startS (.slice none 0 0) 0) ∧ Below w.heap.size w w' := by
  go_enter Tryd.func75, Tryd.ntmps75
  go_wp2
  exact ret_row rfl w.heap.size 137 _ (heap_new _ _ _) _ Tryd.underlying137 10 kR rfl rfl rfl rfl ⟨rfl, (Below.refl _ _).alloc (Nat.le_refl _) _⟩
end Go.Proofs.YtfhkmmagpnojmaaDoor

/- Whether a hash is valid: what digest.Check, dunnageref01.ValidHash and dunnageref01.Check return. No condition. -/
namespace Go.Proofs.YtfhkmmagpnojmaaDoor
open Go.RowKit

/-- Is a hash of n bytes with a tail of m bytes valid? -/
def chkB (m n : Nat) : Bool := decide (n ≤ 8192) && decide (m = n % 64)
/-- The error of such a hash. -/
def chkE (m n : Nat) : Int := if chkB m n then 0 else 8
set_option maxRecDepth 20000 in
set_option maxHeartbeats 400000 in
theorem check_any (s : St) (a : Option Addr) (m c n : Nat) (w : World) (hm : m ≤ 9223372036854775807) :
    Calls Tryd.prog 88 #[.agg #[U32 s.a, U32 s.b, U32 s.c, U32 s.d, U32 s.e, U32 s.f, U32 s.g, U32 s.h, .slice a m c, .int .u64 (n : Int)]] w fun e w' => e = .returned (.int .i64 (chkE m n)) ∧ Below w.heap.size w w' := by
  by_cases h1 : 8192 < n
  · have hE : chkE m n = 8 := by unfold chkE chkB; rw [decide_eq_false (by omega)]; rfl
    rw [hE]; clear hE
    have h1' : (8192 : Int) < (n : Int) := by omega
    go_enter Tryd.func88, Tryd.ntmps88
    go_wp2
    go_ret
    exact ⟨rfl, below1 _ _⟩
  · have h1' : ¬ (8192 : Int) < (n : Int) := by omega
    by_cases h2 : m = n % 64
    · have hE : chkE m n = 0 := by unfold chkE chkB; rw [decide_eq_true (by omega), decide_eq_true h2]; rfl
      have ht : ((m : Int) != (n : Int) % 64) = false := by rw [bne_eq_false_iff_eq]; omega
      rw [hE]; clear hE h2
      go_enter Tryd.func88, Tryd.ntmps88
      go_wp2
      go_ret
      exact ⟨rfl, below1 _ _⟩
    · have hE : chkE m n = 8 := by unfold chkE chkB; rw [decide_eq_false h2, Bool.and_false]; rfl
      have ht : ((m : Int) != (n : Int) % 64) = true := by rw [bne_iff_ne]; omega
      rw [hE]; clear hE h2
      go_enter Tryd.func88, Tryd.ntmps88
      go_wp2
      go_ret
      exact ⟨rfl, below1 _ _⟩
end Go.Proofs.YtfhkmmagpnojmaaDoor

/- The complete blocks of some bytes, compressed into a state: what digest.absorb returns, for bytes that lie anywhere; new memory alone. No condition but the table of constants. -/
namespace Go.Proofs.YtfhkmmagpnojmaaDoor
open Go.RowKit

/-- What a call leaves that returns a state and bytes that stood. -/
def StateRest (w : World) (s : St) (xs : List UInt8) (e : Ending) (w' : World) : Prop :=
  ∃ v', e = .returned (.tuple #[aggS s, v']) ∧ Bs w v' xs ∧ Below w.heap.size w w'
theorem Bs.range {w : World} {b off cap n : Nat} {ys : List UInt8} (h : Bs w (.slice (some ⟨b, off, none⟩) n cap) ys) : w.rangeAt b off (ys.map by8) := by
  intro j v hj
  rcases h.cases with ⟨a, ha, hy⟩ | ⟨b', off', cap', hv, h1, h2, hc⟩
  · subst hy
    simp at hj
  · simp only [Value.slice.injEq, Option.some.injEq, Addr.mk.injEq, and_true] at hv
    obtain ⟨⟨rfl, rfl⟩, _, rfl⟩ := hv
    obtain ⟨hlt, rfl⟩ := List.getElem?_eq_some_iff.1 hj
    have := hc j (by simpa using hlt)
    simpa using this
theorem rangeAt_part {w : World} {b o : Nat} {cs : List Value} (h : w.rangeAt b o cs) (n : Nat) : w.rangeAt b o (cs.take n) := fun j v hj => by
  rw [List.getElem?_take] at hj
  split at hj
  · exact h j v hj
  · cases hj
theorem absS_succ (s : St) (xs : List UInt8) (k : Nat) : absS s xs (k + 1) = compS (absS s xs k) ((xs.drop (64 * k)).take 64) := rfl
/-- What stands at the head of a round. -/
structure AbsF (w : World) (r : St) (wr : World) : Prop where
  below : Below w.heap.size w wr
  st : wr.heap[w.heap.size]? = some (.cells (cellsS r) 135 (0, 0))
  res : wr.heap[w.heap.size + 1]? = some (.cells (cellsS ⟨0, 0, 0, 0, 0, 0, 0, 0⟩) 135 (0, 0))
  sz : w.heap.size + 2 ≤ wr.heap.size
theorem absF_new (w : World) (r : St) : AbsF w r ((w.alloc (.cells (cellsS r) 135)).alloc (.cells (cellsS ⟨0, 0, 0, 0, 0, 0, 0, 0⟩) 135)) := by
  refine ⟨below2 _ _ _, heap_later (below1 _ _) (by simp) (heap_new _ _ _), ?_, by simp⟩
  have := heap_new (w.alloc (.cells (cellsS r) 135)) (cellsS ⟨0, 0, 0, 0, 0, 0, 0, 0⟩) 135
  simpa using this
theorem AbsF.next {w wr w1 : World} {r r' : St} (h : AbsF w r wr) (hb : Below wr.heap.size wr w1) : AbsF w r' (w1.setRow w.heap.size (cellsS r')) := by
  have hs := h.sz
  have hs1 := hb.size
  refine ⟨below_row (h.below.trans (hb.mono (by omega))) (Nat.le_refl _) _, ?_, ?_, by simp; omega⟩
  · exact setRow_heap _ _ _ _ _ _ ((hb.block _ (by omega)).trans h.st)
  · rw [setRow_other _ _ _ _ (by omega)]
    exact (hb.block _ (by omega)).trans h.res
theorem AbsF.drew {w wr : World} {r : St} (h : AbsF w r wr) : AbsF w r wr.drew := ⟨⟨h.below.os, h.below.tape, h.below.output, h.below.size, h.below.block⟩, h.st, h.res, h.sz⟩
theorem AbsF.range {w wr : World} {r : St} (h : AbsF w r wr) : wr.rangeAt w.heap.size 0 [U32 r.a, U32 r.b, U32 r.c, U32 r.d, U32 r.e, U32 r.f, U32 r.g, U32 r.h] := by
  have := rangeAt_of_row h.st 0 8
  simpa [cellsS] using this
set_option maxRecDepth 20000 in
set_option maxHeartbeats 1000000 in
theorem absorb_any (s : St) (v : Value) (xs : List UInt8) (w : World) (hv : Bs w v xs) (hK : KT w) :
    Calls Tryd.prog 89 #[.agg #[U32 s.a, U32 s.b, U32 s.c, U32 s.d, U32 s.e, U32 s.f, U32 s.g, U32 s.h], v] w (StateRest w (absS s xs (xs.length / 64)) (xs.drop (64 * (xs.length / 64)))) := by
  obtain ⟨a, c, rfl, hc1, hc2⟩ := Sl.shape hv
  unfold maxLen at hc2
  have HV := Lib.hid hv; have HK := Lib.hid hK; clear hv hK
  have hF0 := absF_new w s
  have HF0 := Lib.hid hF0; clear hF0
  go_enter Tryd.func89, Tryd.ntmps89
  go_wp2
  go_loopw [1] (fun t wr => ∃ (k : Nat) (a' : Option Addr) (c' : Nat), 64 * k ≤ xs.length ∧ t = .slice a' (xs.length - 64 * k) c' ∧ Bs w (.slice a' (xs.length - 64 * k) c') (xs.drop (64 * k)) ∧ AbsF w (absS s xs k) wr)
    (fun t _ => match t with | .slice _ n _ => n | _ => 0)
  case atStart => exact ⟨0, a, c, by omega, rfl, by simpa using HV.out, HF0.out⟩
  case round =>
    obtain ⟨k, a', c', hk, rfl, hb, hF⟩ := hrel
    clear HF0
    by_cases hlt : 64 ≤ xs.length - 64 * k
    · have hlen : (xs.drop (64 * k)).length = xs.length - 64 * k := by simp
      have hbl : ((xs.drop (64 * k)).take 64).length = 64 := by simp; omega
      obtain ⟨b, off, rfl, hcc⟩ : ∃ b off, a' = some ⟨b, off, none⟩ ∧ xs.length - 64 * k ≤ c' := by
        rcases hb.cases with ⟨a0, ha, h0⟩ | ⟨b, off, cap, hv, h1, h2, hc⟩
        · rw [h0] at hlen; simp at hlen; omega
        · simp only [Value.slice.injEq] at hv
          obtain ⟨rfl, _, rfl⟩ := hv
          exact ⟨b, off, rfl, by omega⟩
      obtain ⟨a2, hif, hp⟩ := Sl.part (show Sl w 1 (.slice (some ⟨b, off, none⟩) (xs.length - 64 * k) c') (xs.length - 64 * k) ((xs.drop (64 * k)).map by8) by have := hb; unfold Bs at this; rwa [hlen] at this) 64 (xs.length - 64 * k - 64) (by omega)
      simp only [Nat.mul_one] at hif hp
      have hp2 : Bs w (.slice a2 (xs.length - 64 * (k + 1)) (c' - 64)) (xs.drop (64 * (k + 1))) := by
        have e1 : (xs.drop (64 * (k + 1))).length = xs.length - 64 * k - 64 := by simp; omega
        have e2 : ((xs.drop (64 * k)).map by8).drop 64 = (xs.drop (64 * (k + 1))).map by8 := by rw [← List.map_drop, List.drop_drop]; rfl
        have e3 : xs.length - 64 * (k + 1) = xs.length - 64 * k - 64 := by omega
        unfold Bs
        rw [e1, e3]
        rw [e2, List.take_of_length_le (by rw [List.length_map, e1]; exact Nat.le_refl _)] at hp
        exact hp
      have hr64 : wr.rangeAt b off (((xs.drop (64 * k)).take 64).map by8) := by
        rw [List.map_take]
        exact rangeAt_part (hb.below hF.below).range 64
      have hr8 := hF.range
      have hKr : KT wr.drew := HK.out.later (B := w.heap.size) hF.drew.below (Nat.le_refl _)
      have hi64 : (Tryd.prog.info? 175).map (·.size) = some (((xs.drop (64 * k)).take 64).map by8).length := by
        have h : (Tryd.prog.info? 175).map (·.size) = some 64 := by kernel_rfl
        rw [h, List.length_map, hbl]
      have hst : wr.heap[w.heap.size]? = some (.cells (cellsS (absS s xs k)) 135 (0, 0)) := hF.st
      have hsz := hF.sz
      have hcp := fun w1 (h : KT w1) => compressK (absS s xs k) ((xs.drop (64 * k)).take 64) w1 hbl h
      obtain ⟨r, hr⟩ : ∃ r, r = absS s xs k := ⟨_, rfl⟩
      obtain ⟨C, hC⟩ : ∃ C, C = ((xs.drop (64 * k)).take 64).map by8 := ⟨_, rfl⟩
      rw [← absS_succ, ← hr, ← hC] at hcp
      rw [← hr] at hr8 hst hF
      rw [← hC] at hr64 hi64
      have hl64 : 64 ≤ xs.length - 64 * k := hlt
      have har := fun w' => run_arrayAt (P := Tryd.prog) w' 175 5 64 (some ⟨b, off, none⟩) (xs.length - 64 * k) c' Tryd.underlying175 hl64
      have HCP := Lib.hid hcp; have HR8 := Lib.hid hr8; have HST := Lib.hid hst; have HF := Lib.hid hF; have HR64 := Lib.hid hr64; have HI64 := Lib.hid hi64; have HKR := Lib.hid hKr; have HP2 := Lib.hid hp2; clear hcp hr8 hst hF hr64 hi64 hKr hp2
      clear hr hC hb hp hlen hbl
      go_wp2_with fail
      refine wp_region_still_tail 4 kR kR ?_
      simp only [List.take_succ_cons, List.take_zero, List.drop_succ_cons, List.drop_zero]
      refine wpStill_load_mid rfl 135 (.tmp 2) rfl w.heap.size 0 rfl [U32 r.a, U32 r.b, U32 r.c, U32 r.d, U32 r.e, U32 r.f, U32 r.g, U32 r.h] _ HR8.out Tryd.underlying135 rfl kR ?_
      still_step
      still_step
      refine wpStill_load_mid rfl 175 (.tmp 11) rfl b off rfl C _ HR64.out Tryd.underlying175 rfl HI64.out ?_
      refine wpStill_nil ?_
      change wpList _ _ _ _ _ wr.drew
      simp only [Act.put, List.setIfInBounds_toArray, List.set_cons_zero, List.set_cons_succ]
      go_wp2_with (first | (go_at_call 95; (with_reducible refine (HCP.out _ HKR.out).mono ?_); rintro e w1 ⟨rfl, hb1⟩; have HB1 := Lib.hid hb1; clear hb1; unfold aggS) | ((with_reducible refine iO none (.store 135 (.tmp 2) (.tmp 13)) ?_); refine wpList_store_rowN rfl 135 (.tmp 2) (.tmp 13) rfl (w.heap.size) _ rfl rfl 135 _ ((HB1.out.block _ (by have := hsz; simp; omega)).trans HST.out) 8 kR rfl rfl (by simp [U32_one, one_slice, one_int, one_bool]) ?_) | fail)
      go_roundw
      case rel =>
        exact ⟨k + 1, a2, c' - 64, by omega, by congr 1, HP2.out, HF.out.drew.next HB1.out⟩
      case measure => simp; omega
    · have hkk : k = xs.length / 64 := by omega
      have HF := Lib.hid hF; have HB := Lib.hid hb; have HKK := Lib.hid hkk; clear hF hb hkk
      have hsz := HF.out.sz
      go_wp2_with (first | ((with_reducible refine iD 16 (_) ?_); refine wpList_load_rowN rfl 135 (.tmp 2) rfl w.heap.size rfl 135 (cellsS (absS s xs k)) (0, 0) _ HF.out.st Tryd.underlying135 rfl 8 kR rfl ?_) | ((with_reducible refine iO none (.store 135 (.tmp 4) (.tmp 16)) ?_); refine wpList_store_rowN rfl 135 (.tmp 4) (.tmp 16) rfl (w.heap.size + 1) (cellsS (absS s xs k)) rfl rfl 135 _ HF.out.res 8 kR rfl rfl (by simp [cellsS, U32_one]) ?_))
      refine ret_row_tmp rfl (w.heap.size + 1) 135 (cellsS (absS s xs k)) (setRow_heap _ _ _ _ _ _ HF.out.res) _ Tryd.underlying135 8 kR rfl rfl rfl rfl ?_
      rw [← HKK.out]
      exact ⟨_, rfl, HB.out, below_row HF.out.below (by omega) _⟩
end Go.Proofs.YtfhkmmagpnojmaaDoor

/- The complete blocks of some bytes, compressed into a state: what dunnageref01.blocks returns, for bytes that lie anywhere; new memory alone. No condition. -/
namespace Go.Proofs.YtfhkmmagpnojmaaDoor
open Go.RowKit

end Go.Proofs.YtfhkmmagpnojmaaDoor

/- What follows n bytes ahead of the last block: what dunnageref01.Pad returns, in new memory. No condition but the number's bound. -/
namespace Go.Proofs.YtfhkmmagpnojmaaDoor
open Go.RowKit

theorem padB_eq (n : Nat) : padB n = 128 :: List.replicate ((119 - n % 64) % 64) 0 ++ numB (8 * n) 8 := by
  unfold padB padB.numB'
  simp [numB]
end Go.Proofs.YtfhkmmagpnojmaaDoor

/- Two pieces of bytes, joined in new memory: what slices.Concat returns; what slices.Grow returns of nil. No condition but on the sizes. -/
namespace Go.Proofs.YtfhkmmagpnojmaaDoor
open Go.RowKit

set_option maxRecDepth 20000 in
set_option maxHeartbeats 1000000 in
theorem grow_any (n : Nat) (w : World) (hn : n ≤ 140737488355328) :
    Calls Tryd.prog 96 #[.slice none 0 0, .int .i64 (n : Int)] w (Fresh w []) := by
  by_cases h0 : n = 0
  · subst h0
    go_enter Tryd.func96, Tryd.ntmps96
    go_wp2
    go_ret
    exact ⟨_, rfl, World.ownsRow_nil _ _ _ _, Below.refl _ _⟩
  · have h1 : 0 < (n : Int) := by omega
    obtain ⟨i0, hi, hz, hs, hb⟩ := info_parts Tryd.infoB
    have hrz : ∀ ty, (Builtin.append_ #[25, 3] ty #[.slice none 0 0, .int .i64 (n : Int)]).run Tryd.prog w =
        .ok (.slice (some ⟨w.heap.size, 0, none⟩) n (grownCap w n 0 5)) (w.drew.alloc (.cells (#[] ++ Builtin.zeroCells (Value.int .u8 0).cells n ++ Builtin.zeroCells (Value.int .u8 0).cells (grownCap w n 0 5 - n)) 5)) := fun ty => by
      have h := Lib.run_append_grow_zeros w 25 3 ty 5 i0 (.int .u8 0) .i64 .i64 Tryd.underlying25 Tryd.underlying3 hi hz none 0 0 [] (run_firstCells_none w.drew i0.size 0 0 0) n (by omega) (by omega) (by omega) (by omega) (by rw [hb]; omega) (by rw [Nat.zero_add]; exact growslice_fits (by omega) (by rw [hb]; omega))
      rw [Nat.zero_add] at h
      exact h
    have hge := grownCap_ge w n 0 5
    have hle := grownCap_le_maxLen w n 0 5 (by unfold maxLen; omega)
    obtain ⟨G, hG⟩ : ∃ G, G = grownCap w n 0 5 := ⟨_, rfl⟩
    rw [← hG] at hrz hge hle
    have hown : (w.drew.alloc (.cells (#[] ++ Builtin.zeroCells (Value.int .u8 0).cells n ++ Builtin.zeroCells (Value.int .u8 0).cells (G - n)) 5)).ownsRow w.heap.size 5 1 (.slice (some ⟨w.heap.size, 0, none⟩) 0 G) 0 [] :=
      World.ownsRow_made (base := w.heap.size) (e := 5) (size := 1) w.drew _ G (Nat.le_refl _) hle (by simp only [Array.size_append, size_zeroCells, Array.size_empty, show (Value.int IntKind.u8 0).cells.size = 1 from rfl]; omega)
    obtain ⟨X, hX⟩ : ∃ X, X = #[] ++ Builtin.zeroCells (Value.int .u8 0).cells n ++ Builtin.zeroCells (Value.int .u8 0).cells (G - n) := ⟨_, rfl⟩
    rw [← hX] at hrz hown
    unfold maxLen at hle
    have HRZ := Lib.hid hrz; have HO := Lib.hid hown
    clear hX hG hrz hown hi hz hs hb
    go_enter Tryd.func96, Tryd.ntmps96
    go_wp2_with (at_builtin; refine Lib.wpList_append_run _ rfl _ _ _ _ rfl _ _ rfl rfl _ _ (HRZ.out _) ?_)
    go_ret
    exact ⟨_, rfl, HO.out, (Below.refl w.heap.size w).drew.alloc (Nat.le_refl _) _⟩
set_option maxRecDepth 20000 in
set_option maxHeartbeats 1000000 in
theorem concat_any (g : Nat) (v1 v2 : Value) (xs ys : List UInt8) (w : World) (h1 : w.cell? ⟨g, 0, none⟩ = some v1) (h2 : w.cell? ⟨g, 1, none⟩ = some v2) (hx : Bs w v1 xs) (hy : Bs w v2 ys)
    (hl : xs.length + ys.length ≤ 140737488355328) :
    Calls Tryd.prog 90 #[.slice (some ⟨g, 0, none⟩) 2 2] w (Fresh w (xs ++ ys)) := by
  obtain ⟨a1, c1, rfl, _, _⟩ := Sl.shape hx
  obtain ⟨a2, c2, rfl, _, _⟩ := Sl.shape hy
  have hg : g < w.heap.size := World.block_lt_of_cell? w _ h1
  have HX := Lib.hid hx; have HY := Lib.hid hy; clear hx hy
  have hgr : ∀ w1, Calls Tryd.prog 96 #[.slice none 0 0, .int .i64 ((xs.length : Int) + (ys.length : Int))] w1 (Fresh w1 []) := fun w1 => by
    have h := grow_any (xs.length + ys.length) w1 hl
    rw [show ((xs.length + ys.length : Nat) : Int) = (xs.length : Int) + (ys.length : Int) by omega] at h
    exact h
  have HGR := Lib.hid hgr; clear hgr
  go_enter Tryd.func90, Tryd.ntmps90
  go_wp2
  refine wp_loop_rounds 3 ?_
  rw [rounds_succ]
  go_wp2
  rw [rounds_succ]
  go_wp2
  rw [rounds_succ]
  go_wp2_with (go_at_call 96; (with_reducible refine (HGR.out _).mono ?_); rintro e w1 ⟨v1, rfl, ho1, hb1⟩; obtain ⟨hc, hf⟩ := bcell hb1; have HO1 := Lib.hid ho1; have HB1 := Lib.hid hb1; clear ho1 hb1)
  refine wp_loop_rounds 3 ?_
  rw [rounds_succ]
  go_wp2_with (at_builtin; refine wpList_append_grew _ rfl (.tmp 31) (.tmp 32) 25 rfl w.heap.size 5 (.int .u8 0) 1 1 Tryd.underlying25 Tryd.infoB rfl (by decide) _ _ _ rfl HO1.out _ _ _ rfl (HX.out.below HB1.out) (oneCell_u8 _) ?c1 ?c2 HB1.out.size ?_)
  case c1 => unfold maxLen; simp; omega
  case c2 => simp; omega
  intro v2 w2 hown2 hgrow2
  have hb2 := HB1.out.trans (hgrow2.belowOwn HO1.out (Nat.le_refl _) HB1.out.size)
  obtain ⟨hc2, hf2⟩ := bcell hb2
  have ho2 := own_eq (n' := xs.length) (xs' := xs.map by8) hown2 (by simp) (by simp)
  have HB2 := Lib.hid hb2; have HO2 := Lib.hid ho2; clear hb2 ho2
  clear hown2 hgrow2 hc hf
  go_wp2_with fail
  rw [rounds_succ]
  go_wp2_with (at_builtin; refine wpList_append_grew _ rfl (.tmp 31) (.tmp 32) 25 rfl w.heap.size 5 (.int .u8 0) 1 1 Tryd.underlying25 Tryd.infoB rfl (by decide) _ _ _ rfl HO2.out _ _ _ rfl (HY.out.below HB2.out) (oneCell_u8 _) ?d1 ?d2 HB2.out.size ?_)
  case d1 => unfold maxLen; omega
  case d2 => omega
  intro v3 w3 hown3 hgrow3
  have hb3 := HB2.out.trans (hgrow3.belowOwn HO2.out (Nat.le_refl _) HB2.out.size)
  have ho3 := own_eq (n' := (xs ++ ys).length) (xs' := (xs ++ ys).map by8) hown3 (by simp) (by simp)
  have HB3 := Lib.hid hb3; have HO3 := Lib.hid ho3; clear hb3 ho3
  clear hown3 hgrow3
  go_wp2_with fail
  rw [rounds_succ]
  go_wp2_with fail
  go_ret
  exact ⟨_, rfl, HO3.out, HB3.out⟩
end Go.Proofs.YtfhkmmagpnojmaaDoor
