/- Several texts under one header: Comp, Sched, RefComp, Start, Check, Absorb, Blocks, Pad, Concat. No condition but those that each names. -/
import Derived.Test.YtfhkmmagpnojmaaDoorBd
import Derived.Test.YtfhkmmagpnojmaaDoorBa
import Derived.StillTailTactics
import Derived.Deep.RegionLaw
import Derived.Deep.RegionHeld3
import Derived.Laws.ResultCell
import Derived.Laws.Cover3
import Derived.Lib.AppendZerosOnto
set_option linter.unusedSimpArgs false
set_option linter.unusedVariables false

/- The compression of a block: what digest.Compress returns; new memory alone. -/
namespace Go.Proofs.YtfhkmmagpnojmaaDoor
open Go.RowKit

theorem forget {P : Program} {c : Code} {Q : Exit → Act → World → Prop} {a : Act} (F : World → Prop) {w : World} (hf : F w) (h : ∀ w, F w → c.wp P Q a w) : c.wp P Q a w := h w hf

theorem push_at : ∀ (l : List Obj) (h : Array Obj) (i : Nat) (o : Obj), l[i]? = some o → (l.foldl Array.push h)[h.size + i]? = some o
  | [], _, _, _, hi => by simp at hi
  | x :: l, h, 0, o, hi => by
    have hx : x = o := by simpa using hi
    subst hx
    have old : ∀ (l : List Obj) (g : Array Obj) (j : Nat), j < g.size → (l.foldl Array.push g)[j]? = g[j]? := by
      intro l
      induction l with
      | nil => intro g j _; rfl
      | cons y l ih => intro g j hj; rw [List.foldl_cons, ih _ _ (by simp; omega), Array.getElem?_push, if_neg (by omega)]
    rw [List.foldl_cons, old l _ _ (by simp)]
    simp
  | x :: l, h, i + 1, o, hi => by
    have := push_at l (h.push x) i o (by simpa using hi)
    rw [List.foldl_cons]
    simpa [Nat.add_comm, Nat.add_left_comm, Nat.add_assoc] using this

theorem cell_row {w : World} {g : Nat} {cur : Array Value} {e : TypeId} {fr : Nat × Nat} (h : w.heap[g]? = some (.cells cur e fr)) (j : Nat) : w.cell? ⟨g, j, none⟩ = cur[j]? := by
  exact cell_of_row w g j cur e fr h

/-- Eight words as a value. -/
def aggS (s : St) : Value := .agg #[U32 s.a, U32 s.b, U32 s.c, U32 s.d, U32 s.e, U32 s.f, U32 s.g, U32 s.h]

/-- Eight words as a block's cells. -/
def cellsS (s : St) : Array Value := #[U32 s.a, U32 s.b, U32 s.c, U32 s.d, U32 s.e, U32 s.f, U32 s.g, U32 s.h]

/-- The words that are known, and zeros behind them, as a block's cells. -/
def cellsW (ws : List UInt32) : Array Value := ((ws ++ List.replicate (64 - ws.length) 0).map U32).toArray

/-- What the first part of Compress has laid. -/
structure CompF (w : World) (s : St) (b : List UInt8) (B0 B1 B2 B3 B5 B7 B9 B11 : Nat) (w1 : World) : Prop where
  below : Below w.heap.size w w1
  st : w1.heap[B0]? = some (.cells (cellsS s) 135 (0, 0))
  blk : w1.heap[B1]? = some (.cells (b.map by8).toArray 175 (0, 0))
  res : w1.heap[B2]? = some (.cells (cellsS ⟨0, 0, 0, 0, 0, 0, 0, 0⟩) 135 (0, 0))
  ww : w1.heap[B3]? = some (.cells (cellsW []) 178 (0, 0))
  m5 : MixBox w1 B5 [7, 18]
  m7 : MixBox w1 B7 [17, 19]
  m9 : MixBox w1 B9 [2, 13, 22]
  m11 : MixBox w1 B11 [6, 11, 25]
  ne : B0 = w.heap.size ∧ B1 = B0 + 1 ∧ B2 = B1 + 1 ∧ B3 = B2 + 1 ∧ B5 = B3 + 2 ∧ B7 = B5 + 2 ∧ B9 = B7 + 2 ∧ B11 = B9 + 2 ∧ w1.heap.size = B11 + 1

theorem mixBox_of {w : World} {bx g : Nat} {ns : List Nat} (hgb : g < bx) (ok : ∀ n ∈ ns, 1 ≤ n ∧ n ≤ 31) (len : ns.length ≤ 1000) (h1 : w.heap[bx]? = some (.cells #[.slice (some ⟨g, 0, none⟩) ns.length ns.length] 182 (0, 0)))
    (h2 : w.heap[g]? = some (.cells (ns.map fun (n : Nat) => Value.int .i64 (n : Int)).toArray 3 (0, 0))) : MixBox w bx ns :=
  ⟨ok, len, g, hgb, by rw [cell_row h1]; rfl, fun i hi => by rw [cell_row h2]; simp [hi]⟩

theorem compF_of (w : World) (s : St) (b : List UInt8) (o0 o1 o2 o3 o4 o5 o6 o7 o8 o9 o10 o11 : Obj)
    (h0 : o0 = .cells (cellsS s) 135 (0, 0)) (h1 : o1 = .cells (b.map by8).toArray 175 (0, 0)) (h2 : o2 = .cells (cellsS ⟨0, 0, 0, 0, 0, 0, 0, 0⟩) 135 (0, 0)) (h3 : o3 = .cells (cellsW []) 178 (0, 0))
    (h4 : o4 = .cells #[.int .i64 7, .int .i64 18] 3 (0, 0)) (h5 : o5 = .cells #[.slice (some ⟨w.heap.size + 1 + 1 + 1 + 1, 0, none⟩) 2 2] 182 (0, 0))
    (h6 : o6 = .cells #[.int .i64 17, .int .i64 19] 3 (0, 0)) (h7 : o7 = .cells #[.slice (some ⟨w.heap.size + 1 + 1 + 1 + 1 + 1 + 1, 0, none⟩) 2 2] 182 (0, 0))
    (h8 : o8 = .cells #[.int .i64 2, .int .i64 13, .int .i64 22] 3 (0, 0)) (h9 : o9 = .cells #[.slice (some ⟨w.heap.size + 1 + 1 + 1 + 1 + 1 + 1 + 1 + 1, 0, none⟩) 3 3] 182 (0, 0))
    (h10 : o10 = .cells #[.int .i64 6, .int .i64 11, .int .i64 25] 3 (0, 0)) (h11 : o11 = .cells #[.slice (some ⟨w.heap.size + 1 + 1 + 1 + 1 + 1 + 1 + 1 + 1 + 1 + 1, 0, none⟩) 3 3] 182 (0, 0)) :
    CompF w s b (w.heap.size) (w.heap.size + 1) (w.heap.size + 1 + 1) (w.heap.size + 1 + 1 + 1) (w.heap.size + 1 + 1 + 1 + 1 + 1) (w.heap.size + 1 + 1 + 1 + 1 + 1 + 1 + 1) (w.heap.size + 1 + 1 + 1 + 1 + 1 + 1 + 1 + 1 + 1) (w.heap.size + 1 + 1 + 1 + 1 + 1 + 1 + 1 + 1 + 1 + 1 + 1) ((((((((((((w.alloc o0).alloc o1).alloc o2).alloc o3).alloc o4).alloc o5).alloc o6).alloc o7).alloc o8).alloc o9).alloc o10).alloc o11) := by
  have hh : ((((((((((((w.alloc o0).alloc o1).alloc o2).alloc o3).alloc o4).alloc o5).alloc o6).alloc o7).alloc o8).alloc o9).alloc o10).alloc o11).heap = [o0, o1, o2, o3, o4, o5, o6, o7, o8, o9, o10, o11].foldl Array.push w.heap := rfl
  have at' : ∀ (i : Nat) (o : Obj), [o0, o1, o2, o3, o4, o5, o6, o7, o8, o9, o10, o11][i]? = some o → ((((((((((((w.alloc o0).alloc o1).alloc o2).alloc o3).alloc o4).alloc o5).alloc o6).alloc o7).alloc o8).alloc o9).alloc o10).alloc o11).heap[w.heap.size + i]? = some o := fun i o h => by rw [hh]; exact push_at _ w.heap i o h
  subst h0; subst h1; subst h2; subst h3; subst h4; subst h5; subst h6; subst h7; subst h8; subst h9; subst h10; subst h11
  refine ⟨?_, at' 0 _ rfl, at' 1 _ rfl, at' 2 _ rfl, at' 3 _ rfl, mixBox_of (by omega) (by decide) (by decide) (at' 5 _ rfl) (at' 4 _ rfl), mixBox_of (by omega) (by decide) (by decide) (at' 7 _ rfl) (at' 6 _ rfl), mixBox_of (by omega) (by decide) (by decide) (at' 9 _ rfl) (at' 8 _ rfl), mixBox_of (by omega) (by decide) (by decide) (at' 11 _ rfl) (at' 10 _ rfl), ?_⟩
  · refine (((((((((((((Below.refl _ _).alloc ?_ _).alloc ?_ _).alloc ?_ _).alloc ?_ _).alloc ?_ _).alloc ?_ _).alloc ?_ _).alloc ?_ _).alloc ?_ _).alloc ?_ _).alloc ?_ _).alloc ?_ _)
    all_goals (simp <;> omega)
  · simp <;> omega

theorem cellsW_size (ws : List UInt32) (h : ws.length ≤ 64) : (cellsW ws).size = 64 := by simp [cellsW]; omega

theorem cellsW_get (ws : List UInt32) (j : Nat) (h : j < ws.length) : (cellsW ws)[j]? = some (U32 (ws.getD j 0)) := by
  simp only [cellsW, List.getElem?_toArray, List.getElem?_map]
  rw [List.getElem?_append_left h, List.getElem?_eq_getElem h]
  simp [List.getD, h]

theorem cellsW_any (ws : List UInt32) (j : Nat) (h : j < 64) (hw : ws.length ≤ 64) : ∃ x, (cellsW ws)[j]? = some x := ⟨_, Array.getElem?_eq_getElem (by rw [cellsW_size ws hw]; exact h)⟩

theorem cellsW_set (ws : List UInt32) (x : UInt32) (h : ws.length < 64) : (cellsW ws).setIfInBounds ws.length (U32 x) = cellsW (ws ++ [x]) := by
  apply Array.ext'
  simp only [cellsW, Array.toList_setIfInBounds, List.map_append, List.map_replicate, List.length_append, List.length_cons, List.length_nil]
  rw [List.set_append_right _ _ (by simp)]
  obtain ⟨m, hm⟩ : ∃ m, 64 - ws.length = m + 1 := ⟨63 - ws.length, by omega⟩
  have hm2 : 64 - (ws.length + 1) = m := by omega
  rw [Nat.zero_add, hm, hm2]
  simp [List.replicate_succ]

theorem store_W {w : World} {g : Nat} {ws : List UInt32} (h : w.heap[g]? = some (.cells (cellsW ws) 178 (0, 0))) (x : UInt32) (hl : ws.length < 64) (k : Nat) (hk : k = ws.length) :
    (w.setCell ⟨g, k, none⟩ (U32 x)).heap[g]? = some (.cells (cellsW (ws ++ [x])) 178 (0, 0)) := by
  subst hk
  rw [heap_setCell_same w g _ _ _ _ h, cellsW_set ws x hl]

theorem frozen_row {w : World} {g : Nat} {cur : Array Value} {e : TypeId} (h : w.heap[g]? = some (.cells cur e (0, 0))) (j : Nat) : w.frozen? ⟨g, j, none⟩ = false := by
  simp [World.frozen?, h]

theorem grown_set {w1 wr : World} {g : Nat} (h : w1.grownBy wr (some g)) (j : Nat) (u : Value) : w1.grownBy (wr.setCell ⟨g, j, none⟩ u) (some g) :=
  ⟨h.os, h.tape, h.output, by simpa [World.setCell] using h.size, fun k hk hne => by
    rw [Below.heap_setCell _ _ _ _ (by intro e; exact hne (by rw [e]))]
    exact h.block k hk hne⟩

theorem grown_drew {w1 wr : World} {row : Option Nat} (h : w1.grownBy wr row) : w1.grownBy wr.drew row := ⟨h.os, h.tape, h.output, h.size, h.block⟩

theorem word_bs {w : World} {g : Nat} {b : List UInt8} (h : w.heap[g]? = some (.cells (b.map by8).toArray 175 (0, 0))) (hb : b.length = 64) (k : Nat) (hk : k < 16) :
    Bs w (.slice (some ⟨g, 4 * k, none⟩) 4 (64 - 4 * k)) ((b.drop (4 * k)).take 4) := by
  have hl : ((b.drop (4 * k)).take 4).length = 4 := by simp; omega
  have := Bs.mk (w := w) (xs := (b.drop (4 * k)).take 4) (b := g) (off := 4 * k) (cap := 64 - 4 * k) (by rw [hl]; omega) (by unfold maxLen; omega) (fun i hi => by
    rw [cell_row h]
    rw [hl] at hi
    simp [List.getElem?_map, show 4 * k + i < b.length by omega])
  rw [hl] at this
  exact this

theorem u32_word (n : Nat) : Value.int .u32 ((n : Int) % 4294967296) = U32 (UInt32.ofNat n) := by
  unfold U32
  rw [UInt32.toNat_ofNat']
  rfl

theorem slice_blk (g k : Nat) (hk : k < 16) (w : World) :
    (Instr.sliceAt 175 (.pointer (some ⟨g, 0, none⟩)) (some (.int .i64 (4 * (k : Int)))) (some (.int .i64 (4 * (k : Int) + 4))) none).run Tryd.prog w = .ok (.slice (some ⟨g, 4 * k, none⟩) 4 (64 - 4 * k)) w := by
  have hal : Tryd.prog.arrayLen 175 = 64 := by kernel_rfl
  have hel : Tryd.prog.elem 175 = 5 := by kernel_rfl
  have ht : Tryd.prog.underlying 175 = some (.array (Tryd.prog.arrayLen 175) (Tryd.prog.elem 175)) := by rw [hal, hel]; exact Tryd.underlying175
  have hs : (sizeOf 5).run Tryd.prog w = .ok 1 w := by kernel_rfl
  rw [run_sliceAt_array_lh w 175 ⟨g, 0, none⟩ ht .i64 .i64 (4 * (k : Int)) (4 * (k : Int) + 4) (by omega) (by omega) (by rw [hal]; omega), hal, hel, hs]
  have e1 : (4 * (k : Int)).toNat = 4 * k := by omega
  have e2 : (4 * (k : Int) + 4).toNat = 4 * k + 4 := by omega
  have e3 : ¬ (64 = 4 * k) := by omega
  simp only [Result.andThen, slicedAt, e1, e2, if_neg e3, Nat.mul_one, Addr.add_lit, Nat.zero_add, Nat.add_sub_cancel_left]

theorem MixBox.kept {w1 wr : World} {bx B3 : Nat} {ns : List Nat} (h : MixBox w1 bx ns) (hg : w1.grownBy wr (some B3)) (hw : w1.heap[B3]? = some (.cells (cellsW []) 178 (0, 0))) (hbx : bx ≠ B3) : MixBox wr bx ns := by
  obtain ⟨ok, len, g, hlt', h1, h2⟩ := h
  refine ⟨ok, len, g, hlt', hg.cell h1 (by simp; omega), fun i hi => ?_⟩
  have hi' := h2 i hi
  refine hg.cell hi' ?_
  intro e
  have e' : g = B3 := by simpa using e
  subst e'
  rw [cell_row hw] at hi'
  have hlt : i < 64 := by
    rcases Nat.lt_or_ge i 64 with h | h
    · exact h
    · rw [Array.getElem?_eq_none (by rw [cellsW_size [] (by decide)]; exact h)] at hi'; cases hi'
  have : (cellsW [])[i]? = some (U32 0) := by
    simp only [cellsW, List.getElem?_toArray, List.getElem?_map, List.nil_append, List.length_nil, Nat.sub_zero, List.getElem?_replicate, if_pos hlt, Option.map_some]
  rw [this] at hi'
  simp [U32] at hi'

theorem idx_k (KC : Array Value) (hKC : KC = (kTab.map U32).toArray) (i : Nat) (hi : i < 64) (w : World) :
    (Instr.index 178 (.agg KC) (.int .i64 (i : Int))).run Tryd.prog w = .ok (U32 (kTab.getD i 0)) w := by
  have hu := run_underlying (P := Tryd.prog) (t := 178) Tryd.underlying178
  have hs : (sizeOf 38).run Tryd.prog w = .ok 1 w := by kernel_rfl
  have ha : (isAgg 38).run Tryd.prog w = .ok false w := by kernel_rfl
  have hl : kTab.length = 64 := by decide
  have hc : KC[i]? = some (U32 (kTab.getD i 0)) := by
    rw [hKC]
    simp [List.getD, show i < kTab.length by omega]
  simp [Instr.index, hu, asIntOf, hi, hs, part, ha, hc]

theorem MixBox.drewN {w : World} {bx : Nat} {ns : List Nat} (h : MixBox w bx ns) (n : Nat) : MixBox (w.drewN n) bx ns := ⟨h.ok, h.len, h.at'⟩

theorem cells_of {w : World} {g : Nat} {v : St} (h : w.heap[g]? = some (.cells (cellsS v) 135 (0, 0))) :
    w.cell? ⟨g, 0, none⟩ = some (U32 v.a) ∧ w.cell? ⟨g, 1, none⟩ = some (U32 v.b) ∧ w.cell? ⟨g, 2, none⟩ = some (U32 v.c) ∧ w.cell? ⟨g, 3, none⟩ = some (U32 v.d) ∧
    w.cell? ⟨g, 4, none⟩ = some (U32 v.e) ∧ w.cell? ⟨g, 5, none⟩ = some (U32 v.f) ∧ w.cell? ⟨g, 6, none⟩ = some (U32 v.g) ∧ w.cell? ⟨g, 7, none⟩ = some (U32 v.h) :=
  ⟨cell_row h 0, cell_row h 1, cell_row h 2, cell_row h 3, cell_row h 4, cell_row h 5, cell_row h 6, cell_row h 7⟩

theorem copy_src {w : World} {g : Nat} {v : St} (h : w.heap[g]? = some (.cells (cellsS v) 135 (0, 0))) (j : Nat) (x : Value) (hj : [U32 v.a, U32 v.b, U32 v.c, U32 v.d, U32 v.e, U32 v.f, U32 v.g][j]? = some x) :
    w.cell? ((⟨g, 0, none⟩ : Addr).add j) = some x := by
  have hadd : (⟨g, 0, none⟩ : Addr).add j = ⟨g, j, none⟩ := by unfold Addr.add; split <;> simp_all
  have hl : j < 7 := by
    have := (List.getElem?_eq_some_iff.1 hj).1
    simpa using this
  rw [hadd, cell_row h]
  have e : (cellsS v)[j]? = ([U32 v.a, U32 v.b, U32 v.c, U32 v.d, U32 v.e, U32 v.f, U32 v.g] ++ [U32 v.h])[j]? := by simp [cellsS]
  rw [e, List.getElem?_append_left (by simpa using hl)]
  exact hj

theorem oneCell_seven (v : St) : ∀ u ∈ [U32 v.a, U32 v.b, U32 v.c, U32 v.d, U32 v.e, U32 v.f, U32 v.g], u.oneCell' = true := by
  intro u hu
  simp only [List.mem_cons, List.not_mem_nil, or_false] at hu
  rcases hu with rfl | rfl | rfl | rfl | rfl | rfl | rfl <;> rfl

/-- Two states' sums, the first i words of them, as a block's cells. -/
def cellsP (s v : St) (i : Nat) : Array Value := ((List.range 8).map fun j => U32 (if j < i then s.list.getD j 0 + v.list.getD j 0 else s.list.getD j 0)).toArray

theorem cellsP_zero (s v : St) : cellsP s v 0 = cellsS s := rfl
theorem cellsP_eight (s v : St) : cellsP s v 8 = cellsS (addS s v) := rfl
theorem cellsP_size (s v : St) (i : Nat) : (cellsP s v i).size = 8 := by simp [cellsP]
theorem cellsP_get (s v : St) (i : Nat) (hi : i < 8) : (cellsP s v i)[i]? = some (U32 (s.list.getD i 0)) := by
  simp [cellsP, hi]
theorem cellsS_get (v : St) (i : Nat) (hi : i < 8) : (cellsS v)[i]? = some (U32 (v.list.getD i 0)) := by
  rw [← cellsP_zero v v]
  simp [cellsP, hi]
theorem cellsP_set (s v : St) (i : Nat) (hi : i < 8) : (cellsP s v i).setIfInBounds i (U32 (s.list.getD i 0 + v.list.getD i 0)) = cellsP s v (i + 1) := by
  apply Array.ext'
  simp only [cellsP, Array.toList_setIfInBounds]
  apply List.ext_getElem?
  intro j
  rw [List.getElem?_set]
  by_cases hj : i = j
  · subst hj
    simp [hi]
  · rw [if_neg hj]
    by_cases hj8 : j < 8
    · simp only [List.getElem?_map, List.getElem?_range hj8, Option.map_some]
      congr 2
      by_cases h : j < i
      · rw [if_pos h, if_pos (by omega)]
      · rw [if_neg h, if_neg (by omega)]
    · rw [List.getElem?_eq_none (by simp; omega), List.getElem?_eq_none (by simp; omega)]

/-- What stands when the rounds begin. -/
structure CompG (w : World) (s : St) (b : List UInt8) (B2 B3 B9 B11 BV : Nat) (w2 : World) : Prop where
  below : Below w.heap.size w w2
  st : w2.heap[w.heap.size]? = some (.cells (cellsS s) 135 (0, 0))
  res : w2.heap[B2]? = some (.cells (cellsS ⟨0, 0, 0, 0, 0, 0, 0, 0⟩) 135 (0, 0))
  ww : w2.heap[B3]? = some (.cells (cellsW (schedW b 64)) 178 (0, 0))
  vv : w2.heap[BV]? = some (.cells (cellsS s) 135 (0, 0))
  m9 : MixBox w2 B9 [2, 13, 22]
  m11 : MixBox w2 B11 [6, 11, 25]
  ne : w.heap.size < B2 ∧ B2 < B3 ∧ B3 < B9 ∧ B9 < B11 ∧ B11 < BV ∧ w2.heap.size = BV + 1

theorem compG_of {w w1 wr w2 : World} {s : St} {b : List UInt8} {B1 B2 B3 B5 B7 B9 B11 : Nat} (hF : CompF w s b w.heap.size B1 B2 B3 B5 B7 B9 B11 w1) (hw : wr.heap[B3]? = some (.cells (cellsW (schedW b 64)) 178 (0, 0)))
    (hg : w1.grownBy wr (some B3)) (o : Obj) (h2 : w2 = (wr.alloc o).setRow wr.heap.size (cellsS s)) (ho : ∃ c, o = .cells c 135 (0, 0)) : CompG w s b B2 B3 B9 B11 wr.heap.size w2 := by
  obtain ⟨c, rfl⟩ := ho
  have hne := hF.ne
  have hsz := hg.size
  have old : ∀ j, j < wr.heap.size → w2.heap[j]? = wr.heap[j]? := fun j hj => by rw [h2]; exact (setRow_other _ _ j _ (by omega)).trans (Below.heap_alloc wr _ j hj)
  have keep : ∀ j, j < w1.heap.size → j ≠ B3 → w2.heap[j]? = w1.heap[j]? := fun j hj h => (old j (by omega)).trans (hg.block j hj (by simpa using h))
  have hs2 : w2.heap.size = wr.heap.size + 1 := by rw [h2]; simp
  have hb2 : Below wr.heap.size wr w2 := ⟨by rw [h2]; rfl, by rw [h2]; rfl, by rw [h2]; rfl, by omega, old⟩
  have b1r : Below w.heap.size w1 wr := (Below.refl _ _).grown hg (by omega) (fun k hk => by simp at hk; omega)
  refine ⟨(hF.below.trans b1r).trans (hb2.mono (by omega)), (keep _ (by omega) (by omega)).trans hF.st, (keep _ (by omega) (by omega)).trans hF.res, (old _ (by omega)).trans hw, ?_, (hF.m9.kept hg hF.ww (by omega)).below hb2, (hF.m11.kept hg hF.ww (by omega)).below hb2, by omega⟩
  rw [h2]
  exact setRow_heap _ _ _ _ _ _ (heap_alloc_new wr _)

/-- copy into a row, as one step of a region that draws its order. -/
theorem step_copy_row {P : Program} {ops : Array Oper} {o : Oper} {a : Act} {w : World} {K : Act → World → Prop} {Q : Exit → Act → World → Prop} {E : Prop} (hgd : o.guard = none) (d s : Operand) (dT sT : TypeId)
    (ho : o.op = .call { callee := .builtin .copy, args := #[d, s], argTypes := #[dT, sT] }) (elem : TypeId) (hu : P.underlying dT = some (.slice elem)) (hsz : (P.info? elem).map (·.size) = some 1)
    (g off dLen dCap sLen sCap : Nat) (ad : Addr) (hd : a.eval d = .slice (some ⟨g, off, none⟩) dLen dCap) (hs : a.eval s = .slice (some ad) sLen sCap)
    (cur : Array Value) (t : TypeId) (hg : w.heap[g]? = some (.cells cur t (0, 0))) (cs : List Value) (hn : cs.length = Nat.min sLen dLen)
    (hsrc : ∀ j v, cs[j]? = some v → w.cell? (ad.add j) = some v) (hfit : off + cs.length ≤ cur.size) (h1 : ∀ v ∈ cs, v.oneCell' = true)
    (h : ∀ w', w'.heap[g]? = some (.cells (cur.toList.take off ++ cs ++ cur.toList.drop (off + cs.length)).toArray t (0, 0)) → w.grownBy w' (some g) → K (a.put o.dst (goInt cs.length)) w') :
    if Region.wanted o (yielded ops a.tmps) = true then Oper.wp P o a w K Q else E := by
  rw [if_pos (by simp [Region.wanted, hgd])]
  have hrun := run_copy_row (P := P) w dT sT o.type elem g off dLen dCap ad sLen sCap cur t cs hu hsz hg hn hsrc hfit h1
  unfold Oper.wp
  simp only [execOp, ho, resolve, invoke, builtin, Sem.run_bind, Sem.run_pure, Result.andThen_ok, List.map_toArray, List.map_cons, List.map_nil, hd, hs, hrun]
  exact h _ (setRow_heap _ _ _ _ _ _ hg) ⟨rfl, rfl, rfl, by simp, fun k _ hk => setRow_other w g k _ (fun e => hk (by rw [e]))⟩

set_option maxRecDepth 20000 in
set_option maxHeartbeats 8000000 in
theorem compress_any (kt : TypeId) (kf : Nat × Nat) (s : St) (b : List UInt8) (w : World) (hb : b.length = 64) (hK : w.heap[0]? = some (.cells (kTab.map U32).toArray kt kf)) (h0 : 0 < w.heap.size) :
    Calls Tryd.prog 95 #[.agg #[U32 s.a, U32 s.b, U32 s.c, U32 s.d, U32 s.e, U32 s.f, U32 s.g, U32 s.h], .agg (b.map by8).toArray] w fun e w' => e = .returned (aggS (compS s b)) ∧ Below w.heap.size w w' := by
  obtain ⟨C, hC⟩ : ∃ C, C = (b.map by8).toArray := ⟨_, rfl⟩
  rw [← hC]
  have HC := Lib.hid hC; have HBL := Lib.hid hb; have HK := Lib.hid hK; clear hC hb hK
  go_enter Tryd.func95, Tryd.ntmps95
  go_wp2_with (go_at_call 99; refine (mixed_any _ _ _ _).mono ?_; rintro e w' ⟨rfl, rfl⟩)
  refine forget (CompF w s b w.heap.size (w.heap.size + 1) (w.heap.size + 1 + 1) (w.heap.size + 1 + 1 + 1) (w.heap.size + 1 + 1 + 1 + 1 + 1) (w.heap.size + 1 + 1 + 1 + 1 + 1 + 1 + 1) (w.heap.size + 1 + 1 + 1 + 1 + 1 + 1 + 1 + 1 + 1) (w.heap.size + 1 + 1 + 1 + 1 + 1 + 1 + 1 + 1 + 1 + 1 + 1)) ?_ ?_
  · exact compF_of w s b _ _ _ _ _ _ _ _ _ _ _ _ rfl (by rw [HC.out]) rfl kR rfl rfl rfl rfl rfl rfl rfl rfl
  intro w1 hF
  generalize w.heap.size + 1 + 1 + 1 + 1 + 1 + 1 + 1 + 1 + 1 + 1 + 1 = B11 at hF ⊢
  generalize w.heap.size + 1 + 1 + 1 + 1 + 1 + 1 + 1 + 1 + 1 + 1 = B10
  generalize w.heap.size + 1 + 1 + 1 + 1 + 1 + 1 + 1 + 1 + 1 = B9 at hF ⊢
  generalize w.heap.size + 1 + 1 + 1 + 1 + 1 + 1 + 1 + 1 = B8
  generalize w.heap.size + 1 + 1 + 1 + 1 + 1 + 1 + 1 = B7 at hF ⊢
  generalize w.heap.size + 1 + 1 + 1 + 1 + 1 + 1 = B6
  generalize w.heap.size + 1 + 1 + 1 + 1 + 1 = B5 at hF ⊢
  generalize w.heap.size + 1 + 1 + 1 + 1 = B4
  generalize w.heap.size + 1 + 1 + 1 = B3 at hF ⊢
  generalize w.heap.size + 1 + 1 = B2 at hF ⊢
  generalize w.heap.size + 1 = B1 at hF ⊢
  have HF := Lib.hid hF; clear hF
  go_loopw [25] (fun i wr => ∃ k : Nat, k ≤ 64 ∧ i = .int .i64 (k : Int) ∧ wr.heap[B3]? = some (.cells (cellsW (schedW b k)) 178 (0, 0)) ∧ w1.grownBy wr (some B3)) (fun i _ => 64 - (intOf i).toNat)
  case atStart => exact ⟨0, by omega, rfl, HF.out.ww, World.grownBy.refl _ _⟩
  case round =>
    obtain ⟨k, hk, rfl, hw, hg⟩ := hrel
    have HW := Lib.hid hw; have HG := Lib.hid hg; clear hw hg
    by_cases hlt : k < 64
    · obtain ⟨old, hold⟩ := cellsW_any (schedW b k) k hlt (by rw [schedW_length]; omega)
      have hcell : wr.cell? ⟨B3, k, none⟩ = some old := (cell_row HW.out k).trans hold
      have hfro := frozen_row HW.out k
      clear hold
      by_cases h16 : k < 16
      · have hblk : wr.heap[B1]? = some (.cells (b.map by8).toArray 175 (0, 0)) := by
          have hne := HF.out.ne
          rw [HG.out.block B1 (by omega) (by simp; omega)]; exact HF.out.blk
        have hbs := word_bs hblk HBL.out k h16
        have HB := Lib.hid hbs; clear hbs hblk
        have hsl := fun wx => slice_blk B1 k h16 wx
        have hl4 : ((b.drop (4 * k)).take 4).length ≤ 8 := by simp; omega
        have HL4 := Lib.hid hl4; clear hl4
        go_wp2_with (go_at_call 94; refine (take_any _ ((b.drop (4 * k)).take 4) _ HB.out HL4.out).mono ?_; rintro e w' ⟨rfl, rfl⟩)
        go_roundw
        case rel =>
          have hst := store_W HW.out (wordB b k) (by rw [schedW_length]; exact hlt) k (by rw [schedW_length])
          rw [u32_word]
          refine ⟨k + 1, by omega, by go_num, ?_, grown_set HG.out _ _⟩
          simp only [schedW, if_pos h16]
          exact hst
        case measure => simp [intOf]; omega
      · have hget : ∀ j, j < k → wr.cell? ⟨B3, j, none⟩ = some (U32 ((schedW b k).getD j 0)) := fun j hj => (cell_row HW.out j).trans (cellsW_get _ j (by rw [schedW_length]; exact hj))
        have c16 := hget (k - 16) (by omega)
        have c15 := hget (k - 15) (by omega)
        have c7 := hget (k - 7) (by omega)
        have c2 := hget (k - 2) (by omega)
        have hM5 : MixBox wr.drew B5 [7, 18] := HF.out.m5.kept (grown_drew HG.out) HF.out.ww (by have := HF.out.ne; omega)
        have hM7 : MixBox wr.drew B7 [17, 19] := HF.out.m7.kept (grown_drew HG.out) HF.out.ww (by have := HF.out.ne; omega)
        have hn : nextW (schedW b k) k = nextW (schedW b k) k := rfl
        generalize hx16 : (schedW b k).getD (k - 16) 0 = x16 at c16
        generalize hx15 : (schedW b k).getD (k - 15) 0 = x15 at c15
        generalize hx7 : (schedW b k).getD (k - 7) 0 = x7 at c7
        generalize hx2 : (schedW b k).getD (k - 2) 0 = x2 at c2
        have hnx : nextW (schedW b k) k = x16 + (mixS [7, 18] x15 ^^^ (x15 >>> 3)) + x7 + (mixS [17, 19] x2 ^^^ (x2 >>> 10)) := by unfold nextW; rw [hx16, hx15, hx7, hx2]
        have HNX := Lib.hid hnx; have M5 := Lib.hid hM5; have M7 := Lib.hid hM7
        clear hnx hn hx16 hx15 hx7 hx2 hget hM5 hM7
        have w16 : IntKind.i64.wrap ((k : Int) - 16) = (k : Int) - 16 := IntWalk.i64_in _ (by omega)
        have w15 : IntKind.i64.wrap ((k : Int) - 15) = (k : Int) - 15 := IntWalk.i64_in _ (by omega)
        have w7 : IntKind.i64.wrap ((k : Int) - 7) = (k : Int) - 7 := IntWalk.i64_in _ (by omega)
        have w2 : IntKind.i64.wrap ((k : Int) - 2) = (k : Int) - 2 := IntWalk.i64_in _ (by omega)
        have l16 : (k : Int) - 16 < 64 := by omega
        have z16 : 0 ≤ (k : Int) - 16 := by omega
        have t16 : ((k : Int) - 16).toNat = k - 16 := by omega
        have l15 : (k : Int) - 15 < 64 := by omega
        have z15 : 0 ≤ (k : Int) - 15 := by omega
        have t15 : ((k : Int) - 15).toNat = k - 15 := by omega
        have l7 : (k : Int) - 7 < 64 := by omega
        have z7 : 0 ≤ (k : Int) - 7 := by omega
        have t7 : ((k : Int) - 7).toNat = k - 7 := by omega
        have l2 : (k : Int) - 2 < 64 := by omega
        have z2 : 0 ≤ (k : Int) - 2 := by omega
        have t2 : ((k : Int) - 2).toNat = k - 2 := by omega
        have l0 : (k : Int) < 64 := by omega
        have q16 : (16 : Int) ≤ (k : Int) := by omega
        have q15 : (15 : Int) ≤ (k : Int) := by omega
        have q7 : (7 : Int) ≤ (k : Int) := by omega
        have q2 : (2 : Int) ≤ (k : Int) := by omega
        have k16 : 16 ≤ k := by omega
        go_wp2_with fail
        refine wp_region_still_tail 37 kR kR ?_
        simp only [List.take_succ_cons, List.take_zero, List.drop_succ_cons, List.drop_zero]
        iterate 10 still_step
        still_call (mixc_any [7, 18] x15 B5 _ M5.out)
        iterate 17 still_step
        still_call (mixc_any [17, 19] x2 B7 _ M7.out)
        iterate 8 still_step
        refine wpStill_nil ?_
        change wpList _ _ _ _ _ wr.drew
        go_wp2
        go_roundw
        case rel =>
          have hst := store_W HW.out (nextW (schedW b k) k) (by rw [schedW_length]; exact hlt) k (by rw [schedW_length])
          rw [HNX.out] at hst
          refine ⟨k + 1, by omega, by go_num, ?_, grown_drew (grown_set HG.out _ _)⟩
          simp only [schedW, if_neg h16]
          rw [HNX.out]
          exact hst
        case measure => simp [intOf]; omega
    · obtain rfl : k = 64 := by omega
      have hne := HF.out.ne
      have hst0 : wr.heap[w.heap.size]? = some (.cells (cellsS s) 135 (0, 0)) := by rw [HG.out.block _ (by omega) (by simp; omega)]; exact HF.out.st
      have hk0 : wr.heap[0]? = some (.cells (kTab.map U32).toArray kt kf) := by rw [HG.out.block 0 (by omega) (by simp; omega)]; exact (HF.out.below.block 0 (by omega)).trans HK.out
      have hszr := HG.out.size
      have HS0 := Lib.hid hst0; have HK0 := Lib.hid hk0; have HNE := Lib.hid hne; clear hst0 hk0 hne
      have hi8 : (Tryd.prog.info? 135).map (·.size) = some (cellsS s).size := by kernel_rfl
      have HI8 := Lib.hid hi8; clear hi8
      have hkk : ∀ o, ((wr.alloc o).setRow wr.heap.size (cellsS s)).heap[0]? = some (.cells (kTab.map U32).toArray kt kf) := fun o => (setRow_other _ _ 0 _ (by have := HNE.out; omega)).trans ((Below.heap_alloc wr _ 0 (by have := HNE.out; omega)).trans HK0.out)
      have HKK := Lib.hid hkk; clear hkk
      have hz8 : (cellsS s).all (·.oneCell') = true := by simp [cellsS, U32_one]
      have hi64 : (Tryd.prog.info? 178).map (·.size) = some ((kTab.map U32).toArray).size := by kernel_rfl
      have HZ8 := Lib.hid hz8; have HI64 := Lib.hid hi64; clear hz8 hi64
      go_wp2_with (first | ((with_reducible refine iD 78 (_) ?_); refine wpList_load_row rfl 135 (.tmp 2) rfl w.heap.size rfl 135 (cellsS s) (0, 0) _ HS0.out Tryd.underlying135 rfl HI8.out ?_) | ((with_reducible refine iO none (.store 135 (.tmp 11) (.tmp 78)) ?_); refine wpList_store_row rfl 135 (.tmp 11) (.tmp 78) rfl wr.heap.size (cellsS s) rfl rfl 135 _ (heap_alloc_new wr _) HI8.out rfl HZ8.out ?_) | ((with_reducible refine iD 79 (_) ?_); refine wpList_load_row rfl 178 (.global 0) rfl 0 rfl kt (kTab.map U32).toArray kf _ (HKK.out _) Tryd.underlying178 rfl HI64.out ?_))
      refine forget (CompG w s b B2 B3 B9 B11 wr.heap.size) (compG_of HF.out HW.out HG.out _ rfl ⟨_, rfl⟩) ?_
      intro w2 hG2
      generalize wr.heap.size = BV at hG2 ⊢
      have HH := Lib.hid hG2
      clear hG2 HF HW HG HS0 HK0 HNE hszr
      have hidx : ∀ i : Nat, i < 64 → ∀ w', (Instr.index 178 (.agg (kTab.map U32).toArray) (.int .i64 (i : Int))).run Tryd.prog w' = .ok (U32 (kTab.getD i 0)) w' := fun i hi w' => idx_k _ rfl i hi w'
      generalize (kTab.map U32).toArray = KC at hidx ⊢
      have HIDX := Lib.hid hidx; clear hidx
      go_loopw [80] (fun t wr => ∃ i : Nat, i ≤ 64 ∧ t = .int .i64 (i : Int) ∧ wr.heap[BV]? = some (.cells (cellsS (roundsR (schedW b 64) s i)) 135 (0, 0)) ∧ w2.grownBy wr (some BV)) (fun t _ => 64 - (intOf t).toNat)
      case atStart => exact ⟨0, by omega, rfl, HH.out.vv, World.grownBy.refl _ _⟩
      case round =>
        obtain ⟨i, hi, rfl, hv, hg⟩ := hrel
        by_cases hlt : i < 64
        · have hki := HIDX.out i hlt
          obtain ⟨v, hvv⟩ : ∃ v, v = roundsR (schedW b 64) s i := ⟨_, rfl⟩
          rw [← hvv] at hv
          have hne := HH.out.ne
          have hww : wr.heap[B3]? = some (.cells (cellsW (schedW b 64)) 178 (0, 0)) := by rw [hg.block B3 (by omega) (by simp; omega)]; exact HH.out.ww
          have cw : wr.cell? ⟨B3, i, none⟩ = some (U32 ((schedW b 64).getD i 0)) := (cell_row hww i).trans (cellsW_get _ i (by rw [schedW_length]; exact hlt))
          have hm9 := HH.out.m9.row hg (by omega)
          have hm11 := HH.out.m11.row hg (by omega)
          obtain ⟨c0, c1, c2, c3, c4, c5, c6, c7⟩ := cells_of hv
          obtain ⟨wi, hwi⟩ : ∃ wi, wi = (schedW b 64).getD i 0 := ⟨_, rfl⟩
          rw [← hwi] at cw
          obtain ⟨ki, hkk⟩ : ∃ ki, ki = kTab.getD i 0 := ⟨_, rfl⟩
          rw [← hkk] at hki
          have hst : stepR v ki wi = roundsR (schedW b 64) s (i + 1) := by rw [hvv, hkk, hwi]; rfl
          have M9 := Lib.hid hm9; have M11 := Lib.hid hm11; have HV := Lib.hid hv; have HG := Lib.hid hg; have HST := Lib.hid hst; have HNE := Lib.hid hne
          clear hm9 hm11 hv hg hst hne hvv hwi hkk hww
          have l0 : (i : Int) < 64 := by omega
          go_wp2_with fail
          go_quiet ((go_at_call 101; exact Calls.quiet_of_same (mixc_any [6, 11, 25] v.e B11 _ (M11.out.drewN _))))
          go_wp2_with fail
          have hvq : (wr.drewN nq).heap[BV]? = some (.cells (cellsS v) 135 (0, 0)) := HV.out
          have hgq : w2.grownBy (wr.drewN nq) (some BV) := ⟨HG.out.os, HG.out.tape, HG.out.output, HG.out.size, HG.out.block⟩
          have m9q := M9.out.drewN nq
          clear HV HG M9 M11 cw hki
          generalize wr.drewN nq = wq at hvq hgq m9q ⊢
          clear c0 c1 c2 c3 c4 c5 c6 c7
          obtain ⟨c0, c1, c2, c3, c4, c5, c6, c7⟩ := cells_of hvq
          have HV := Lib.hid hvq; have HG := Lib.hid hgq; have M9 := Lib.hid m9q; clear hvq hgq m9q
          go_quiet ((go_at_call 101; exact Calls.quiet_of_same (mixc_any [2, 13, 22] v.a B9 _ (M9.out.drewN _))))
          go_wp2_with fail
          have hvq : (wq.drewN nq).heap[BV]? = some (.cells (cellsS v) 135 (0, 0)) := HV.out
          have hgq : w2.grownBy (wq.drewN nq) (some BV) := ⟨HG.out.os, HG.out.tape, HG.out.output, HG.out.size, HG.out.block⟩
          clear HV HG M9
          generalize wq.drewN nq = wp at hvq hgq ⊢
          clear c0 c1 c2 c3 c4 c5 c6 c7
          have hsrc : ∀ j x, [U32 v.a, U32 v.b, U32 v.c, U32 v.d, U32 v.e, U32 v.f, U32 v.g][j]? = some x → wp.drew.cell? ((⟨BV, 0, none⟩ : Addr).add j) = some x := fun j x hj => copy_src hvq j x hj
          have hsz22 : (Tryd.prog.info? 38).map (·.size) = some 1 := by kernel_rfl
          have HV := Lib.hid hvq; have HG := Lib.hid hgq; have HSRC := Lib.hid hsrc; have HSZ := Lib.hid hsz22; clear hvq hgq hsrc hsz22
          go_region_law (refine step_copy_row rfl (.tmp 132) (.tmp 133) 181 181 rfl 38 Tryd.underlying181 HSZ.out BV 1 7 7 7 8 ⟨BV, 0, none⟩ rfl rfl (cellsS v) 135 HV.out [U32 v.a, U32 v.b, U32 v.c, U32 v.d, U32 v.e, U32 v.f, U32 v.g] rfl HSRC.out (by simp [cellsS]) (oneCell_seven v) ?_; intro w3 h3 g3; have H3 := Lib.hid h3; have G3 := Lib.hid g3; clear h3 g3)
          have h3 : w3.heap[BV]? = some (.cells (cellsS ⟨v.a, v.a, v.b, v.c, v.d, v.e, v.f, v.g⟩) 135 (0, 0)) := H3.out
          have d4 : w3.cell? ⟨BV, 4, none⟩ = some (U32 v.d) := cell_row h3 4
          have f4 := frozen_row h3 4
          have d0 : w3.cell? ⟨BV, 0, none⟩ = some (U32 v.a) := cell_row h3 0
          have f0 := frozen_row h3 0
          have HB3 := Lib.hid h3; clear h3 H3
          go_wp2
          go_roundw
          case rel =>
            have hg3 : w2.grownBy w3 (some BV) := by
              have g1 := HG.out
              have g2 := G3.out
              exact ⟨g2.os.trans g1.os, g2.tape.trans g1.tape, g2.output.trans g1.output, Nat.le_trans g1.size g2.size, fun k hk hne => (g2.block k (Nat.lt_of_lt_of_le hk g1.size) hne).trans (g1.block k hk hne)⟩
            refine ⟨i + 1, by omega, by go_num, ?_, grown_set (grown_set hg3 _ _) _ _⟩
            rw [← HST.out, heap_setCell_same _ _ _ _ _ _ (heap_setCell_same _ _ _ _ _ _ HB3.out)]
            rfl
          case measure => simp [intOf]; omega
        · obtain rfl : i = 64 := by omega
          have hne := HH.out.ne
          have hst : wr.heap[w.heap.size]? = some (.cells (cellsS s) 135 (0, 0)) := by rw [hg.block _ (by omega) (by simp; omega)]; exact HH.out.st
          have hres : wr.heap[B2]? = some (.cells (cellsS ⟨0, 0, 0, 0, 0, 0, 0, 0⟩) 135 (0, 0)) := by rw [hg.block _ (by omega) (by simp; omega)]; exact HH.out.res
          have hbel : Below w.heap.size w wr := HH.out.below.grown hg (by omega) (fun k hk => by simp at hk; omega)
          have hszr := hg.size
          have hcomp : addS s (roundsR (schedW b 64) s 64) = compS s b := rfl
          obtain ⟨V, hV⟩ : ∃ V, V = roundsR (schedW b 64) s 64 := ⟨_, rfl⟩
          rw [← hV] at hv hcomp
          have HV := Lib.hid hv; have HST := Lib.hid hst; have HRES := Lib.hid hres; have HBEL := Lib.hid hbel; have HNE := Lib.hid hne; have HSZ := Lib.hid hszr; have HCOMP := Lib.hid hcomp
          clear hv hst hres hbel hne hszr hV hcomp hg HH HIDX
          obtain ⟨wo, hwo⟩ : ∃ wo, wo = wr := ⟨_, rfl⟩
          rw [← hwo] at HV HST HRES HBEL HSZ ⊢
          clear hwo
          go_wp2_with fail
          go_loopw [145] (fun t wr => ∃ i : Nat, i ≤ 8 ∧ t = .int .i64 (i : Int) ∧ wr.heap[w.heap.size]? = some (.cells (cellsP s V i) 135 (0, 0)) ∧ wo.grownBy wr (some w.heap.size)) (fun t _ => 8 - (intOf t).toNat)
          case atStart => exact ⟨0, by omega, rfl, HST.out, World.grownBy.refl _ _⟩
          case round =>
            obtain ⟨i, hi, rfl, hv, hg⟩ := hrel
            by_cases hlt : i < 8
            · have hvv : wr.heap[BV]? = some (.cells (cellsS V) 135 (0, 0)) := by have := HNE.out; have := HSZ.out; rw [hg.block BV (by omega) (by simp; omega)]; exact HV.out
              have c1 : wr.cell? ⟨w.heap.size, i, none⟩ = some (U32 (s.list.getD i 0)) := (cell_row hv i).trans (cellsP_get s V i hlt)
              have c2 : wr.cell? ⟨BV, i, none⟩ = some (U32 (V.list.getD i 0)) := (cell_row hvv i).trans (cellsS_get V i hlt)
              have f1 := frozen_row hv i
              have hset := cellsP_set s V i hlt
              obtain ⟨x, hx⟩ : ∃ x, x = s.list.getD i 0 := ⟨_, rfl⟩
              obtain ⟨y, hy⟩ : ∃ y, y = V.list.getD i 0 := ⟨_, rfl⟩
              rw [← hx] at c1 hset
              rw [← hy] at c2 hset
              have HX := Lib.hid hv; have HG := Lib.hid hg; have HSET := Lib.hid hset
              clear hv hg hset hx hy hvv
              have l0 : (i : Int) < 8 := by omega
              go_wp2_with fail
              refine wp_region_still_tail 8 kR kR ?_
              simp only [List.take_succ_cons, List.take_zero, List.drop_succ_cons, List.drop_zero]
              iterate 8 still_step
              refine wpStill_nil ?_
              change wpList _ _ _ _ _ wr.drew
              go_wp2
              go_roundw
              case rel =>
                have hA : ((wr.setCell ⟨w.heap.size, i, none⟩ (U32 (x + y))).drew).heap[w.heap.size]? = some (.cells (cellsP s V (i + 1)) 135 (0, 0)) := by
                  rw [← HSET.out]
                  exact heap_setCell_same _ _ _ _ _ _ HX.out
                have hB := grown_drew (grown_set HG.out i (U32 (x + y)))
                first
                  | exact ⟨i + 1, by omega, by go_num, hA, hB⟩
                  | ((repeat apply Exists.intro); exact ⟨⟨i + 1, by omega, by go_num, hA, hB⟩, rfl⟩)
              case measure => simp [intOf]; omega
            · obtain rfl : i = 8 := by omega
              have hi8P : (Tryd.prog.info? 135).map (·.size) = some (cellsP s V 8).size := HI8.out
              have hz8P : (cellsP s V 8).all (·.oneCell') = true := by rw [cellsP_eight]; simp [cellsS, U32_one]
              have hres : wr.heap[B2]? = some (.cells (cellsS ⟨0, 0, 0, 0, 0, 0, 0, 0⟩) 135 (0, 0)) := by have := HNE.out; have := HSZ.out; rw [hg.block B2 (by omega) (by simp; omega)]; exact HRES.out
              have HX := Lib.hid hv; have HG := Lib.hid hg; have HP8 := Lib.hid hi8P; have HZP := Lib.hid hz8P; have HR := Lib.hid hres
              clear hv hg hi8P hz8P hres
              go_wp2_with (first | ((with_reducible refine iD 157 (_) ?_); refine wpList_load_row rfl 135 (.tmp 2) rfl w.heap.size rfl 135 (cellsP s V 8) (0, 0) _ HX.out Tryd.underlying135 rfl HP8.out ?_) | ((with_reducible refine iO none (.store 135 (.tmp 4) (.tmp 157)) ?_); refine wpList_store_row rfl 135 (.tmp 4) (.tmp 157) rfl B2 (cellsP s V 8) rfl rfl 135 _ HR.out HP8.out rfl HZP.out ?_))
              have hag : aggS (compS s b) = .agg (cellsP s V 8) := by rw [← HCOMP.out]; rfl
              rw [hag]
              have hbw : Below w.heap.size w wr := HBEL.out.grown HG.out (by have := HNE.out; have := HSZ.out; omega) (fun k hk => by simp at hk; omega)
              have hbr : Below w.heap.size wr (wr.setRow B2 (cellsP s V 8)) := ⟨rfl, rfl, rfl, by simp, fun k hk => setRow_other wr B2 k _ (by have := HNE.out; omega)⟩
              exact bodyPost_ret (v := .agg (cellsP s V 8)) (results_cell_row rfl _ _ B2 135 (cellsP s V 8) (0, 0) _ rfl (setRow_heap _ _ _ _ _ _ HR.out) Tryd.underlying135 rfl HP8.out) rfl ⟨rfl, hbw.trans hbr⟩
end Go.Proofs.YtfhkmmagpnojmaaDoor

/- The specification's schedule of words and its table of constants, in new memory; what was there stays. -/
namespace Go.Proofs.YtfhkmmagpnojmaaDoor
open Go.RowKit

theorem Tryd.infoW : (Tryd.prog.info? 38).map (fun i => (i.zero, i.size, i.bytes)) = some (some (.int .u32 0), 1, 4) := by kernel_rfl

theorem mixS_two (a b : Nat) (x : UInt32) : mixS [a, b] x = rotr x a ^^^ rotr x b := by simp [mixS]
theorem mixS_three (a b c : Nat) (x : UInt32) : mixS [a, b, c] x = rotr x a ^^^ rotr x b ^^^ rotr x c := by simp [mixS]

theorem rotr_7 (x : UInt32) (w : World) : Calls Tryd.prog 105 #[U32 x, .int .i64 7] w fun e w' => e = .returned (U32 (rotr x 7)) ∧ ∃ m, w' = w.drewN m := rotr_any x 7 w (by decide) (by decide)
theorem rotr_18 (x : UInt32) (w : World) : Calls Tryd.prog 105 #[U32 x, .int .i64 18] w fun e w' => e = .returned (U32 (rotr x 18)) ∧ ∃ m, w' = w.drewN m := rotr_any x 18 w (by decide) (by decide)
theorem rotr_17 (x : UInt32) (w : World) : Calls Tryd.prog 105 #[U32 x, .int .i64 17] w fun e w' => e = .returned (U32 (rotr x 17)) ∧ ∃ m, w' = w.drewN m := rotr_any x 17 w (by decide) (by decide)
theorem rotr_19 (x : UInt32) (w : World) : Calls Tryd.prog 105 #[U32 x, .int .i64 19] w fun e w' => e = .returned (U32 (rotr x 19)) ∧ ∃ m, w' = w.drewN m := rotr_any x 19 w (by decide) (by decide)
theorem rotr_6 (x : UInt32) (w : World) : Calls Tryd.prog 105 #[U32 x, .int .i64 6] w fun e w' => e = .returned (U32 (rotr x 6)) ∧ ∃ m, w' = w.drewN m := rotr_any x 6 w (by decide) (by decide)
theorem rotr_11 (x : UInt32) (w : World) : Calls Tryd.prog 105 #[U32 x, .int .i64 11] w fun e w' => e = .returned (U32 (rotr x 11)) ∧ ∃ m, w' = w.drewN m := rotr_any x 11 w (by decide) (by decide)
theorem rotr_25 (x : UInt32) (w : World) : Calls Tryd.prog 105 #[U32 x, .int .i64 25] w fun e w' => e = .returned (U32 (rotr x 25)) ∧ ∃ m, w' = w.drewN m := rotr_any x 25 w (by decide) (by decide)
theorem rotr_2 (x : UInt32) (w : World) : Calls Tryd.prog 105 #[U32 x, .int .i64 2] w fun e w' => e = .returned (U32 (rotr x 2)) ∧ ∃ m, w' = w.drewN m := rotr_any x 2 w (by decide) (by decide)
theorem rotr_13 (x : UInt32) (w : World) : Calls Tryd.prog 105 #[U32 x, .int .i64 13] w fun e w' => e = .returned (U32 (rotr x 13)) ∧ ∃ m, w' = w.drewN m := rotr_any x 13 w (by decide) (by decide)
theorem rotr_22 (x : UInt32) (w : World) : Calls Tryd.prog 105 #[U32 x, .int .i64 22] w fun e w' => e = .returned (U32 (rotr x 22)) ∧ ∃ m, w' = w.drewN m := rotr_any x 22 w (by decide) (by decide)
theorem power_3 (w : World) : Calls Tryd.prog 107 #[.int .i64 3] w fun e w' => e = .returned (U32 (pw 3)) ∧ w' = w := power_any 3 w (by decide)
theorem power_10 (w : World) : Calls Tryd.prog 107 #[.int .i64 10] w fun e w' => e = .returned (U32 (pw 10)) ∧ w' = w := power_any 10 w (by decide)

/-- What a call leaves that returns words in new memory. -/
def FreshW (w : World) (xs : List UInt32) (e : Ending) (w' : World) : Prop :=
  ∃ v', e = .returned v' ∧ w'.ownsRow w.heap.size 38 1 v' 64 (xs.map U32) ∧ Below w.heap.size w w'

theorem own_base {w : World} {base base' e size : Nat} {v : Value} {n : Nat} {xs : List Value} (h : w.ownsRow base e size v n xs) (hb : base' ≤ base) : w.ownsRow base' e size v n xs := by
  refine ⟨h.1, ?_⟩
  rcases h.2 with hn | ⟨g, cap, cur, hv, hg, r⟩
  · exact .inl hn
  · exact .inr ⟨g, cap, cur, hv, Nat.le_trans hb hg, r⟩

theorem oneCell_U32 (xs : List UInt32) : ∀ u ∈ xs.map U32, u.oneCell' = true := by
  intro u hu
  obtain ⟨x, _, rfl⟩ := List.mem_map.1 hu
  rfl

set_option maxRecDepth 20000 in
set_option maxHeartbeats 4000000 in
theorem sched_any (b : List UInt8) (w : World) (hb : b.length = 64) :
    Calls Tryd.prog 103 #[.agg (b.map by8).toArray] w (FreshW w ((schedW b 64))) := by
  obtain ⟨C, hC⟩ : ∃ C, C = (b.map by8).toArray := ⟨_, rfl⟩
  rw [← hC]
  have HC := Lib.hid hC; have HBL := Lib.hid hb; clear hC hb
  go_enter Tryd.func103, Tryd.ntmps103
  go_wp2_with fail
  go_loopw [3, 4] (fun o i wr => ∃ k : Nat, k ≤ 64 ∧ i = .int .i64 (k : Int) ∧ wr.ownsRow (w.heap.size + 1) 38 1 o k ((schedW b k).map U32) ∧ Below (w.heap.size + 1) (w.alloc (.cells C 175)) wr) (fun _ i _ => 64 - (intOf i).toNat)
  case atStart => exact ⟨0, by omega, rfl, World.ownsRow_nil _ _ _ _, Below.refl _ _⟩
  case round =>
    obtain ⟨k, hk, rfl, hown, hbel⟩ := hrel
    have hsz := hbel.size
    have hsz' : w.heap.size + 1 ≤ wr.heap.size := by simpa using hsz
    clear hsz
    have HO := Lib.hid hown; have HB := Lib.hid hbel; clear hown hbel
    by_cases hlt : k < 64
    · by_cases h16 : k < 16
      · have hblk : wr.heap[w.heap.size]? = some (.cells (b.map by8).toArray 175 (0, 0)) := by
          rw [HB.out.block _ (by omega), ← HC.out]; exact heap_alloc_new w _
        have hbs := word_bs hblk HBL.out k h16
        have hl4 : ((b.drop (4 * k)).take 4).length ≤ 8 := by simp; omega
        have HBS := Lib.hid hbs; have HL4 := Lib.hid hl4; clear hbs hl4 hblk
        have hsl := fun wx => slice_blk w.heap.size k h16 wx
        go_wp2_with (first | (go_at_call 106; refine (value_any _ ((b.drop (4 * k)).take 4) _ HBS.out HL4.out).mono ?_; rintro e w' ⟨rfl, rfl⟩) | (at_builtin; refine wpList_append_grew _ rfl (.tmp 13) (.tmp 22) 181 rfl (w.heap.size + 1) 38 (.int .u32 0) 1 4 Tryd.underlying181 Tryd.infoW rfl (by decide) _ _ _ rfl (HO.out.alloc _) _ 1 [.int .u32 ((val ((b.drop (4 * k)).take 4) : Int) % 4294967296)] rfl (Sl.one _ _ _) ?c1 ?c2 ?c3 ?c4 ?_))
        case c1 => intro u hu; simp at hu; subst hu; rfl
        case c2 => unfold maxLen; omega
        case c3 => omega
        case c4 => simp; omega
        intro v' w1 hown' hgrow
        have hb1 := HB.out.trans ((((Below.refl (w.heap.size + 1) wr)).alloc hsz' _).trans (hgrow.belowOwn (HO.out.alloc _) (Nat.le_refl _) (by simp; omega)))
        have ho1 := own_eq (n' := k + 1) (xs' := (schedW b (k + 1)).map U32) hown' rfl (by simp only [schedW, if_pos h16, List.map_append, List.map_cons, List.map_nil, u32_word]; rfl)
        have HO1 := Lib.hid ho1; have HB1 := Lib.hid hb1; clear hown' hgrow hb1 ho1
        go_wp2_with fail
        go_roundw
        case rel => exact ⟨k + 1, by omega, by go_num, HO1.out, HB1.out⟩
        case measure => simp [intOf]; omega
      · rcases own_shape HO.out with ⟨hv3, hk0⟩ | ⟨g, cap, hv3, hown3⟩
        · omega
        rw [hv3]
        have hget : ∀ j, j < k → wr.cell? ⟨g, j, none⟩ = some (U32 ((schedW b k).getD j 0)) := fun j hj => by
          have := hown3.cellAt j (by omega)
          rw [this, List.getElem?_map, List.getElem?_eq_getElem (by rw [schedW_length]; exact hj)]
          simp [List.getD, schedW_length, hj]
        have c16 := hget (k - 16) (by omega)
        have c15 := hget (k - 15) (by omega)
        have c7 := hget (k - 7) (by omega)
        have c2 := hget (k - 2) (by omega)
        generalize hx16 : (schedW b k).getD (k - 16) 0 = x16 at c16
        generalize hx15 : (schedW b k).getD (k - 15) 0 = x15 at c15
        generalize hx7 : (schedW b k).getD (k - 7) 0 = x7 at c7
        generalize hx2 : (schedW b k).getD (k - 2) 0 = x2 at c2
        have hnx : nextW (schedW b k) k = x16 + (rotr x15 7 ^^^ rotr x15 18 ^^^ (x15 / pw 3)) + x7 + (rotr x2 17 ^^^ rotr x2 19 ^^^ (x2 / pw 10)) := by unfold nextW; rw [hx16, hx15, hx7, hx2, mixS_two, mixS_two, pw_shr3, pw_shr10]
        have HNX := Lib.hid hnx; have HO3 := Lib.hid hown3
        clear hnx hx16 hx15 hx7 hx2 hget hv3 hown3 HO
        have p3 := pw_ne 3 (by decide)
        have p10 := pw_ne 10 (by decide)
        have w16 : IntKind.i64.wrap ((k : Int) - 16) = (k : Int) - 16 := IntWalk.i64_in _ (by omega)
        have l16 : (k : Int) - 16 < k := by omega
        have z16 : 0 ≤ (k : Int) - 16 := by omega
        have q16 : (16 : Int) ≤ (k : Int) := by omega
        have t16 : ((k : Int) - 16).toNat = k - 16 := by omega
        have w15 : IntKind.i64.wrap ((k : Int) - 15) = (k : Int) - 15 := IntWalk.i64_in _ (by omega)
        have l15 : (k : Int) - 15 < k := by omega
        have z15 : 0 ≤ (k : Int) - 15 := by omega
        have q15 : (15 : Int) ≤ (k : Int) := by omega
        have t15 : ((k : Int) - 15).toNat = k - 15 := by omega
        have w7 : IntKind.i64.wrap ((k : Int) - 7) = (k : Int) - 7 := IntWalk.i64_in _ (by omega)
        have l7 : (k : Int) - 7 < k := by omega
        have z7 : 0 ≤ (k : Int) - 7 := by omega
        have q7 : (7 : Int) ≤ (k : Int) := by omega
        have t7 : ((k : Int) - 7).toNat = k - 7 := by omega
        have w2 : IntKind.i64.wrap ((k : Int) - 2) = (k : Int) - 2 := IntWalk.i64_in _ (by omega)
        have l2 : (k : Int) - 2 < k := by omega
        have z2 : 0 ≤ (k : Int) - 2 := by omega
        have q2 : (2 : Int) ≤ (k : Int) := by omega
        have t2 : ((k : Int) - 2).toNat = k - 2 := by omega
        go_wp2_with fail
        go_quiet ((first | (go_at_call 105; (with_reducible exact Calls.quiet_of (rotr_7 x15 _))) | (go_at_call 105; (with_reducible exact Calls.quiet_of (rotr_18 x15 _))) | (go_at_call 107; (with_reducible exact Calls.quiet_of_same (power_3 _)))))
        go_wp2_with fail
        have e16 : (wr.drewN nq).cell? ⟨g, k - 16, none⟩ = some (U32 x16) := c16
        have e7 : (wr.drewN nq).cell? ⟨g, k - 7, none⟩ = some (U32 x7) := c7
        have e2 : (wr.drewN nq).cell? ⟨g, k - 2, none⟩ = some (U32 x2) := c2
        have hoq : (wr.drewN nq).ownsRow (w.heap.size + 1) 38 1 (.slice (some ⟨g, 0, none⟩) k cap) k ((schedW b k).map U32) := HO3.out
        have hbq : Below (w.heap.size + 1) (w.alloc (.cells C 175)) (wr.drewN nq) := below_drewN HB.out nq
        have hsq : w.heap.size + 1 ≤ (wr.drewN nq).heap.size := hsz'
        clear c16 c15 c7 c2 HO3 HB hsz'
        generalize wr.drewN nq = wq at e16 e7 e2 hoq hbq hsq ⊢
        have HO3 := Lib.hid hoq; have HB := Lib.hid hbq; clear hoq hbq
        go_quiet ((first | (go_at_call 105; (with_reducible exact Calls.quiet_of (rotr_17 x2 _))) | (go_at_call 105; (with_reducible exact Calls.quiet_of (rotr_19 x2 _))) | (go_at_call 107; (with_reducible exact Calls.quiet_of_same (power_10 _)))))
        go_wp2_with fail
        have f16 : (wq.drewN nq).cell? ⟨g, k - 16, none⟩ = some (U32 x16) := e16
        have f7 : (wq.drewN nq).cell? ⟨g, k - 7, none⟩ = some (U32 x7) := e7
        have hoq : (wq.drewN nq).ownsRow (w.heap.size + 1) 38 1 (.slice (some ⟨g, 0, none⟩) k cap) k ((schedW b k).map U32) := HO3.out
        have hbq : Below (w.heap.size + 1) (w.alloc (.cells C 175)) (wq.drewN nq) := below_drewN HB.out nq
        have hsp : w.heap.size + 1 ≤ (wq.drewN nq).heap.size := hsq
        clear e16 e7 e2 HO3 HB hsq p3 p10
        generalize wq.drewN nq = wp at f16 f7 hoq hbq hsp ⊢
        have HO3 := Lib.hid hoq; have HB := Lib.hid hbq; clear hoq hbq
        go_region_law (refine step_append_grew _ rfl (.tmp 66) (.tmp 82) 181 rfl (w.heap.size + 1) 38 (.int .u32 0) 1 4 Tryd.underlying181 Tryd.infoW rfl (by decide) _ _ _ rfl (HO3.out.alloc _) _ 1 [U32 (x16 + (rotr x15 7 ^^^ rotr x15 18 ^^^ (x15 / pw 3)) + x7 + (rotr x2 17 ^^^ rotr x2 19 ^^^ (x2 / pw 10)))] rfl (Sl.one _ _ _) (by intro u hu; simp at hu; subst hu; rfl) (by unfold maxLen; omega) (by omega) (by simp; omega) ?_; intro v' w1 hown' hgrow; have HO' := Lib.hid hown'; have HG := Lib.hid hgrow; clear hown' hgrow)
        all_goals
          have hb1 := HB.out.trans ((((Below.refl (w.heap.size + 1) wp).drew).alloc hsp _).trans (HG.out.belowOwn (HO3.out.alloc _) (Nat.le_refl _) (by simp; omega)))
          have ho1 := own_eq (n' := k + 1) (xs' := (schedW b (k + 1)).map U32) HO'.out rfl (by simp only [schedW, if_neg h16, List.map_append, List.map_cons, List.map_nil, HNX.out])
          have HO1 := Lib.hid ho1; have HB1 := Lib.hid hb1; clear ho1 hb1
          go_wp2_with fail
          go_roundw
          case rel => first | exact ⟨k + 1, by omega, by go_num, HO1.out, HB1.out⟩ | ((repeat apply Exists.intro); exact ⟨⟨k + 1, by omega, by go_num, HO1.out, HB1.out⟩, rfl⟩)
          case measure => simp [intOf]; omega
    · obtain rfl : k = 64 := by omega
      have hb0 : Below w.heap.size w wr := ((Below.refl w.heap.size w).alloc (Nat.le_refl _) (.cells C 175)).trans (HB.out.mono (by omega))
      have hown := own_base HO.out (show w.heap.size ≤ w.heap.size + 1 by omega)
      have HB0 := Lib.hid hb0; have HO0 := Lib.hid hown; clear hb0 hown
      go_wp2_with fail
      go_ret
      exact ⟨_, rfl, HO0.out, HB0.out⟩
end Go.Proofs.YtfhkmmagpnojmaaDoor

/- The specification's compression of a block: what dunnageref01.Compress returns; new memory alone. -/
namespace Go.Proofs.YtfhkmmagpnojmaaDoor
open Go.RowKit

set_option maxRecDepth 20000 in
set_option maxHeartbeats 4000000 in
theorem constants_any (w : World) : Calls Tryd.prog 104 #[] w (FreshW w kTab) := by
  go_enter Tryd.func104, Tryd.ntmps104
  go_wp2_with fail
  go_ret
  have h := World.ownsRow_lit (base := w.heap.size) (e := 38) (size := 1) w (kTab.map U32).toArray 64 (Nat.le_refl _) (by decide) kR
  have hr : (kTab.map U32).toArray.toList = kTab.map U32 := rfl
  rw [hr] at h
  exact ⟨_, rfl, h, (Below.refl _ _).alloc (Nat.le_refl _) _⟩

/-- What stands when the specification's rounds begin. -/
structure RefG (w : World) (s : St) (b : List UInt8) (B2 BV gs cs gk ck : Nat) (w2 : World) : Prop where
  below : Below w.heap.size w w2
  st : w2.heap[w.heap.size]? = some (.cells (cellsS s) 135 (0, 0))
  res : w2.heap[B2]? = some (.cells (cellsS ⟨0, 0, 0, 0, 0, 0, 0, 0⟩) 135 (0, 0))
  vv : w2.heap[BV]? = some (.cells (cellsS s) 135 (0, 0))
  ws : ∀ j, j < 64 → w2.cell? ⟨gs, j, none⟩ = some (U32 ((schedW b 64).getD j 0))
  ks : ∀ j, j < 64 → w2.cell? ⟨gk, j, none⟩ = some (U32 (kTab.getD j 0))
  ne : w.heap.size < B2 ∧ B2 < BV ∧ gs < BV ∧ gk < BV ∧ w.heap.size < gs ∧ w.heap.size < gk ∧ w2.heap.size = BV + 1 ∧ 64 ≤ cs ∧ 64 ≤ ck

theorem own_some {w : World} {base e size : Nat} {v : Value} {n : Nat} {xs : List Value} (h : w.ownsRow base e size v n xs) (hn : n ≠ 0) :
    ∃ g cap, v = .slice (some ⟨g, 0, none⟩) n cap ∧ n ≤ cap ∧ w.ownsRow base e size (.slice (some ⟨g, 0, none⟩) n cap) n xs := by
  rcases h.2 with ⟨_, h0⟩ | ⟨g, cap, cur, hv, _, _, hc, _⟩
  · exact absurd h0 hn
  · exact ⟨g, cap, hv, hc, by rw [← hv]; exact h⟩

theorem three {w w1 w2 : World} {o0 o1 o2 : Obj} (h1 : Below (((w.alloc o0).alloc o1).alloc o2).heap.size (((w.alloc o0).alloc o1).alloc o2) w1) (h2 : Below w1.heap.size w1 w2) :
    w2.heap[w.heap.size]? = some o0 ∧ w2.heap[w.heap.size + 1 + 1]? = some o2 ∧ Below w.heap.size w w2 ∧ w.heap.size + 3 ≤ w1.heap.size ∧ w1.heap.size ≤ w2.heap.size := by
  have hh : (((w.alloc o0).alloc o1).alloc o2).heap = [o0, o1, o2].foldl Array.push w.heap := rfl
  have at' : ∀ (i : Nat) (o : Obj), [o0, o1, o2][i]? = some o → (((w.alloc o0).alloc o1).alloc o2).heap[w.heap.size + i]? = some o := fun i o h => by rw [hh]; exact push_at _ w.heap i o h
  have hs : (((w.alloc o0).alloc o1).alloc o2).heap.size = w.heap.size + 3 := by simp
  have s1 := h1.size
  have s2 := h2.size
  refine ⟨?_, ?_, ?_, by omega, s2⟩
  · rw [h2.block _ (by omega), h1.block _ (by omega)]; exact at' 0 _ rfl
  · rw [h2.block _ (by omega), h1.block _ (by omega)]; exact at' 2 _ rfl
  · have b0 : Below w.heap.size w (((w.alloc o0).alloc o1).alloc o2) := (((Below.refl _ _).alloc (Nat.le_refl _) _).alloc (by simp) _).alloc (by simp; omega) _
    exact (b0.trans (h1.mono (by omega))).trans (h2.mono (by omega))

theorem word_cells {w : World} {base g cap : Nat} {xs : List UInt32} (h : w.ownsRow base 38 1 (.slice (some ⟨g, 0, none⟩) 64 cap) 64 (xs.map U32)) (hl : xs.length = 64) (j : Nat) (hj : j < 64) :
    w.cell? ⟨g, j, none⟩ = some (U32 (xs.getD j 0)) := by
  have := h.cellAt j (by omega)
  rw [this, List.getElem?_map, List.getElem?_eq_getElem (by omega)]
  simp [List.getD, hl, hj]

theorem refG_of {w w1 w2 w3 : World} {s : St} {b : List UInt8} {gs cps gk cpk : Nat} {o : Obj}
    (hT : w2.heap[w.heap.size]? = some (.cells (cellsS s) 135 (0, 0)) ∧ w2.heap[w.heap.size + 1 + 1]? = some (.cells (cellsS ⟨0, 0, 0, 0, 0, 0, 0, 0⟩) 135 (0, 0)) ∧ Below w.heap.size w w2 ∧ w.heap.size + 3 ≤ w1.heap.size ∧ w1.heap.size ≤ w2.heap.size)
    (h1 : w1.ownsRow (w.heap.size + 3) 38 1 (.slice (some ⟨gs, 0, none⟩) 64 cps) 64 ((schedW b 64).map U32)) (h2 : w2.ownsRow w1.heap.size 38 1 (.slice (some ⟨gk, 0, none⟩) 64 cpk) 64 (kTab.map U32))
    (hb : Below w1.heap.size w1 w2) (hcs : 64 ≤ cps) (hck : 64 ≤ cpk) (h3 : w3 = (w2.alloc o).setRow w2.heap.size (cellsS s)) (ho : ∃ c, o = .cells c 135 (0, 0)) :
    RefG w s b (w.heap.size + 1 + 1) w2.heap.size gs cps gk cpk w3 := by
  obtain ⟨c, rfl⟩ := ho
  obtain ⟨t1, t2, t3, t4, t5⟩ := hT
  have l1 := h1.lt gs rfl
  have l2 := h2.lt gk rfl
  have old : ∀ j, j < w2.heap.size → w3.heap[j]? = w2.heap[j]? := fun j hj => by rw [h3]; exact (setRow_other _ _ j _ (by omega)).trans (Below.heap_alloc w2 _ j hj)
  have hs3 : w3.heap.size = w2.heap.size + 1 := by rw [h3]; simp
  have hb3 : Below w2.heap.size w2 w3 := ⟨by rw [h3]; rfl, by rw [h3]; rfl, by rw [h3]; rfl, by omega, old⟩
  refine ⟨t3.trans (hb3.mono (by omega)), (old _ (by omega)).trans t1, (old _ (by omega)).trans t2, ?_, fun j hj => ?_, fun j hj => ?_, by omega⟩
  · rw [h3]
    exact setRow_heap _ _ _ _ _ _ (heap_alloc_new w2 _)
  · have hc := word_cells h1 (schedW_length b 64) j hj
    have hc2 := (hb.cell (World.block_lt_of_cell? w1 _ hc)).trans hc
    exact (hb3.cell (World.block_lt_of_cell? w2 _ hc2)).trans hc2
  · have hc2 := word_cells h2 (by decide) j hj
    exact (hb3.cell (World.block_lt_of_cell? w2 _ hc2)).trans hc2

set_option maxRecDepth 20000 in
set_option maxHeartbeats 8000000 in
theorem refCompress_any (s : St) (b : List UInt8) (w : World) (hb : b.length = 64) :
    Calls Tryd.prog 100 #[.agg #[U32 s.a, U32 s.b, U32 s.c, U32 s.d, U32 s.e, U32 s.f, U32 s.g, U32 s.h], .agg (b.map by8).toArray] w fun e w' => e = .returned (aggS (compS s b)) ∧ Below w.heap.size w w' := by
  obtain ⟨C, hC⟩ : ∃ C, C = (b.map by8).toArray := ⟨_, rfl⟩
  have hsd := fun w1 => sched_any b w1 hb
  rw [← hC] at hsd ⊢
  have hiC : (Tryd.prog.info? 175).map (·.size) = some C.size := by
    have h : (Tryd.prog.info? 175).map (·.size) = some 64 := by kernel_rfl
    rw [h, hC]; simp [hb]
  have HSD := Lib.hid hsd; have HIC := Lib.hid hiC; clear hC hb hsd hiC
  go_enter Tryd.func100, Tryd.ntmps100
  have hld : ∀ o0 o2 : Obj, (((w.alloc o0).alloc (.cells C 175)).alloc o2).heap[w.heap.size + 1]? = some (.cells C 175 (0, 0)) := fun o0 o2 => by
    have hh : (((w.alloc o0).alloc (.cells C 175)).alloc o2).heap = [o0, .cells C 175, o2].foldl Array.push w.heap := rfl
    rw [hh]; exact push_at _ w.heap 1 _ rfl
  have HLD := Lib.hid hld; clear hld
  have hi8 : (Tryd.prog.info? 135).map (·.size) = some (cellsS s).size := by kernel_rfl
  have hz8 : (cellsS s).all (·.oneCell') = true := by simp [cellsS, U32_one]
  have HI8 := Lib.hid hi8; have HZ8 := Lib.hid hz8; clear hi8 hz8
  go_wp2_with (first | ((with_reducible refine iD 18 (_) ?_); refine wpList_load_row rfl 175 (.tmp 3) rfl (w.heap.size + 1) rfl 175 C (0, 0) _ (HLD.out _ _) Tryd.underlying175 rfl HIC.out ?_) | (go_at_call 103; refine (HSD.out _).mono ?_; rintro e w1 ⟨v1, rfl, ho1, hb1⟩; obtain ⟨gs, cps, hv1, hcs, ho1'⟩ := own_some ho1 (by decide); rw [hv1]; have HO1 := Lib.hid ho1'; have HB1 := Lib.hid hb1; clear ho1 hb1 ho1' hv1) | (go_at_call 104; refine (constants_any _).mono ?_; rintro e w2 ⟨v2, rfl, ho2, hb2⟩; obtain ⟨gk, cpk, hv2, hck, ho2'⟩ := own_some ho2 (by decide); rw [hv2]; have ht := three HB1.out hb2; have HO2 := Lib.hid ho2'; have HB2 := Lib.hid hb2; have HT := Lib.hid ht; clear ho2 hb2 ho2' hv2 ht) | ((with_reducible refine iD 21 (_) ?_); refine wpList_load_row rfl 135 (.tmp 2) rfl w.heap.size rfl 135 (cellsS s) (0, 0) _ HT.out.1 Tryd.underlying135 rfl HI8.out ?_) | ((with_reducible refine iO none (.store 135 (.tmp 7) (.tmp 21)) ?_); refine wpList_store_row rfl 135 (.tmp 7) (.tmp 21) rfl w2.heap.size (cellsS s) rfl rfl 135 _ (heap_alloc_new w2 _) HI8.out rfl HZ8.out ?_))
  have hs3 : (((w.alloc (.cells #[U32 s.a, U32 s.b, U32 s.c, U32 s.d, U32 s.e, U32 s.f, U32 s.g, U32 s.h] 135)).alloc (.cells C 175)).alloc (.cells (cellsS ⟨0, 0, 0, 0, 0, 0, 0, 0⟩) 135)).heap.size = w.heap.size + 3 := by simp
  have ho1 : w1.ownsRow (w.heap.size + 3) 38 1 (.slice (some ⟨gs, 0, none⟩) 64 cps) 64 ((schedW b 64).map U32) := by rw [← hs3]; exact HO1.out
  refine forget (RefG w s b (w.heap.size + 1 + 1) w2.heap.size gs cps gk cpk) (refG_of HT.out ho1 HO2.out HB2.out hcs hck rfl ⟨_, rfl⟩) ?_
  intro w3 hG3
  generalize w2.heap.size = BV at hG3 ⊢
  generalize w.heap.size + 1 + 1 = B2 at hG3 ⊢
  have HH := Lib.hid hG3
  clear hG3 HO1 HO2 HB2 HT HB1 ho1 hs3
  go_loopw [8] (fun t wr => ∃ i : Nat, i ≤ 64 ∧ t = .int .i64 (i : Int) ∧ wr.heap[BV]? = some (.cells (cellsS (roundsR (schedW b 64) s i)) 135 (0, 0)) ∧ w3.grownBy wr (some BV)) (fun t _ => 64 - (intOf t).toNat)
  case atStart => exact ⟨0, by omega, rfl, HH.out.vv, World.grownBy.refl _ _⟩
  case round =>
    obtain ⟨i, hi, rfl, hv, hg⟩ := hrel
    by_cases hlt : i < 64
    · obtain ⟨v, hvv⟩ : ∃ v, v = roundsR (schedW b 64) s i := ⟨_, rfl⟩
      rw [← hvv] at hv
      have hne := HH.out.ne
      have cw : wr.cell? ⟨gs, i, none⟩ = some (U32 ((schedW b 64).getD i 0)) := hg.cell (HH.out.ws i hlt) (by simp; omega)
      have ck : wr.cell? ⟨gk, i, none⟩ = some (U32 (kTab.getD i 0)) := hg.cell (HH.out.ks i hlt) (by simp; omega)
      obtain ⟨c0, c1, c2, c3, c4, c5, c6, c7⟩ := cells_of hv
      obtain ⟨wi, hwi⟩ : ∃ wi, wi = (schedW b 64).getD i 0 := ⟨_, rfl⟩
      rw [← hwi] at cw
      obtain ⟨ki, hkk⟩ : ∃ ki, ki = kTab.getD i 0 := ⟨_, rfl⟩
      rw [← hkk] at ck
      have hst : stepR v ki wi = roundsR (schedW b 64) s (i + 1) := by rw [hvv, hkk, hwi]; rfl
      have hta : tA v ki wi = v.h + (rotr v.e 6 ^^^ rotr v.e 11 ^^^ rotr v.e 25) + ((v.e &&& v.f) ^^^ (~~~v.e &&& v.g)) + ki + wi := by unfold tA; rw [mixS_three]
      have htb : tB v = (rotr v.a 2 ^^^ rotr v.a 13 ^^^ rotr v.a 22) + ((v.a &&& v.b) ^^^ (v.a &&& v.c) ^^^ (v.b &&& v.c)) := by unfold tB; rw [mixS_three]
      have HV := Lib.hid hv; have HG := Lib.hid hg; have HST := Lib.hid hst; have HNE := Lib.hid hne; have HTA := Lib.hid hta; have HTB := Lib.hid htb
      clear hv hg hst hne hvv hwi hkk hta htb
      have l0 : (i : Int) < 64 := by omega
      go_wp2_with fail
      go_quiet (fail)
      go_wp2_with fail
      have d3 : (wr.drewN nq).cell? ⟨BV, 3, none⟩ = some (U32 v.d) := c3
      have d7 : (wr.drewN nq).cell? ⟨BV, 7, none⟩ = some (U32 v.h) := c7
      have dw : (wr.drewN nq).cell? ⟨gs, i, none⟩ = some (U32 wi) := cw
      have dk : (wr.drewN nq).cell? ⟨gk, i, none⟩ = some (U32 ki) := ck
      have hvq : (wr.drewN nq).heap[BV]? = some (.cells (cellsS v) 135 (0, 0)) := HV.out
      have hgq : w3.grownBy (wr.drewN nq) (some BV) := ⟨HG.out.os, HG.out.tape, HG.out.output, HG.out.size, HG.out.block⟩
      clear HV HG c0 c1 c2 c3 c4 c5 c6 c7 cw ck
      generalize wr.drewN nq = wq at d3 d7 dw dk hvq hgq ⊢
      have HV := Lib.hid hvq; have HG := Lib.hid hgq; clear hvq hgq
      go_quiet ((first | (go_at_call 105; (with_reducible exact Calls.quiet_of (rotr_6 v.e _))) | (go_at_call 105; (with_reducible exact Calls.quiet_of (rotr_11 v.e _))) | (go_at_call 105; (with_reducible exact Calls.quiet_of (rotr_25 v.e _)))))
      go_wp2_with fail
      have e3 : (wq.drewN nq).cell? ⟨BV, 3, none⟩ = some (U32 v.d) := d3
      have hvq : (wq.drewN nq).heap[BV]? = some (.cells (cellsS v) 135 (0, 0)) := HV.out
      have hgq : w3.grownBy (wq.drewN nq) (some BV) := ⟨HG.out.os, HG.out.tape, HG.out.output, HG.out.size, HG.out.block⟩
      clear HV HG d3 d7 dw dk
      generalize wq.drewN nq = wp at e3 hvq hgq ⊢
      have HV := Lib.hid hvq; have HG := Lib.hid hgq; clear hvq hgq
      go_wp2_with (first | (go_at_call 105; (with_reducible refine (rotr_2 v.a _).mono ?_); rintro e w' ⟨rfl, m1, rfl⟩) | (go_at_call 105; (with_reducible refine (rotr_13 v.a _).mono ?_); rintro e w' ⟨rfl, m2, rfl⟩) | (go_at_call 105; (with_reducible refine (rotr_22 v.a _).mono ?_); rintro e w' ⟨rfl, m3, rfl⟩) | ((with_reducible refine iO none (.store 135 (.tmp 7) (.tmp 101)) ?_); refine wpList_store_rowN rfl 135 (.tmp 7) (.tmp 101) rfl BV _ rfl rfl 135 (cellsS v) HV.out 8 HI8.out rfl rfl ?hz ?_))
      case hz => simp [cellsS, U32_one]
      go_wp2_with fail
      go_roundw
      case rel =>
        have hg3 : w3.grownBy ((wp.drewN (m1 + m2 + m3)).setRow BV (cellsS (stepR v ki wi))) (some BV) := by
          have g1 := HG.out
          exact ⟨g1.os, g1.tape, g1.output, by simpa using g1.size, fun k hk hne => (setRow_other (wp.drewN (m1 + m2 + m3)) BV k _ (by simp at hne; omega)).trans (g1.block k hk hne)⟩
        have hh3 : ((wp.drewN (m1 + m2 + m3)).setRow BV (cellsS (stepR v ki wi))).heap[BV]? = some (.cells (cellsS (stepR v ki wi)) 135 (0, 0)) := setRow_heap _ _ _ _ _ _ HV.out
        have hcs : cellsS (stepR v ki wi) = #[U32 (tA v ki wi + tB v), U32 v.a, U32 v.b, U32 v.c, U32 (v.d + tA v ki wi), U32 v.e, U32 v.f, U32 v.g] := rfl
        rw [HTA.out, HTB.out] at hcs
        rw [← hcs]
        rw [HST.out] at hh3 hg3 ⊢
        exact ⟨i + 1, by omega, by go_num, hh3, hg3⟩
      case measure => simp [intOf]; omega
    · obtain rfl : i = 64 := by omega
      have hne := HH.out.ne
      have hst : wr.heap[w.heap.size]? = some (.cells (cellsS s) 135 (0, 0)) := by rw [hg.block _ (by omega) (by simp; omega)]; exact HH.out.st
      have hres : wr.heap[B2]? = some (.cells (cellsS ⟨0, 0, 0, 0, 0, 0, 0, 0⟩) 135 (0, 0)) := by rw [hg.block _ (by omega) (by simp; omega)]; exact HH.out.res
      have hbel : Below w.heap.size w wr := HH.out.below.grown hg (by omega) (fun k hk => by simp at hk; omega)
      have hszr := hg.size
      have hcomp : addS s (roundsR (schedW b 64) s 64) = compS s b := rfl
      obtain ⟨V, hV⟩ : ∃ V, V = roundsR (schedW b 64) s 64 := ⟨_, rfl⟩
      rw [← hV] at hv hcomp
      have HV := Lib.hid hv; have HST := Lib.hid hst; have HRES := Lib.hid hres; have HBEL := Lib.hid hbel; have HNE := Lib.hid hne; have HSZR := Lib.hid hszr; have HCOMP := Lib.hid hcomp; clear hv hst hres hbel hne hszr hcomp
      clear hV hg HH
      obtain ⟨wo, hwo⟩ : ∃ wo, wo = wr := ⟨_, rfl⟩
      rw [← hwo] at HV HST HRES HBEL HSZR ⊢
      clear hwo
      go_wp2_with fail
      go_loopw [17] (fun t wr => ∃ i : Nat, i ≤ 8 ∧ t = .int .i64 (i : Int) ∧ wr.heap[w.heap.size]? = some (.cells (cellsP s V i) 135 (0, 0)) ∧ wo.grownBy wr (some w.heap.size)) (fun t _ => 8 - (intOf t).toNat)
      case atStart => exact ⟨0, by omega, rfl, HST.out, World.grownBy.refl _ _⟩
      case round =>
        obtain ⟨i, hi, rfl, hv, hg⟩ := hrel
        by_cases hlt : i < 8
        · have hvv : wr.heap[BV]? = some (.cells (cellsS V) 135 (0, 0)) := by have := HNE.out; have := HSZR.out; rw [hg.block BV (by omega) (by simp; omega)]; exact HV.out
          have c1 : wr.cell? ⟨w.heap.size, i, none⟩ = some (U32 (s.list.getD i 0)) := (cell_row hv i).trans (cellsP_get s V i hlt)
          have c2 : wr.cell? ⟨BV, i, none⟩ = some (U32 (V.list.getD i 0)) := (cell_row hvv i).trans (cellsS_get V i hlt)
          have f1 := frozen_row hv i
          have hset := cellsP_set s V i hlt
          obtain ⟨x, hx⟩ : ∃ x, x = s.list.getD i 0 := ⟨_, rfl⟩
          obtain ⟨y, hy⟩ : ∃ y, y = V.list.getD i 0 := ⟨_, rfl⟩
          rw [← hx] at c1 hset
          rw [← hy] at c2 hset
          have HX := Lib.hid hv; have HG := Lib.hid hg; have HSET := Lib.hid hset
          clear hv hg hset hx hy hvv
          have l0 : (i : Int) < 8 := by omega
          go_wp2_with fail
          refine wp_region_still_tail 9 kR kR ?_
          simp only [List.take_succ_cons, List.take_zero, List.drop_succ_cons, List.drop_zero]
          iterate 9 still_step
          refine wpStill_nil ?_
          change wpList _ _ _ _ _ wr.drew
          go_wp2
          go_roundw
          case rel =>
            have hA : ((wr.setCell ⟨w.heap.size, i, none⟩ (U32 (x + y))).drew).heap[w.heap.size]? = some (.cells (cellsP s V (i + 1)) 135 (0, 0)) := by
              rw [← HSET.out]
              exact heap_setCell_same _ _ _ _ _ _ HX.out
            have hB := grown_drew (grown_set HG.out i (U32 (x + y)))
            first
              | exact ⟨i + 1, by omega, by go_num, hA, hB⟩
              | ((repeat apply Exists.intro); exact ⟨⟨i + 1, by omega, by go_num, hA, hB⟩, rfl⟩)
          case measure => simp [intOf]; omega
        · obtain rfl : i = 8 := by omega
          have hi8P : (Tryd.prog.info? 135).map (·.size) = some (cellsP s V 8).size := HI8.out
          have hz8P : (cellsP s V 8).all (·.oneCell') = true := by rw [cellsP_eight]; simp [cellsS, U32_one]
          have hres : wr.heap[B2]? = some (.cells (cellsS ⟨0, 0, 0, 0, 0, 0, 0, 0⟩) 135 (0, 0)) := by have := HNE.out; have := HSZR.out; rw [hg.block B2 (by omega) (by simp; omega)]; exact HRES.out
          have HX := Lib.hid hv; have HG := Lib.hid hg; have HP8 := Lib.hid hi8P; have HZP := Lib.hid hz8P; have HR := Lib.hid hres
          clear hv hg hi8P hz8P hres
          go_wp2_with (first | ((with_reducible refine iD 115 (_) ?_); refine wpList_load_row rfl 135 (.tmp 2) rfl w.heap.size rfl 135 (cellsP s V 8) (0, 0) _ HX.out Tryd.underlying135 rfl HP8.out ?_) | ((with_reducible refine iO none (.store 135 (.tmp 4) (.tmp 115)) ?_); refine wpList_store_row rfl 135 (.tmp 4) (.tmp 115) rfl B2 (cellsP s V 8) rfl rfl 135 _ HR.out HP8.out rfl HZP.out ?_))
          have hag : aggS (compS s b) = .agg (cellsP s V 8) := by rw [← HCOMP.out]; rfl
          rw [hag]
          have hbw : Below w.heap.size w wr := HBEL.out.grown HG.out (by have := HNE.out; have := HSZR.out; omega) (fun k hk => by simp at hk; omega)
          have hbr : Below w.heap.size wr (wr.setRow B2 (cellsP s V 8)) := ⟨rfl, rfl, rfl, by simp, fun k hk => setRow_other wr B2 k _ (by have := HNE.out; omega)⟩
          exact bodyPost_ret (v := .agg (cellsP s V 8)) (results_cell_row rfl _ _ B2 135 (cellsP s V 8) (0, 0) _ rfl (setRow_heap _ _ _ _ _ _ HR.out) Tryd.underlying135 rfl HP8.out) rfl ⟨rfl, hbw.trans hbr⟩
end Go.Proofs.YtfhkmmagpnojmaaDoor

/- A hash as a value; the hash of no bytes; whether two hashes are equal. No condition. -/
namespace Go.Proofs.YtfhkmmagpnojmaaDoor
open Go.RowKit

/-- The table of constants lies where the program has laid it. -/
def KT (w : World) : Prop := (∃ t f, w.heap[0]? = some (.cells (kTab.map U32).toArray t f)) ∧ 0 < w.heap.size

theorem KT.later {w w1 : World} (h : KT w) {B : Nat} (hb : Below B w w1) (hB : w.heap.size ≤ B) : KT w1 := by
  obtain ⟨⟨t, f, h1⟩, h2⟩ := h
  exact ⟨⟨t, f, (hb.block _ (Nat.lt_of_lt_of_le h2 hB)).trans h1⟩, Nat.lt_of_lt_of_le h2 hb.size⟩

theorem KT.drew {w : World} (h : KT w) : KT w.drew := h
theorem KT.drewN {w : World} (h : KT w) (n : Nat) : KT (w.drewN n) := h
theorem KT.alloc {w : World} (h : KT w) (o : Obj) : KT (w.alloc o) := h.later (below1 w o) (Nat.le_refl _)

theorem KT.of_var {w : World} (h : w.var? Tryd.prog "dunnage/digest.constants" = some (kTab.map U32).toArray) : KT w := by
  have hg : Tryd.prog.globalNamed "dunnage/digest.constants" = some 0 := by kernel_rfl
  unfold World.var? at h
  rw [hg] at h
  simp only [Option.bind_some] at h
  cases hq : w.heap[0]? with
  | none => rw [hq] at h; cases h
  | some o =>
    rw [hq] at h
    cases o with
    | cells cs t f =>
      simp only [Option.some.injEq] at h
      subst h
      refine ⟨⟨t, f, hq⟩, ?_⟩
      rcases Nat.lt_or_ge 0 w.heap.size with h | h
      · exact h
      · rw [Array.getElem?_eq_none h] at hq; cases hq
    | _ => cases h

theorem compressK (s : St) (b : List UInt8) (w : World) (hb : b.length = 64) (hK : KT w) :
    Calls Tryd.prog 95 #[.agg #[U32 s.a, U32 s.b, U32 s.c, U32 s.d, U32 s.e, U32 s.f, U32 s.g, U32 s.h], .agg (b.map by8).toArray] w fun e w' => e = .returned (aggS (compS s b)) ∧ Below w.heap.size w w' := by
  obtain ⟨⟨t, f, h1⟩, h2⟩ := hK
  exact compress_any t f s b w hb h1 h2

/-- A hash's cells: its state, its tail, its length. -/
def cellsH (s : St) (t : Value) (n : Nat) : Array Value := #[U32 s.a, U32 s.b, U32 s.c, U32 s.d, U32 s.e, U32 s.f, U32 s.g, U32 s.h, t, .int .u64 (n : Int)]

/-- A hash as a value. -/
def hashV (s : St) (t : Value) (n : Nat) : Value := .agg (cellsH s t n)

set_option maxRecDepth 20000 in
set_option maxHeartbeats 400000 in
theorem start_any (w : World) : Calls Tryd.prog 75 #[] w fun e w' => e = .returned (hashV startS (.slice none 0 0) 0) ∧ Below w.heap.size w w' := by
  go_enter Tryd.func75, Tryd.ntmps75
  go_wp2
  exact ret_row rfl w.heap.size 137 _ (heap_new _ _ _) _ Tryd.underlying137 10 kR rfl rfl rfl rfl ⟨rfl, (Below.refl _ _).alloc (Nat.le_refl _) _⟩
set_option maxRecDepth 20000 in
set_option maxHeartbeats 400000 in
theorem first_any (w : World) : Calls Tryd.prog 92 #[] w fun e w' => e = .returned (aggS startS) ∧ Below w.heap.size w w' := by
  go_enter Tryd.func92, Tryd.ntmps92
  go_wp2
  exact ret_row rfl w.heap.size 135 _ (heap_new _ _ _) _ Tryd.underlying135 8 kR rfl rfl rfl rfl ⟨rfl, (Below.refl _ _).alloc (Nat.le_refl _) _⟩

end Go.Proofs.YtfhkmmagpnojmaaDoor

/- Whether a hash is valid: what digest.Check, dunnageref01.ValidHash and dunnageref01.Check return. No condition. -/
namespace Go.Proofs.YtfhkmmagpnojmaaDoor
open Go.RowKit

/-- Is a hash of n bytes with a tail of m bytes valid? -/
def chkB (m n : Nat) : Bool := decide (n ≤ 8192) && decide (m = n % 64)
/-- The error of such a hash. -/
def chkE (m n : Nat) : Int := if chkB m n then 0 else 8

set_option maxRecDepth 20000 in
set_option maxHeartbeats 400000 in
theorem check_any (s : St) (a : Option Addr) (m c n : Nat) (w : World) (hm : m ≤ 9223372036854775807) :
    Calls Tryd.prog 88 #[.agg #[U32 s.a, U32 s.b, U32 s.c, U32 s.d, U32 s.e, U32 s.f, U32 s.g, U32 s.h, .slice a m c, .int .u64 (n : Int)]] w fun e w' => e = .returned (.int .i64 (chkE m n)) ∧ Below w.heap.size w w' := by
  by_cases h1 : 8192 < n
  · have hE : chkE m n = 8 := by unfold chkE chkB; rw [decide_eq_false (by omega)]; rfl
    rw [hE]; clear hE
    have h1' : (8192 : Int) < (n : Int) := by omega
    go_enter Tryd.func88, Tryd.ntmps88
    go_wp2
    go_ret
    exact ⟨rfl, below1 _ _⟩
  · have h1' : ¬ (8192 : Int) < (n : Int) := by omega
    by_cases h2 : m = n % 64
    · have hE : chkE m n = 0 := by unfold chkE chkB; rw [decide_eq_true (by omega), decide_eq_true h2]; rfl
      have ht : ((m : Int) != (n : Int) % 64) = false := by rw [bne_eq_false_iff_eq]; omega
      rw [hE]; clear hE h2
      go_enter Tryd.func88, Tryd.ntmps88
      go_wp2
      go_ret
      exact ⟨rfl, below1 _ _⟩
    · have hE : chkE m n = 8 := by unfold chkE chkB; rw [decide_eq_false h2, Bool.and_false]; rfl
      have ht : ((m : Int) != (n : Int) % 64) = true := by rw [bne_iff_ne]; omega
      rw [hE]; clear hE h2
      go_enter Tryd.func88, Tryd.ntmps88
      go_wp2
      go_ret
      exact ⟨rfl, below1 _ _⟩

end Go.Proofs.YtfhkmmagpnojmaaDoor

/- The complete blocks of some bytes, compressed into a state: what digest.absorb returns, for bytes that lie anywhere; new memory alone. No condition but the table of constants. -/
namespace Go.Proofs.YtfhkmmagpnojmaaDoor
open Go.RowKit

/-- What a call leaves that returns a state and bytes that stood. -/
def StateRest (w : World) (s : St) (xs : List UInt8) (e : Ending) (w' : World) : Prop :=
  ∃ v', e = .returned (.tuple #[aggS s, v']) ∧ Bs w v' xs ∧ Below w.heap.size w w'

theorem Bs.range {w : World} {b off cap n : Nat} {ys : List UInt8} (h : Bs w (.slice (some ⟨b, off, none⟩) n cap) ys) : w.rangeAt b off (ys.map by8) := by
  intro j v hj
  rcases h.cases with ⟨a, ha, hy⟩ | ⟨b', off', cap', hv, h1, h2, hc⟩
  · subst hy
    simp at hj
  · simp only [Value.slice.injEq, Option.some.injEq, Addr.mk.injEq, and_true] at hv
    obtain ⟨⟨rfl, rfl⟩, _, rfl⟩ := hv
    obtain ⟨hlt, rfl⟩ := List.getElem?_eq_some_iff.1 hj
    have := hc j (by simpa using hlt)
    simpa using this

theorem rangeAt_part {w : World} {b o : Nat} {cs : List Value} (h : w.rangeAt b o cs) (n : Nat) : w.rangeAt b o (cs.take n) := fun j v hj => by
  rw [List.getElem?_take] at hj
  split at hj
  · exact h j v hj
  · cases hj

theorem absS_succ (s : St) (xs : List UInt8) (k : Nat) : absS s xs (k + 1) = compS (absS s xs k) ((xs.drop (64 * k)).take 64) := rfl

/-- What stands at the head of a round. -/
structure AbsF (w : World) (r : St) (wr : World) : Prop where
  below : Below w.heap.size w wr
  st : wr.heap[w.heap.size]? = some (.cells (cellsS r) 135 (0, 0))
  res : wr.heap[w.heap.size + 1]? = some (.cells (cellsS ⟨0, 0, 0, 0, 0, 0, 0, 0⟩) 135 (0, 0))
  sz : w.heap.size + 2 ≤ wr.heap.size

theorem absF_new (w : World) (r : St) : AbsF w r ((w.alloc (.cells (cellsS r) 135)).alloc (.cells (cellsS ⟨0, 0, 0, 0, 0, 0, 0, 0⟩) 135)) := by
  refine ⟨below2 _ _ _, heap_later (below1 _ _) (by simp) (heap_new _ _ _), ?_, by simp⟩
  have := heap_new (w.alloc (.cells (cellsS r) 135)) (cellsS ⟨0, 0, 0, 0, 0, 0, 0, 0⟩) 135
  simpa using this

theorem AbsF.next {w wr w1 : World} {r r' : St} (h : AbsF w r wr) (hb : Below wr.heap.size wr w1) : AbsF w r' (w1.setRow w.heap.size (cellsS r')) := by
  have hs := h.sz
  have hs1 := hb.size
  refine ⟨below_row (h.below.trans (hb.mono (by omega))) (Nat.le_refl _) _, ?_, ?_, by simp; omega⟩
  · exact setRow_heap _ _ _ _ _ _ ((hb.block _ (by omega)).trans h.st)
  · rw [setRow_other _ _ _ _ (by omega)]
    exact (hb.block _ (by omega)).trans h.res

theorem AbsF.drew {w wr : World} {r : St} (h : AbsF w r wr) : AbsF w r wr.drew := ⟨⟨h.below.os, h.below.tape, h.below.output, h.below.size, h.below.block⟩, h.st, h.res, h.sz⟩

theorem AbsF.range {w wr : World} {r : St} (h : AbsF w r wr) : wr.rangeAt w.heap.size 0 [U32 r.a, U32 r.b, U32 r.c, U32 r.d, U32 r.e, U32 r.f, U32 r.g, U32 r.h] := by
  have := rangeAt_of_row h.st 0 8
  simpa [cellsS] using this

set_option maxRecDepth 20000 in
set_option maxHeartbeats 1000000 in
theorem absorb_any (s : St) (v : Value) (xs : List UInt8) (w : World) (hv : Bs w v xs) (hK : KT w) :
    Calls Tryd.prog 89 #[.agg #[U32 s.a, U32 s.b, U32 s.c, U32 s.d, U32 s.e, U32 s.f, U32 s.g, U32 s.h], v] w (StateRest w (absS s xs (xs.length / 64)) (xs.drop (64 * (xs.length / 64)))) := by
  obtain ⟨a, c, rfl, hc1, hc2⟩ := Sl.shape hv
  unfold maxLen at hc2
  have HV := Lib.hid hv; have HK := Lib.hid hK; clear hv hK
  have hF0 := absF_new w s
  have HF0 := Lib.hid hF0; clear hF0
  go_enter Tryd.func89, Tryd.ntmps89
  go_wp2
  go_loopw [1] (fun t wr => ∃ (k : Nat) (a' : Option Addr) (c' : Nat), 64 * k ≤ xs.length ∧ t = .slice a' (xs.length - 64 * k) c' ∧ Bs w (.slice a' (xs.length - 64 * k) c') (xs.drop (64 * k)) ∧ AbsF w (absS s xs k) wr)
    (fun t _ => match t with | .slice _ n _ => n | _ => 0)
  case atStart => exact ⟨0, a, c, by omega, rfl, by simpa using HV.out, HF0.out⟩
  case round =>
    obtain ⟨k, a', c', hk, rfl, hb, hF⟩ := hrel
    clear HF0
    by_cases hlt : 64 ≤ xs.length - 64 * k
    · have hlen : (xs.drop (64 * k)).length = xs.length - 64 * k := by simp
      have hbl : ((xs.drop (64 * k)).take 64).length = 64 := by simp; omega
      obtain ⟨b, off, rfl, hcc⟩ : ∃ b off, a' = some ⟨b, off, none⟩ ∧ xs.length - 64 * k ≤ c' := by
        rcases hb.cases with ⟨a0, ha, h0⟩ | ⟨b, off, cap, hv, h1, h2, hc⟩
        · rw [h0] at hlen; simp at hlen; omega
        · simp only [Value.slice.injEq] at hv
          obtain ⟨rfl, _, rfl⟩ := hv
          exact ⟨b, off, rfl, by omega⟩
      obtain ⟨a2, hif, hp⟩ := Sl.part (show Sl w 1 (.slice (some ⟨b, off, none⟩) (xs.length - 64 * k) c') (xs.length - 64 * k) ((xs.drop (64 * k)).map by8) by have := hb; unfold Bs at this; rwa [hlen] at this) 64 (xs.length - 64 * k - 64) (by omega)
      simp only [Nat.mul_one] at hif hp
      have hp2 : Bs w (.slice a2 (xs.length - 64 * (k + 1)) (c' - 64)) (xs.drop (64 * (k + 1))) := by
        have e1 : (xs.drop (64 * (k + 1))).length = xs.length - 64 * k - 64 := by simp; omega
        have e2 : ((xs.drop (64 * k)).map by8).drop 64 = (xs.drop (64 * (k + 1))).map by8 := by rw [← List.map_drop, List.drop_drop]; rfl
        have e3 : xs.length - 64 * (k + 1) = xs.length - 64 * k - 64 := by omega
        unfold Bs
        rw [e1, e3]
        rw [e2, List.take_of_length_le (by rw [List.length_map, e1]; exact Nat.le_refl _)] at hp
        exact hp
      have hr64 : wr.rangeAt b off (((xs.drop (64 * k)).take 64).map by8) := by
        rw [List.map_take]
        exact rangeAt_part (hb.below hF.below).range 64
      have hr8 := hF.range
      have hKr : KT wr.drew := HK.out.later (B := w.heap.size) hF.drew.below (Nat.le_refl _)
      have hi64 : (Tryd.prog.info? 175).map (·.size) = some (((xs.drop (64 * k)).take 64).map by8).length := by
        have h : (Tryd.prog.info? 175).map (·.size) = some 64 := by kernel_rfl
        rw [h, List.length_map, hbl]
      have hst : wr.heap[w.heap.size]? = some (.cells (cellsS (absS s xs k)) 135 (0, 0)) := hF.st
      have hsz := hF.sz
      have hcp := fun w1 (h : KT w1) => compressK (absS s xs k) ((xs.drop (64 * k)).take 64) w1 hbl h
      obtain ⟨r, hr⟩ : ∃ r, r = absS s xs k := ⟨_, rfl⟩
      obtain ⟨C, hC⟩ : ∃ C, C = ((xs.drop (64 * k)).take 64).map by8 := ⟨_, rfl⟩
      rw [← absS_succ, ← hr, ← hC] at hcp
      rw [← hr] at hr8 hst hF
      rw [← hC] at hr64 hi64
      have hl64 : 64 ≤ xs.length - 64 * k := hlt
      have har := fun w' => run_arrayAt (P := Tryd.prog) w' 175 5 64 (some ⟨b, off, none⟩) (xs.length - 64 * k) c' Tryd.underlying175 hl64
      have HCP := Lib.hid hcp; have HR8 := Lib.hid hr8; have HST := Lib.hid hst; have HF := Lib.hid hF; have HR64 := Lib.hid hr64; have HI64 := Lib.hid hi64; have HKR := Lib.hid hKr; have HP2 := Lib.hid hp2; clear hcp hr8 hst hF hr64 hi64 hKr hp2
      clear hr hC hb hp hlen hbl
      go_wp2_with fail
      refine wp_region_still_tail 4 kR kR ?_
      simp only [List.take_succ_cons, List.take_zero, List.drop_succ_cons, List.drop_zero]
      refine wpStill_load_mid rfl 135 (.tmp 2) rfl w.heap.size 0 rfl [U32 r.a, U32 r.b, U32 r.c, U32 r.d, U32 r.e, U32 r.f, U32 r.g, U32 r.h] _ HR8.out Tryd.underlying135 rfl kR ?_
      still_step
      still_step
      refine wpStill_load_mid rfl 175 (.tmp 11) rfl b off rfl C _ HR64.out Tryd.underlying175 rfl HI64.out ?_
      refine wpStill_nil ?_
      change wpList _ _ _ _ _ wr.drew
      simp only [Act.put, List.setIfInBounds_toArray, List.set_cons_zero, List.set_cons_succ]
      go_wp2_with (first | (go_at_call 95; (with_reducible refine (HCP.out _ HKR.out).mono ?_); rintro e w1 ⟨rfl, hb1⟩; have HB1 := Lib.hid hb1; clear hb1; unfold aggS) | ((with_reducible refine iO none (.store 135 (.tmp 2) (.tmp 13)) ?_); refine wpList_store_rowN rfl 135 (.tmp 2) (.tmp 13) rfl (w.heap.size) _ rfl rfl 135 _ ((HB1.out.block _ (by have := hsz; simp; omega)).trans HST.out) 8 kR rfl rfl (by simp [U32_one, one_slice, one_int, one_bool]) ?_) | fail)
      go_roundw
      case rel =>
        exact ⟨k + 1, a2, c' - 64, by omega, by congr 1, HP2.out, HF.out.drew.next HB1.out⟩
      case measure => simp; omega
    · have hkk : k = xs.length / 64 := by omega
      have HF := Lib.hid hF; have HB := Lib.hid hb; have HKK := Lib.hid hkk; clear hF hb hkk
      have hsz := HF.out.sz
      go_wp2_with (first | ((with_reducible refine iD 16 (_) ?_); refine wpList_load_rowN rfl 135 (.tmp 2) rfl w.heap.size rfl 135 (cellsS (absS s xs k)) (0, 0) _ HF.out.st Tryd.underlying135 rfl 8 kR rfl ?_) | ((with_reducible refine iO none (.store 135 (.tmp 4) (.tmp 16)) ?_); refine wpList_store_rowN rfl 135 (.tmp 4) (.tmp 16) rfl (w.heap.size + 1) (cellsS (absS s xs k)) rfl rfl 135 _ HF.out.res 8 kR rfl rfl (by simp [cellsS, U32_one]) ?_))
      refine ret_row_tmp rfl (w.heap.size + 1) 135 (cellsS (absS s xs k)) (setRow_heap _ _ _ _ _ _ HF.out.res) _ Tryd.underlying135 8 kR rfl rfl rfl rfl ?_
      rw [← HKK.out]
      exact ⟨_, rfl, HB.out, below_row HF.out.below (by omega) _⟩
end Go.Proofs.YtfhkmmagpnojmaaDoor

/- The complete blocks of some bytes, compressed into a state: what dunnageref01.blocks returns, for bytes that lie anywhere; new memory alone. No condition. -/
namespace Go.Proofs.YtfhkmmagpnojmaaDoor
open Go.RowKit

/-- Bytes, and zeros behind them, as a block's cells. -/
def cellsB (bs : List UInt8) (n : Nat) : Array Value := ((bs ++ List.replicate (n - bs.length) 0).map by8).toArray

theorem cellsB_set (bs : List UInt8) (x : UInt8) (n : Nat) (h : bs.length < n) : (cellsB bs n).setIfInBounds bs.length (by8 x) = cellsB (bs ++ [x]) n := by
  apply Array.ext'
  simp only [cellsB, Array.toList_setIfInBounds, List.map_append, List.map_replicate, List.length_append, List.length_cons, List.length_nil]
  rw [List.set_append_right _ _ (by simp)]
  obtain ⟨m, hm⟩ : ∃ m, n - bs.length = m + 1 := ⟨n - bs.length - 1, by omega⟩
  have hm2 : n - (bs.length + 1) = m := by omega
  rw [List.length_map, Nat.sub_self, Nat.zero_add, hm, hm2]
  simp [List.replicate_succ]

theorem cellsB_any (bs : List UInt8) (n j : Nat) (h : j < n) (hb : bs.length ≤ n) : ∃ x, (cellsB bs n)[j]? = some x := ⟨_, Array.getElem?_eq_getElem (by simp [cellsB]; omega)⟩

theorem store_B {w : World} {g : Nat} {t : TypeId} {bs : List UInt8} {n : Nat} (h : w.heap[g]? = some (.cells (cellsB bs n) t (0, 0))) (x : UInt8) (hl : bs.length < n) (k : Nat) (hk : k = bs.length) :
    (w.setCell ⟨g, k, none⟩ (by8 x)).heap[g]? = some (.cells (cellsB (bs ++ [x]) n) t (0, 0)) := by
  subst hk
  rw [heap_setCell_same w g _ _ _ _ h, cellsB_set bs x n hl]

theorem take_succ8 (ys : List UInt8) (i : Nat) (hi : i < ys.length) : ys.take (i + 1) = ys.take i ++ [ys[i]] := List.take_succ_eq_append_getElem hi

theorem AbsF.mono {w wr wr' : World} {r : St} (h : AbsF w r wr) (hb : Below wr.heap.size wr wr') : AbsF w r wr' := by
  have := h.sz
  have := hb.size
  exact ⟨h.below.trans (hb.mono (by omega)), (hb.block _ (by omega)).trans h.st, (hb.block _ (by omega)).trans h.res, by omega⟩

theorem below_grown_new {w wr : World} {o : Obj} {g : Nat} (h : (w.alloc o).grownBy wr (some g)) (hg : g = w.heap.size) : Below w.heap.size w wr :=
  (below1 w o).grown h (by simp) (fun k hk => by simp at hk; omega)

set_option maxRecDepth 20000 in
set_option maxHeartbeats 2000000 in
theorem blocks_any (s : St) (v : Value) (xs : List UInt8) (w : World) (hv : Bs w v xs) :
    Calls Tryd.prog 98 #[.agg #[U32 s.a, U32 s.b, U32 s.c, U32 s.d, U32 s.e, U32 s.f, U32 s.g, U32 s.h], v] w (StateRest w (absS s xs (xs.length / 64)) (xs.drop (64 * (xs.length / 64)))) := by
  obtain ⟨a, c, rfl, hc1, hc2⟩ := Sl.shape hv
  unfold maxLen at hc2
  have HV := Lib.hid hv; clear hv
  have hF0 := absF_new w s
  have HF0 := Lib.hid hF0; clear hF0
  go_enter Tryd.func98, Tryd.ntmps98
  go_wp2
  go_loopw [1] (fun t wr => ∃ (k : Nat) (a' : Option Addr) (c' : Nat), 64 * k ≤ xs.length ∧ t = .slice a' (xs.length - 64 * k) c' ∧ Bs w (.slice a' (xs.length - 64 * k) c') (xs.drop (64 * k)) ∧ AbsF w (absS s xs k) wr)
    (fun t _ => match t with | .slice _ n _ => n | _ => 0)
  case atStart => exact ⟨0, a, c, by omega, rfl, by simpa using HV.out, HF0.out⟩
  case round =>
    obtain ⟨k, a', c', hk, rfl, hb, hF⟩ := hrel
    clear HF0
    by_cases hlt : 64 ≤ xs.length - 64 * k
    · have hlen : (xs.drop (64 * k)).length = xs.length - 64 * k := by simp
      have hbl : ((xs.drop (64 * k)).take 64).length = 64 := by simp; omega
      obtain ⟨b, off, rfl, hcc⟩ : ∃ b off, a' = some ⟨b, off, none⟩ ∧ xs.length - 64 * k ≤ c' := by
        rcases hb.cases with ⟨a0, ha, h0⟩ | ⟨b, off, cap, hv, h1, h2, hc⟩
        · rw [h0] at hlen; simp at hlen; omega
        · simp only [Value.slice.injEq] at hv
          obtain ⟨rfl, _, rfl⟩ := hv
          exact ⟨b, off, rfl, by omega⟩
      obtain ⟨a2, hif, hp⟩ := Sl.part (show Sl w 1 (.slice (some ⟨b, off, none⟩) (xs.length - 64 * k) c') (xs.length - 64 * k) ((xs.drop (64 * k)).map by8) by have := hb; unfold Bs at this; rwa [hlen] at this) 64 (xs.length - 64 * k - 64) (by omega)
      simp only [Nat.mul_one] at hif hp
      have hp2 : Bs w (.slice a2 (xs.length - 64 * (k + 1)) (c' - 64)) (xs.drop (64 * (k + 1))) := by
        have e1 : (xs.drop (64 * (k + 1))).length = xs.length - 64 * k - 64 := by simp; omega
        have e2 : ((xs.drop (64 * k)).map by8).drop 64 = (xs.drop (64 * (k + 1))).map by8 := by rw [← List.map_drop, List.drop_drop]; rfl
        have e3 : xs.length - 64 * (k + 1) = xs.length - 64 * k - 64 := by omega
        unfold Bs
        rw [e1, e3]
        rw [e2, List.take_of_length_le (by rw [List.length_map, e1]; exact Nat.le_refl _)] at hp
        exact hp
      have hr64 : wr.rangeAt b off (((xs.drop (64 * k)).take 64).map by8) := by
        rw [List.map_take]
        exact rangeAt_part (hb.below hF.below).range 64
      have hbb : b < wr.heap.size := World.block_lt_of_cell? wr _ (hr64 0 (by8 (((xs.drop (64 * k)).take 64)[0]'(by omega))) (by rw [List.getElem?_map, List.getElem?_eq_getElem (by omega)]; rfl))
      obtain ⟨C, hC⟩ : ∃ C, C = (xs.drop (64 * k)).take 64 := ⟨_, rfl⟩
      have hcp := fun w1 => refCompress_any (absS s xs k) C w1 (by rw [hC]; exact hbl)
      obtain ⟨r, hr⟩ : ∃ r, r = absS s xs k := ⟨_, rfl⟩
      rw [hC, ← absS_succ, ← hC, ← hr] at hcp
      rw [← hr] at hF
      rw [← hC] at hr64 hbl
      have hl64 : 64 ≤ xs.length - 64 * k := hlt
      have hsz := hF.sz
      have hi64 : (Tryd.prog.info? 175).map (·.size) = some (C.map by8).length := by
        have h : (Tryd.prog.info? 175).map (·.size) = some 64 := by kernel_rfl
        rw [h, List.length_map, hbl]
      have HCP := Lib.hid hcp; have HF := Lib.hid hF; have HR64 := Lib.hid hr64; have HP2 := Lib.hid hp2; have HBL := Lib.hid hbl; have HI64 := Lib.hid hi64; clear hcp hF hr64 hp2 hbl hi64
      clear hr hC hb hp hlen
      obtain ⟨wo, hwo⟩ : ∃ wo, wo = wr := ⟨_, rfl⟩
      rw [← hwo] at HF HR64 hsz hbb ⊢
      clear hwo
      have hZ : cellsB [] 64 = (cellsB [] 64) := rfl
      go_wp2_with fail
      go_loopw [7] (fun t wq => ∃ i : Nat, i ≤ 64 ∧ t = .int .i64 (i : Int) ∧ wq.heap[wo.heap.size]? = some (.cells (cellsB (C.take i) 64) 175 (0, 0)) ∧ (wo.alloc (.cells (cellsB [] 64) 175)).grownBy wq (some wo.heap.size)) (fun t _ => 64 - (intOf t).toNat)
      case atStart => exact ⟨0, by omega, rfl, heap_new wo (cellsB [] 64) 175, World.grownBy.refl _ _⟩
      case round =>
        obtain ⟨i, hi, rfl, hh, hg⟩ := hrel
        by_cases hi64 : i < 64
        · have hCi : (C.take i).length = i := by have := HBL.out; simp; omega
          have hx : i < C.length := by have := HBL.out; omega
          have hci : wr.cell? ⟨b, off + i, none⟩ = some (by8 C[i]) := by
            have h1 := HR64.out i (by8 C[i]) (by simp [List.getElem?_map, hx])
            have h2 : (wo.alloc (.cells (cellsB [] 64) 175)).cell? ⟨b, off + i, none⟩ = some (by8 C[i]) := ((below1 wo _).cell (by exact hbb)).trans h1
            exact hg.cell h2 (by simp; omega)
          have hfr := frozen_row hh i
          obtain ⟨old, hold⟩ := cellsB_any (C.take i) 64 i hi64 (by omega)
          have hco : wr.cell? ⟨wo.heap.size, i, none⟩ = some old := (cell_row hh i).trans hold
          have hst := store_B hh C[i] (by omega) i hCi.symm
          have hgs := grown_set hg i (by8 C[i])
          rw [← take_succ8 C i hx] at hst
          obtain ⟨y, hy⟩ : ∃ y, y = C[i] := ⟨_, rfl⟩
          rw [← hy] at hci hst hgs
          have l0 : (i : Int) < 64 := by omega
          have l1 : i < xs.length - 64 * k := by omega
          have HST := Lib.hid hst; have HGS := Lib.hid hgs; clear hst hgs
          clear hold hCi hh hg hy hx
          go_wp2_with fail
          go_roundw
          case rel => exact ⟨i + 1, by omega, by go_num, HST.out, HGS.out⟩
          case measure => simp [intOf]; omega
        · obtain rfl : i = 64 := by omega
          have hCt : C.take 64 = C := List.take_of_length_le (by rw [HBL.out]; exact Nat.le_refl _)
          rw [hCt] at hh
          have hCz : cellsB C 64 = (C.map by8).toArray := by unfold cellsB; rw [HBL.out]; simp
          rw [hCz] at hh
          have hbw := below_grown_new hg rfl
          have hF2 := HF.out.mono hbw
          have hF := hF2
          have hr8 := hF2.range
          have hst := hF2.st
          have hszr := hF2.sz
          have hr64b := rangeAt_of_row hh 0 64
          have HBW := Lib.hid hbw; have HF := Lib.hid hF; have HST := Lib.hid hst; have HH := Lib.hid hh; clear hbw hF hst hh
          clear hF2 hg hCt hCz hr8 hr64b
          go_wp2_with (first | ((with_reducible refine iD 21 (_) ?_); refine wpList_load_rowN rfl 135 (.tmp 2) rfl w.heap.size rfl 135 #[U32 r.a, U32 r.b, U32 r.c, U32 r.d, U32 r.e, U32 r.f, U32 r.g, U32 r.h] (0, 0) _ HST.out Tryd.underlying135 rfl 8 kR rfl ?_) | ((with_reducible refine iD 22 (_) ?_); refine wpList_load_rowN rfl 175 (.tmp 6) rfl wo.heap.size rfl 175 (C.map by8).toArray (0, 0) _ HH.out Tryd.underlying175 rfl 64 kR (by simp [HBL.out]) ?_) | (go_at_call 100; (with_reducible refine (HCP.out _).mono ?_); rintro e w1 ⟨rfl, hb1⟩; have HB1 := Lib.hid hb1; clear hb1; unfold aggS) | ((with_reducible refine iO none (.store 135 (.tmp 2) (.tmp 23)) ?_); refine wpList_store_rowN rfl 135 (.tmp 2) (.tmp 23) rfl (w.heap.size) _ rfl rfl 135 _ ((HB1.out.block _ (by omega)).trans HST.out) 8 kR rfl rfl (by simp [U32_one, one_slice, one_int, one_bool]) ?_) | fail)
          go_roundw
          case rel => exact ⟨k + 1, a2, c' - 64, by omega, by congr 1, HP2.out, HF.out.next HB1.out⟩
          case measure => simp; omega
    · have hkk : k = xs.length / 64 := by omega
      have HF := Lib.hid hF; have HB := Lib.hid hb; have HKK := Lib.hid hkk; clear hF hb hkk
      have hsz := HF.out.sz
      go_wp2_with (first | ((with_reducible refine iD 26 (_) ?_); refine wpList_load_rowN rfl 135 (.tmp 2) rfl w.heap.size rfl 135 (cellsS (absS s xs k)) (0, 0) _ HF.out.st Tryd.underlying135 rfl 8 kR rfl ?_) | ((with_reducible refine iO none (.store 135 (.tmp 4) (.tmp 26)) ?_); refine wpList_store_rowN rfl 135 (.tmp 4) (.tmp 26) rfl (w.heap.size + 1) (cellsS (absS s xs k)) rfl rfl 135 _ HF.out.res 8 kR rfl rfl (by simp [cellsS, U32_one]) ?_))
      refine ret_row_tmp rfl (w.heap.size + 1) 135 (cellsS (absS s xs k)) (setRow_heap _ _ _ _ _ _ HF.out.res) _ Tryd.underlying135 8 kR rfl rfl rfl rfl ?_
      rw [← HKK.out]
      exact ⟨_, rfl, HB.out, below_row HF.out.below (by omega) _⟩
end Go.Proofs.YtfhkmmagpnojmaaDoor

/- What follows n bytes ahead of the last block: what dunnageref01.Pad returns, in new memory. No condition but the number's bound. -/
namespace Go.Proofs.YtfhkmmagpnojmaaDoor
open Go.RowKit

theorem padB_eq (n : Nat) : padB n = 128 :: List.replicate ((119 - n % 64) % 64) 0 ++ numB (8 * n) 8 := by
  unfold padB padB.numB'
  simp [numB]

set_option maxRecDepth 20000 in
set_option maxHeartbeats 400000 in
theorem pad_any (n : Nat) (w : World) (hn : n ≤ 1000000000) :
    Calls Tryd.prog 97 #[.int .u64 (n : Int)] w (Fresh w (padB n)) := by
  have hz : (119 - n % 64) % 64 ≤ 63 := by omega
  obtain ⟨z, hzz⟩ : ∃ z, z = (119 - n % 64) % 64 := ⟨_, rfl⟩
  have hpe := padB_eq n
  rw [← hzz] at hpe hz
  have hmod : ∀ k, k < z → ((n : Int) + ((k : Int) + 1) + 8) % 64 ≠ 0 := by intro k hk; omega
  have hend : ((n : Int) + ((z : Int) + 1) + 8) % 64 = 0 := by omega
  have HPE := Lib.hid hpe; have HMOD := Lib.hid hmod; have HEND := Lib.hid hend; have HZZ := Lib.hid hzz; clear hpe hmod hend hzz
  go_enter Tryd.func97, Tryd.ntmps97
  go_wp2
  go_loopw [3] (fun t wr => ∃ k : Nat, k ≤ z ∧ wr.ownsRow w.heap.size 5 1 t (k + 1) ((128 :: List.replicate k 0).map by8) ∧ Below w.heap.size w wr ∧ (∃ a c, t = .slice a (k + 1) c)) (fun t _ => match t with | .slice _ m _ => 65 - m | _ => 0)
  case atStart => exact ⟨0, by omega, by have := World.ownsRow_lit (base := w.heap.size) (e := 5) (size := 1) w #[.int .u8 128] 1 (Nat.le_refl _) (by decide) rfl; exact this, below1 _ _, _, _, rfl⟩
  case round =>
    obtain ⟨k, hk, hown, hb, a, c, rfl⟩ := hrel
    have hsz := hb.size
    by_cases hlt : k < z
    · have ht : (((n : Int) + ((k : Int) + 1) + 8) % 64 != 0) = true := by rw [bne_iff_ne]; exact HMOD.out k hlt
      have HO := Lib.hid hown; have HB := Lib.hid hb; clear hown hb
      go_wp2_with (at_builtin; refine wpList_append_grew _ rfl (.tmp 13) (.tmp 14) 25 rfl w.heap.size 5 (.int .u8 0) 1 1 Tryd.underlying25 Tryd.infoB rfl (by decide) _ _ _ rfl (HO.out.alloc _) _ 1 [.int .u8 0] rfl (Sl.one _ _ _) ?c1 ?c2 ?c3 ?c4 ?_)
      case c1 => intro u hu; simp at hu; subst hu; rfl
      case c2 => unfold maxLen; omega
      case c3 => omega
      case c4 => simp; omega
      intro v' w1 hown1 hgrow
      have hb1 := HB.out.trans ((((Below.refl w.heap.size wr)).alloc hsz _).trans (hgrow.belowOwn (HO.out.alloc _) (Nat.le_refl _) (by simp; omega)))
      have hsh := own_shape hown1
      have ho1 := own_eq (n' := k + 1 + 1) (xs' := (128 :: List.replicate (k + 1) 0).map by8) hown1 (by omega) (by simp [List.replicate_succ'])
      have HO1 := Lib.hid ho1; have HB1 := Lib.hid hb1; clear ho1 hb1
      clear hown1 hgrow
      rcases hsh with ⟨_, h0⟩ | ⟨g, cap, hv1, _⟩
      · omega
      subst hv1
      go_wp2
      go_roundw
      case rel => exact ⟨k + 1, by omega, HO1.out, HB1.out, _, _, rfl⟩
      case measure => simp; omega
    · obtain rfl : k = z := by omega
      have ht : (((n : Int) + ((k : Int) + 1) + 8) % 64 != 0) = false := by rw [bne_eq_false_iff_eq]; exact HEND.out
      have HO := Lib.hid hown; have HB := Lib.hid hb; clear hown hb
      have hnum : ∀ w1, Calls Tryd.prog 79 #[.int .u64 (8 * (n : Int)), .int .i64 8] w1 (Fresh w1 (numB (8 * n) 8)) := fun w1 => by
        have h := number_any (8 * n) 8 w1 (by omega) (by omega)
        rw [show ((8 * n : Nat) : Int) = 8 * (n : Int) by omega] at h
        exact h
      have hsz2 := hsz
      have HNUM := Lib.hid hnum; clear hnum
      go_wp2_with (first | (go_at_call 79; (with_reducible refine (HNUM.out _).mono ?_); rintro e w1 ⟨v1, rfl, ho1, hb1⟩; have HO1 := Lib.hid ho1; have HB1 := Lib.hid hb1; clear ho1 hb1) | (at_builtin; refine wpList_append_grew _ rfl (.tmp 16) (.tmp 19) 25 rfl w.heap.size 5 (.int .u8 0) 1 1 Tryd.underlying25 Tryd.infoB rfl (by decide) _ _ _ rfl (own_later HO.out HB1.out) _ _ _ rfl (Sl.of_own HO1.out) ?d1 ?d2 ?d3 ?d4 ?_) | fail)
      case d1 => exact oneCell_u8 _
      case d2 => rw [numB_length]; unfold maxLen; omega
      case d3 => rw [numB_length]; omega
      case d4 => exact Nat.le_trans hsz HB1.out.size
      intro v2 w2 hown2 hgrow
      have hb2 := (HB.out.trans (HB1.out.mono hsz)).trans (hgrow.belowOwn (own_later HO.out HB1.out) (Nat.le_refl _) (Nat.le_trans hsz HB1.out.size))
      have ho2 := own_eq (n' := (padB n).length) (xs' := (padB n).map by8) hown2 (by rw [HPE.out]; simp [numB_length] <;> omega) (by rw [HPE.out]; simp)
      have HO2 := Lib.hid ho2; have HB2 := Lib.hid hb2; clear ho2 hb2
      clear hown2 hgrow
      go_wp2
      go_ret
      exact ⟨_, rfl, HO2.out, HB2.out⟩
end Go.Proofs.YtfhkmmagpnojmaaDoor

/- Two pieces of bytes, joined in new memory: what slices.Concat returns; what slices.Grow returns of nil. No condition but on the sizes. -/
namespace Go.Proofs.YtfhkmmagpnojmaaDoor
open Go.RowKit

set_option maxRecDepth 20000 in
set_option maxHeartbeats 1000000 in
theorem grow_any (n : Nat) (w : World) (hn : n ≤ 140737488355328) :
    Calls Tryd.prog 96 #[.slice none 0 0, .int .i64 (n : Int)] w (Fresh w []) := by
  by_cases h0 : n = 0
  · subst h0
    go_enter Tryd.func96, Tryd.ntmps96
    go_wp2
    go_ret
    exact ⟨_, rfl, World.ownsRow_nil _ _ _ _, Below.refl _ _⟩
  · have h1 : 0 < (n : Int) := by omega
    obtain ⟨i0, hi, hz, hs, hb⟩ := info_parts Tryd.infoB
    have hrz : ∀ ty, (Builtin.append_ #[25, 3] ty #[.slice none 0 0, .int .i64 (n : Int)]).run Tryd.prog w =
        .ok (.slice (some ⟨w.heap.size, 0, none⟩) n (grownCap w n 0 5)) (w.drew.alloc (.cells (#[] ++ Builtin.zeroCells (Value.int .u8 0).cells n ++ Builtin.zeroCells (Value.int .u8 0).cells (grownCap w n 0 5 - n)) 5)) := fun ty => by
      have h := Lib.run_append_grow_zeros w 25 3 ty 5 i0 (.int .u8 0) .i64 .i64 Tryd.underlying25 Tryd.underlying3 hi hz none 0 0 [] (run_firstCells_none w.drew i0.size 0 0 0) n (by omega) (by omega) (by omega) (by omega) (by rw [hb]; omega) (by rw [Nat.zero_add]; exact growslice_fits (by omega) (by rw [hb]; omega))
      rw [Nat.zero_add] at h
      exact h
    have hge := grownCap_ge w n 0 5
    have hle := grownCap_le_maxLen w n 0 5 (by unfold maxLen; omega)
    obtain ⟨G, hG⟩ : ∃ G, G = grownCap w n 0 5 := ⟨_, rfl⟩
    rw [← hG] at hrz hge hle
    have hown : (w.drew.alloc (.cells (#[] ++ Builtin.zeroCells (Value.int .u8 0).cells n ++ Builtin.zeroCells (Value.int .u8 0).cells (G - n)) 5)).ownsRow w.heap.size 5 1 (.slice (some ⟨w.heap.size, 0, none⟩) 0 G) 0 [] :=
      World.ownsRow_made (base := w.heap.size) (e := 5) (size := 1) w.drew _ G (Nat.le_refl _) hle (by simp only [Array.size_append, size_zeroCells, Array.size_empty, show (Value.int IntKind.u8 0).cells.size = 1 from rfl]; omega)
    obtain ⟨X, hX⟩ : ∃ X, X = #[] ++ Builtin.zeroCells (Value.int .u8 0).cells n ++ Builtin.zeroCells (Value.int .u8 0).cells (G - n) := ⟨_, rfl⟩
    rw [← hX] at hrz hown
    unfold maxLen at hle
    have HRZ := Lib.hid hrz; have HO := Lib.hid hown
    clear hX hG hrz hown hi hz hs hb
    go_enter Tryd.func96, Tryd.ntmps96
    go_wp2_with (at_builtin; refine Lib.wpList_append_run _ rfl _ _ _ _ rfl _ _ rfl rfl _ _ (HRZ.out _) ?_)
    go_ret
    exact ⟨_, rfl, HO.out, (Below.refl w.heap.size w).drew.alloc (Nat.le_refl _) _⟩

set_option maxRecDepth 20000 in
set_option maxHeartbeats 1000000 in
theorem concat_any (g : Nat) (v1 v2 : Value) (xs ys : List UInt8) (w : World) (h1 : w.cell? ⟨g, 0, none⟩ = some v1) (h2 : w.cell? ⟨g, 1, none⟩ = some v2) (hx : Bs w v1 xs) (hy : Bs w v2 ys)
    (hl : xs.length + ys.length ≤ 140737488355328) :
    Calls Tryd.prog 90 #[.slice (some ⟨g, 0, none⟩) 2 2] w (Fresh w (xs ++ ys)) := by
  obtain ⟨a1, c1, rfl, _, _⟩ := Sl.shape hx
  obtain ⟨a2, c2, rfl, _, _⟩ := Sl.shape hy
  have hg : g < w.heap.size := World.block_lt_of_cell? w _ h1
  have HX := Lib.hid hx; have HY := Lib.hid hy; clear hx hy
  have hgr : ∀ w1, Calls Tryd.prog 96 #[.slice none 0 0, .int .i64 ((xs.length : Int) + (ys.length : Int))] w1 (Fresh w1 []) := fun w1 => by
    have h := grow_any (xs.length + ys.length) w1 hl
    rw [show ((xs.length + ys.length : Nat) : Int) = (xs.length : Int) + (ys.length : Int) by omega] at h
    exact h
  have HGR := Lib.hid hgr; clear hgr
  go_enter Tryd.func90, Tryd.ntmps90
  go_wp2
  refine wp_loop_rounds 3 ?_
  rw [rounds_succ]
  go_wp2
  rw [rounds_succ]
  go_wp2
  rw [rounds_succ]
  go_wp2_with (go_at_call 96; (with_reducible refine (HGR.out _).mono ?_); rintro e w1 ⟨v1, rfl, ho1, hb1⟩; obtain ⟨hc, hf⟩ := bcell hb1; have HO1 := Lib.hid ho1; have HB1 := Lib.hid hb1; clear ho1 hb1)
  refine wp_loop_rounds 3 ?_
  rw [rounds_succ]
  go_wp2_with (at_builtin; refine wpList_append_grew _ rfl (.tmp 31) (.tmp 32) 25 rfl w.heap.size 5 (.int .u8 0) 1 1 Tryd.underlying25 Tryd.infoB rfl (by decide) _ _ _ rfl HO1.out _ _ _ rfl (HX.out.below HB1.out) (oneCell_u8 _) ?c1 ?c2 HB1.out.size ?_)
  case c1 => unfold maxLen; simp; omega
  case c2 => simp; omega
  intro v2 w2 hown2 hgrow2
  have hb2 := HB1.out.trans (hgrow2.belowOwn HO1.out (Nat.le_refl _) HB1.out.size)
  obtain ⟨hc2, hf2⟩ := bcell hb2
  have ho2 := own_eq (n' := xs.length) (xs' := xs.map by8) hown2 (by simp) (by simp)
  have HB2 := Lib.hid hb2; have HO2 := Lib.hid ho2; clear hb2 ho2
  clear hown2 hgrow2 hc hf
  go_wp2_with fail
  rw [rounds_succ]
  go_wp2_with (at_builtin; refine wpList_append_grew _ rfl (.tmp 31) (.tmp 32) 25 rfl w.heap.size 5 (.int .u8 0) 1 1 Tryd.underlying25 Tryd.infoB rfl (by decide) _ _ _ rfl HO2.out _ _ _ rfl (HY.out.below HB2.out) (oneCell_u8 _) ?d1 ?d2 HB2.out.size ?_)
  case d1 => unfold maxLen; omega
  case d2 => omega
  intro v3 w3 hown3 hgrow3
  have hb3 := HB2.out.trans (hgrow3.belowOwn HO2.out (Nat.le_refl _) HB2.out.size)
  have ho3 := own_eq (n' := (xs ++ ys).length) (xs' := (xs ++ ys).map by8) hown3 (by simp) (by simp)
  have HB3 := Lib.hid hb3; have HO3 := Lib.hid ho3; clear hb3 ho3
  clear hown3 hgrow3
  go_wp2_with fail
  rw [rounds_succ]
  go_wp2_with fail
  go_ret
  exact ⟨_, rfl, HO3.out, HB3.out⟩
end Go.Proofs.YtfhkmmagpnojmaaDoor
