/- The memory that a call owns, as a list of things in blocks of their own: how it is kept, enlarged and written; what single operations do to it. No condition. -/
import Derived.Test.YtioonimpobcglaaDoorLib
import Derived.Test.YtioonimpobcglaaDoorOwn
import Derived.Test.YtioonimpobcglaaDoorRow
import Derived.Test.YtioonimpobcglaaDoorRow2
set_option linter.unusedSimpArgs false
set_option linter.unusedVariables false
namespace Go.Proofs.YtioonimpobcglaaDoor
open Go.RowKit

/-- A thing in memory: the blocks that it lies in, and what is true of them. -/
structure Res where
  foot : List Nat
  holds : World → Prop
  live : ∀ w, holds w → ∀ g ∈ foot, g < w.heap.size
  keep : ∀ w w', (∀ g ∈ foot, w'.heap[g]? = w.heap[g]?) → holds w → holds w'

/-- Block g is just o. -/
def blk (g : Nat) (o : Obj) : Res where
  foot := [g]
  holds w := w.heap[g]? = some o
  live w h k hk := by simp only [List.mem_singleton] at hk; subst hk; exact (Array.getElem?_eq_some_iff.1 h).1
  keep w w' hk h := (hk g (by simp)).trans h

theorem own_feet0 {w : World} {base e size n : Nat} {v : Value} {xs : List Value} (h : w.ownsRow base e size v n xs) : ∀ g ∈ v.ownBlock.toList, base ≤ g ∧ g < w.heap.size := fun g hg =>
  h.lt g (by simpa using hg)

theorem own_rebase {w : World} {base base' e size n : Nat} {v : Value} {xs : List Value} (h : w.ownsRow base e size v n xs) (hb : ∀ g ∈ v.ownBlock.toList, base' ≤ g) : w.ownsRow base' e size v n xs := by
  refine ⟨h.1, ?_⟩
  rcases h.2 with h0 | ⟨g, cap, cur, hv, h1, r⟩
  · exact .inl h0
  · exact .inr ⟨g, cap, cur, hv, hb g (by rw [hv]; simp [Value.ownBlock]), r⟩

theorem own_kept0 {w w' : World} {base e size n : Nat} {v : Value} {xs : List Value} (hk : ∀ g ∈ v.ownBlock.toList, w'.heap[g]? = w.heap[g]?) (h : w.ownsRow base e size v n xs) : w'.ownsRow base e size v n xs := by
  refine ⟨h.1, ?_⟩
  rcases h.2 with h0 | ⟨g, cap, cur, hv, h1, h2, r⟩
  · exact .inl h0
  · exact .inr ⟨g, cap, cur, hv, h1, (hk g (by rw [hv]; simp [Value.ownBlock])).trans h2, r⟩

/-- v is a slice with a whole array of its own; its cells are xs. -/
def row (v : Value) (e : TypeId) (size n : Nat) (xs : List Value) : Res where
  foot := v.ownBlock.toList
  holds w := w.ownsRow 0 e size v n xs
  live w h g hg := (own_feet0 h g hg).2
  keep w w' hk h := own_kept0 hk h

/-- The blocks that a readable slice reads. -/
def rdFoot (v : Value) (n : Nat) : List Nat := if n = 0 then [] else v.ownBlock.toList

theorem Sl.keep {w w' : World} {size n : Nat} {v : Value} {xs : List Value} (hk : ∀ g ∈ rdFoot v n, w'.heap[g]? = w.heap[g]?) (h : Sl w size v n xs) : Sl w' size v n xs := by
  refine ⟨h.1, ?_⟩
  rcases h.2 with h0 | ⟨b, off, cap, hv, h1, h2, hc⟩
  · exact .inl h0
  · refine .inr ⟨b, off, cap, hv, h1, h2, fun i hi => ?_⟩
    have hn : n ≠ 0 := by
      rintro rfl
      have := h.1
      omega
    rw [← hc i hi]
    exact World.cell?_of_block (hk b (by simp [rdFoot, hn, hv, Value.ownBlock]))

/-- v is a slice that reads as xs, and nobody else has its array. -/
def rd (v : Value) (size n : Nat) (xs : List Value) : Res where
  foot := rdFoot v n
  holds w := Sl w size v n xs ∧ ∀ g ∈ rdFoot v n, g < w.heap.size
  live w h g hg := h.2 g hg
  keep w w' hk h := ⟨h.1.keep hk, fun g hg => by
    have hlt := h.2 g hg
    have := hk g hg
    rw [Array.getElem?_eq_getElem hlt] at this
    exact (Array.getElem?_eq_some_iff.1 this).1⟩

def Res.apart (r s : Res) : Prop := ∀ g ∈ r.foot, g ∉ s.foot

theorem Res.apart_symm {r s : Res} (h : r.apart s) : s.apart r := fun g hg hr => h g hr hg

/-- From world w0 on the call has made just new things; those in l are its own, each in blocks of its own. -/
structure Has (w0 w : World) (l : List Res) : Prop where
  below : Below w0.heap.size w0 w
  holds : ∀ r ∈ l, r.holds w
  base : ∀ r ∈ l, ∀ g ∈ r.foot, w0.heap.size ≤ g
  apart : l.Pairwise Res.apart

theorem Has.start (w : World) : Has w w [] := ⟨Below.refl _ _, by simp, by simp, List.Pairwise.nil⟩

theorem Has.size {w0 w : World} {l : List Res} (S : Has w0 w l) : w0.heap.size ≤ w.heap.size := S.below.size

theorem Has.later {w0 w w' : World} {l : List Res} (S : Has w0 w l) (hb : Below w.heap.size w w') : Has w0 w' l :=
  ⟨S.below.trans (hb.mono S.size), fun r hr => r.keep w w' (fun g hg => hb.block g (r.live w (S.holds r hr) g hg)) (S.holds r hr), S.base, S.apart⟩

theorem Has.drew {w0 w : World} {l : List Res} (S : Has w0 w l) : Has w0 w.drew l := S.later ((Below.refl _ _).drew)

/-- What a callee made is the caller's. -/
theorem Has.call {w0 w w' : World} {l rs : List Res} (S : Has w0 w l) (T : Has w w' rs) : Has w0 w' (rs ++ l) := by
  have S' := S.later T.below
  refine ⟨S'.below, ?_, ?_, ?_⟩
  · intro r hr
    rcases List.mem_append.1 hr with h | h
    · exact T.holds r h
    · exact S'.holds r h
  · intro r hr g hg
    rcases List.mem_append.1 hr with h | h
    · exact Nat.le_trans S.size (T.base r h g hg)
    · exact S'.base r h g hg
  · rw [List.pairwise_append]
    refine ⟨T.apart, S.apart, fun r hr s hs g hg hgs => ?_⟩
    have h1 := T.base r hr g hg
    have h2 := s.live w (S.holds s hs) g hgs
    omega

theorem Has.of_below {w w' : World} (hb : Below w.heap.size w w') : Has w w' [] := ⟨hb, by simp, by simp, List.Pairwise.nil⟩

theorem Has.one {w w' : World} {r : Res} (hb : Below w.heap.size w w') (h : r.holds w') (hf : ∀ g ∈ r.foot, w.heap.size ≤ g) : Has w w' [r] :=
  ⟨hb, by simpa using h, by simpa using hf, List.pairwise_singleton _ _⟩

theorem Has.of_own {w w' : World} {e size n : Nat} {v : Value} {xs : List Value} (hb : Below w.heap.size w w') (h : w'.ownsRow w.heap.size e size v n xs) : Has w w' [row v e size n xs] :=
  Has.one hb (own_rebase h (fun _ _ => Nat.zero_le _)) (fun g hg => (own_feet0 h g hg).1)

theorem Has.of_blk {w w' : World} {g : Nat} {o : Obj} (hb : Below w.heap.size w w') (h : w'.heap[g]? = some o) (hg : w.heap.size ≤ g) : Has w w' [blk g o] :=
  Has.one hb h (fun k hk => by simp only [blk, List.mem_singleton] at hk; subst hk; exact hg)

theorem Has.mk_alloc (w : World) (cs : Array Value) (t : TypeId) : Has w (w.alloc (.cells cs t)) [blk w.heap.size (.cells cs t (0, 0))] :=
  Has.of_blk (below1 w _) (heap_alloc_new w _) (Nat.le_refl _)

theorem Has.alloc {w0 w : World} {l : List Res} (S : Has w0 w l) (cs : Array Value) (t : TypeId) : Has w0 (w.alloc (.cells cs t)) (blk w.heap.size (.cells cs t (0, 0)) :: l) :=
  S.call (Has.mk_alloc w cs t)

/-- r is in l; F is the rest. -/
inductive Pick : List Res → Res → List Res → Prop
  | head (r : Res) (l : List Res) : Pick (r :: l) r l
  | tail {r s : Res} {l F : List Res} (h : Pick l r F) : Pick (s :: l) r (s :: F)

theorem Pick.perm {l F : List Res} {r : Res} (h : Pick l r F) : l.Perm (r :: F) := by
  induction h with
  | head => exact List.Perm.refl _
  | tail _ ih => exact (List.Perm.cons _ ih).trans (List.Perm.swap _ _ _)

theorem Has.perm {w0 w : World} {l k : List Res} (S : Has w0 w l) (h : l.Perm k) : Has w0 w k :=
  ⟨S.below, fun r hr => S.holds r (h.mem_iff.2 hr), fun r hr => S.base r (h.mem_iff.2 hr), (h.pairwise_iff (fun {_ _} => Res.apart_symm)).1 S.apart⟩

theorem Has.pick {w0 w : World} {l F : List Res} {r : Res} (S : Has w0 w l) (h : Pick l r F) : Has w0 w (r :: F) := S.perm h.perm

theorem Has.get {w0 w : World} {l F : List Res} {r : Res} (S : Has w0 w l) (h : Pick l r F) : r.holds w := (S.pick h).holds r (by simp)

theorem Has.tail {w0 w : World} {l : List Res} {r : Res} (S : Has w0 w (r :: l)) : Has w0 w l :=
  ⟨S.below, fun s hs => S.holds s (by simp [hs]), fun s hs => S.base s (by simp [hs]), (List.pairwise_cons.1 S.apart).2⟩

theorem Has.drop {w0 w : World} {l F : List Res} {r : Res} (S : Has w0 w l) (h : Pick l r F) : Has w0 w F := (S.pick h).tail

theorem Has.nil {w0 w : World} {l : List Res} (S : Has w0 w l) : Has w0 w [] := ⟨S.below, by simp, by simp, List.Pairwise.nil⟩

/-- k is some of l. -/
inductive Sub : List Res → List Res → Prop
  | nil (l : List Res) : Sub l []
  | cons {l F k : List Res} {r : Res} (h : Pick l r F) (h2 : Sub F k) : Sub l (r :: k)

theorem Has.sub {w0 w : World} {l k : List Res} (S : Has w0 w l) (h : Sub l k) : Has w0 w k := by
  suffices key : ∀ {l k : List Res}, Sub l k → ∃ F, l.Perm (k ++ F) by
    obtain ⟨F, hF⟩ := key h
    have S1 := S.perm hF
    exact ⟨S1.below, fun r hr => S1.holds r (List.mem_append_left _ hr), fun r hr => S1.base r (List.mem_append_left _ hr), (List.pairwise_append.1 S1.apart).1⟩
  intro l k h
  induction h with
  | nil l => exact ⟨l, List.Perm.refl _⟩
  | cons h _ ih =>
    obtain ⟨F, hF⟩ := ih
    exact ⟨F, h.perm.trans (List.Perm.cons _ hF)⟩

/-- The first thing is written; new blocks may be made. -/
theorem Has.write {w0 w w' : World} {F : List Res} {r r' : Res} (S : Has w0 w (r :: F)) (hos : w'.os = w.os) (htape : w'.tape = w.tape) (hout : w'.output = w.output) (hsz : w.heap.size ≤ w'.heap.size)
    (hk : ∀ k, k < w.heap.size → k ∉ r.foot → w'.heap[k]? = w.heap[k]?) (hr : r'.holds w') (hf : ∀ g ∈ r'.foot, g ∈ r.foot ∨ w.heap.size ≤ g) : Has w0 w' (r' :: F) := by
  have hF := List.pairwise_cons.1 S.apart
  have hB : Below w0.heap.size w0 w' := S.below.trans ⟨hos, htape, hout, hsz, fun k hk0 => hk k (Nat.lt_of_lt_of_le hk0 S.size) (fun hkr => by have := S.base r (by simp) k hkr; omega)⟩
  refine ⟨hB, ?_, ?_, ?_⟩
  · intro s hs
    rcases List.mem_cons.1 hs with rfl | hs
    · exact hr
    · have h0 := S.holds s (by simp [hs])
      exact s.keep w w' (fun g hg => hk g (s.live w h0 g hg) (fun hgr => hF.1 s hs g hgr hg)) h0
  · intro s hs g hg
    rcases List.mem_cons.1 hs with rfl | hs
    · rcases hf g hg with h | h
      · exact S.base r (by simp) g h
      · exact Nat.le_trans S.size h
    · exact S.base s (by simp [hs]) g hg
  · refine List.pairwise_cons.2 ⟨fun s hs g hg hgs => ?_, hF.2⟩
    rcases hf g hg with h | h
    · exact hF.1 s hs g h hgs
    · have := s.live w (S.holds s (by simp [hs])) g hgs
      omega

/-- The first thing is told otherwise. -/
theorem Has.swap {w0 w : World} {F : List Res} {r r' : Res} (S : Has w0 w (r :: F)) (hr : r.holds w → r'.holds w) (hf : ∀ g ∈ r'.foot, g ∈ r.foot) : Has w0 w (r' :: F) :=
  S.write rfl rfl rfl (Nat.le_refl _) (fun _ _ _ => rfl) (hr (S.holds r (by simp))) (fun g hg => .inl (hf g hg))

theorem Has.setRow {w0 w : World} {F : List Res} {g : Nat} {old cs : Array Value} {t : TypeId} (S : Has w0 w (blk g (.cells old t (0, 0)) :: F)) : Has w0 (w.setRow g cs) (blk g (.cells cs t (0, 0)) :: F) := by
  have h : w.heap[g]? = some (.cells old t (0, 0)) := S.holds (blk g (.cells old t (0, 0))) (by simp)
  refine S.write rfl rfl rfl (by simp) (fun k _ hk => setRow_other w g k cs (fun e => hk (by simp [blk, e]))) ?_ (fun k hk => .inl hk)
  exact setRow_heap w g old cs t _ h

theorem Has.setCell {w0 w : World} {F : List Res} {g i : Nat} {old : Array Value} {t : TypeId} (u : Value) (S : Has w0 w (blk g (.cells old t (0, 0)) :: F)) : Has w0 (w.setCell ⟨g, i, none⟩ u) (blk g (.cells (old.setIfInBounds i u) t (0, 0)) :: F) := by
  have h : w.heap[g]? = some (.cells old t (0, 0)) := S.holds (blk g (.cells old t (0, 0))) (by simp)
  rw [setCell_eq_setRow w g i old t (0, 0) u h]
  exact S.setRow

/-- A slice with an array of its own reads as what it is. -/
theorem Has.sl {w0 w : World} {l F : List Res} {v : Value} {e size n : Nat} {xs : List Value} (S : Has w0 w l) (h : Pick l (row v e size n xs) F) : Sl w size v n xs := Sl.of_own (S.get h)
theorem Has.sl_rd {w0 w : World} {l F : List Res} {v : Value} {size n : Nat} {xs : List Value} (S : Has w0 w l) (h : Pick l (rd v size n xs) F) : Sl w size v n xs := (S.get h).1

/-- What was readable ahead of the call is so still. -/
theorem Has.old {w0 w : World} {l : List Res} {size n : Nat} {v : Value} {xs : List Value} (S : Has w0 w l) (h : Sl w0 size v n xs) : Sl w size v n xs := h.below S.below
theorem Has.oldB {w0 w : World} {l : List Res} {v : Value} {xs : List UInt8} (S : Has w0 w l) (h : Bs w0 v xs) : Bs w v xs := h.below S.below
theorem Has.old_cell {w0 w : World} {l : List Res} {a : Addr} {v : Value} (S : Has w0 w l) (h : w0.cell? a = some v) : w.cell? a = some v := cell_later S.below h
theorem Has.old_heap {w0 w : World} {l : List Res} {g : Nat} {o : Obj} (S : Has w0 w l) (h : w0.heap[g]? = some o) : w.heap[g]? = some o := heap_later S.below (heap_lt h) h

/-- Bytes as a block's cells. -/
def arr8 (xs : List UInt8) : Array Value := (xs.map by8).toArray
theorem arr8_size (xs : List UInt8) : (arr8 xs).size = xs.length := by simp [arr8]
theorem arr8_one (xs : List UInt8) : (arr8 xs).all (·.oneCell') = true := all_by8 xs
theorem arr8_get (xs : List UInt8) (i : Nat) (h : i < xs.length) : (arr8 xs)[i]? = some (by8 xs[i]) := by simp [arr8, h]
theorem arr8_inj {xs ys : List UInt8} (h : arr8 xs = arr8 ys) : xs = ys := by
  unfold arr8 at h
  have h1 : xs.map by8 = ys.map by8 := by simpa using h
  refine List.map_inj_right (f := by8) ?_ |>.1 h1
  intro x y he
  simp only [by8, Value.int.injEq, true_and] at he
  exact UInt8.toNat_inj.1 (by omega)

/-- Bytes with an array of their own. -/
abbrev row8 (v : Value) (xs : List UInt8) : Res := row v 5 1 xs.length (xs.map by8)
abbrev rd8 (v : Value) (xs : List UInt8) : Res := rd v 1 xs.length (xs.map by8)
theorem Has.bs {w0 w : World} {l F : List Res} {v : Value} {xs : List UInt8} (S : Has w0 w l) (h : Pick l (row8 v xs) F) : Bs w v xs := S.sl h
theorem Has.bsr {w0 w : World} {l F : List Res} {v : Value} {xs : List UInt8} (S : Has w0 w l) (h : Pick l (rd8 v xs) F) : Bs w v xs := S.sl_rd h

/-- An array of bytes, sliced whole, reads as its bytes. -/
theorem Has.bs_blk {w0 w : World} {l F : List Res} {g : Nat} {xs : List UInt8} {t : TypeId} {fr : Nat × Nat} (S : Has w0 w l) (h : Pick l (blk g (.cells (arr8 xs) t fr)) F) (hl : xs.length ≤ maxLen) : Bs w (.slice (some ⟨g, 0, none⟩) xs.length xs.length) xs :=
  Bs.mk (Nat.le_refl _) hl fun i hi => by
    have hg : w.heap[g]? = some (.cells (arr8 xs) t fr) := S.get h
    rw [cell_of_row w g (0 + i) _ t fr hg, Nat.zero_add, arr8_get xs i hi]

theorem Has.bs_blkN {w0 w : World} {l F : List Res} {g n : Nat} {xs : List UInt8} {t : TypeId} {fr : Nat × Nat} (S : Has w0 w l) (h : Pick l (blk g (.cells (arr8 xs) t fr)) F) (hl : xs.length = n) (hn : n ≤ maxLen) : Bs w (.slice (some ⟨g, 0, none⟩) n n) xs := by
  subst hl
  exact S.bs_blk h hn

/-! Single operations -/
section
variable {P : Program} {ops : Array Oper} {rest : List Oper} {a : Act} {w0 w : World} {l F : List Res} {Q : Exit → Act → World → Prop} {dst : Option Tmp} {ty : TypeId} {pos : String} {after : Array Edge} {gd : Option (Nat × Bool)}

theorem run_alloc (t : TypeId) (z : Value) (hz : (P.info? t).map (·.zero) = some (some z)) (w : World) : (Instr.alloc t true (.tuple #[])).run P w = .ok (.pointer (some ⟨w.heap.size, 0, none⟩)) (w.alloc (.cells z.cells t)) := by
  cases hq : P.info? t with
  | none => simp [hq] at hz
  | some i =>
    have h0 : i.zero = some z := by simpa [hq] using hz
    simp [Instr.alloc, zeroValue, typeInfo, hq, h0, newVar, newRow, newObj]
    rfl

theorem step_val {o : Oper} {v : Value} {w' : World} (hg : Region.wanted o (yielded ops a.tmps) = true) (hr : (execOp a.eval o).run P w = .ok (.value v) w') (h : wpList P ops Q rest (a.put o.dst v) w') : wpList P ops Q (o :: rest) a w :=
  wpList_step fun K hK => by
    rw [if_pos hg]
    unfold Oper.wp
    rw [hr]
    exact hK _ _ h

theorem step_unit {o : Oper} {w' : World} (hg : Region.wanted o (yielded ops a.tmps) = true) (hr : (execOp a.eval o).run P w = .ok .skip w') (h : wpList P ops Q rest (a.put o.dst undef) w') : wpList P ops Q (o :: rest) a w :=
  wpList_step fun K hK => by
    rw [if_pos hg]
    unfold Oper.wp
    rw [hr]
    exact hK _ _ h

theorem step_alloc (S : Has w0 w l) (t : TypeId) (z : Value) (cs : Array Value) (hz : (P.info? t).map (·.zero) = some (some z)) (hc : z.cells = cs)
    (hw : Region.wanted ⟨dst, .alloc t, ty, pos, after, gd⟩ (yielded ops a.tmps) = true)
    (h : ∀ g w', Has w0 w' (blk g (.cells cs t (0, 0)) :: l) → wpList P ops Q rest (a.put dst (.pointer (some ⟨g, 0, none⟩))) w') :
    wpList P ops Q (⟨dst, .alloc t, ty, pos, after, gd⟩ :: rest) a w := by
  subst hc
  refine step_val (v := .pointer (some ⟨w.heap.size, 0, none⟩)) (w' := w.alloc (.cells z.cells t)) hw ?_ (h _ _ (S.alloc _ _))
  simp only [execOp, Sem.run_bind, run_alloc t z hz, Result.andThen_ok, Sem.run_pure]

theorem step_box (S : Has w0 w l) (t : TypeId) (x : Operand) (v : Value) (cs : Array Value) (hx : a.eval x = v) (hc : v.cells = cs)
    (hw : Region.wanted ⟨dst, .box t x, ty, pos, after, gd⟩ (yielded ops a.tmps) = true)
    (h : ∀ g w', Has w0 w' (blk g (.cells cs t (0, 0)) :: l) → wpList P ops Q rest (a.put dst (.pointer (some ⟨g, 0, none⟩))) w') :
    wpList P ops Q (⟨dst, .box t x, ty, pos, after, gd⟩ :: rest) a w := by
  subst hc
  refine step_val (v := .pointer (some ⟨w.heap.size, 0, none⟩)) (w' := w.alloc (.cells v.cells t)) hw ?_ (h _ _ (S.alloc _ _))
  simp only [execOp, hx]
  rfl

theorem step_boxA (S : Has w0 w l) (t : TypeId) (x : Operand) (cs : Array Value) (hx : a.eval x = .agg cs) (hw : Region.wanted ⟨dst, .box t x, ty, pos, after, gd⟩ (yielded ops a.tmps) = true)
    (h : ∀ g w', Has w0 w' (blk g (.cells cs t (0, 0)) :: l) → wpList P ops Q rest (a.put dst (.pointer (some ⟨g, 0, none⟩))) w') :
    wpList P ops Q (⟨dst, .box t x, ty, pos, after, gd⟩ :: rest) a w := step_box S t x (.agg cs) cs hx rfl hw h

theorem run_storeAt_row (w : World) (g : Nat) (t t' : TypeId) (old cells : Array Value) (hg : w.heap[g]? = some (.cells old t' (0, 0))) (n : Nat) (hi : (P.info? t).map (·.size) = some n) (hn : cells.size = n) (ho : old.size = n) (h1 : cells.all (·.oneCell') = true) :
    (Instr.storeAt t (.pointer (some ⟨g, 0, none⟩)) (.agg cells)).run P w = .ok () (w.setRow g cells) := by
  subst hn
  simp only [Instr.storeAt, Instr.sureAddr, Sem.run_bind, Sem.run_pure, Result.andThen_ok, run_storeVar_row w g t' t old cells hg hi ho h1]

/-- A whole array or struct is stored into a block of one's own. -/
theorem step_store (S : Has w0 w l) (t : TypeId) (x y : Operand) (g : Nat) (cells : Array Value) (hx : a.eval x = .pointer (some ⟨g, 0, none⟩)) (hy : a.eval y = .agg cells)
    (t' : TypeId) (old : Array Value) (hp : Pick l (blk g (.cells old t' (0, 0))) F) (n : Nat) (hi : (P.info? t).map (·.size) = some n) (hn : cells.size = n) (ho : old.size = n) (h1 : cells.all (·.oneCell') = true)
    (hw : Region.wanted ⟨dst, .store t x y, ty, pos, after, gd⟩ (yielded ops a.tmps) = true)
    (h : ∀ w', Has w0 w' (blk g (.cells cells t' (0, 0)) :: F) → wpList P ops Q rest (a.put dst undef) w') :
    wpList P ops Q (⟨dst, .store t x y, ty, pos, after, gd⟩ :: rest) a w := by
  refine step_unit (w' := w.setRow g cells) hw ?_ (h _ (S.pick hp).setRow)
  have := run_storeAt_row (P := P) w g t t' old cells (S.get hp) n hi hn ho h1
  simp only [execOp, hx, hy, Sem.run_bind, this, Result.andThen_ok, Sem.run_pure]

theorem run_loadAt_row (w : World) (g : Nat) (t t' : TypeId) (cs : Array Value) (fr : Nat × Nat) (hg : w.heap[g]? = some (.cells cs t' fr)) (d : TypeDesc) (hu : P.underlying t = some d) (hd : (match d with | .struct _ | .array _ _ => true | _ => false) = true)
    (n : Nat) (hi : (P.info? t).map (·.size) = some n) (hn : cs.size = n) : (Instr.loadAt t (.pointer (some ⟨g, 0, none⟩))).run P w = .ok (.agg cs) w := by
  subst hn
  simp only [Instr.loadAt, Instr.sureAddr, Sem.run_bind, Sem.run_pure, Result.andThen_ok, run_loadVar_row w g t' t cs fr d hg hu hd hi]

/-- A whole array or struct is loaded out of a block of one's own. -/
theorem step_load (S : Has w0 w l) (t : TypeId) (x : Operand) (g : Nat) (hx : a.eval x = .pointer (some ⟨g, 0, none⟩)) (t' : TypeId) (cs : Array Value) (fr : Nat × Nat) (hp : Pick l (blk g (.cells cs t' fr)) F)
    (d : TypeDesc) (hu : P.underlying t = some d) (hd : (match d with | .struct _ | .array _ _ => true | _ => false) = true) (n : Nat) (hi : (P.info? t).map (·.size) = some n) (hn : cs.size = n)
    (hw : Region.wanted ⟨dst, .load t x, ty, pos, after, gd⟩ (yielded ops a.tmps) = true)
    (h : wpList P ops Q rest (a.put dst (.agg cs)) w) : wpList P ops Q (⟨dst, .load t x, ty, pos, after, gd⟩ :: rest) a w := by
  refine step_val (v := .agg cs) hw ?_ h
  have := run_loadAt_row (P := P) w g t t' cs fr (S.get hp) d hu hd n hi hn
  simp only [execOp, hx, Sem.run_bind, this, Result.andThen_ok, Sem.run_pure]

theorem step_loadO (t : TypeId) (x : Operand) (g : Nat) (hx : a.eval x = .pointer (some ⟨g, 0, none⟩)) (t' : TypeId) (cs : Array Value) (fr : Nat × Nat) (hg : w.heap[g]? = some (.cells cs t' fr))
    (d : TypeDesc) (hu : P.underlying t = some d) (hd : (match d with | .struct _ | .array _ _ => true | _ => false) = true) (n : Nat) (hi : (P.info? t).map (·.size) = some n) (hn : cs.size = n)
    (hw : Region.wanted ⟨dst, .load t x, ty, pos, after, gd⟩ (yielded ops a.tmps) = true)
    (h : wpList P ops Q rest (a.put dst (.agg cs)) w) : wpList P ops Q (⟨dst, .load t x, ty, pos, after, gd⟩ :: rest) a w := by
  refine step_val (v := .agg cs) hw ?_ h
  have := run_loadAt_row (P := P) w g t t' cs fr hg d hu hd n hi hn
  simp only [execOp, hx, Sem.run_bind, this, Result.andThen_ok, Sem.run_pure]

theorem run_storeAt_cell (w : World) (g off : Nat) (t t' : TypeId) (old : Array Value) (v : Value) (hg : w.heap[g]? = some (.cells old t' (0, 0))) (hoff : off < old.size) (hs : (P.info? t).map (·.size) = some 1) (hv : v.cells = #[v]) (h1 : v.oneCell' = true) :
    (Instr.storeAt t (.pointer (some ⟨g, off, none⟩)) v).run P w = .ok () (w.setRow g (old.setIfInBounds off v)) := by
  have hst := run_storeCells_at (P := P) g off t' [v] 0 old w hg (by simp; omega) (by simpa using h1)
  cases hq : P.info? t with
  | none => simp [hq] at hs
  | some i =>
    have hsz : i.size = 1 := by simpa [hq] using hs
    have he : (old.toList.take (off + 0) ++ [v] ++ old.toList.drop (off + 0 + [v].length)).toArray = old.setIfInBounds off v := by
      apply Array.ext'
      rw [Array.toList_setIfInBounds, List.set_eq_take_append_cons_drop, if_pos (by simpa using hoff)]
      simp
    rw [he] at hst
    simp [Instr.storeAt, Instr.sureAddr, storeVar, sizeOf, typeInfo, hq, hsz, hv, hst]

/-- One cell is stored into a block of one's own. -/
theorem step_store1 (S : Has w0 w l) (t : TypeId) (x y : Operand) (g off : Nat) (v : Value) (hx : a.eval x = .pointer (some ⟨g, off, none⟩)) (hy : a.eval y = v)
    (t' : TypeId) (old : Array Value) (hp : Pick l (blk g (.cells old t' (0, 0))) F) (hs : (P.info? t).map (·.size) = some 1) (hv : v.cells = #[v]) (h1 : v.oneCell' = true) (hoff : off < old.size)
    (hw : Region.wanted ⟨dst, .store t x y, ty, pos, after, gd⟩ (yielded ops a.tmps) = true)
    (h : ∀ w', Has w0 w' (blk g (.cells (old.setIfInBounds off v) t' (0, 0)) :: F) → wpList P ops Q rest (a.put dst undef) w') :
    wpList P ops Q (⟨dst, .store t x y, ty, pos, after, gd⟩ :: rest) a w := by
  refine step_unit (w' := w.setRow g (old.setIfInBounds off v)) hw ?_ (h _ (S.pick hp).setRow)
  have := run_storeAt_cell (P := P) w g off t t' old v (S.get hp) hoff hs hv h1
  simp only [execOp, hx, hy, Sem.run_bind, this, Result.andThen_ok, Sem.run_pure]

theorem run_loadAt_cell (w : World) (a0 : Addr) (t : TypeId) (v : Value) (d : TypeDesc) (hu : P.underlying t = some d) (hd : (match d with | .struct _ | .array _ _ => false | _ => true) = true) (hc : w.cell? a0 = some v) :
    (Instr.loadAt t (.pointer (some a0))).run P w = .ok v w := by
  have hagg : (isAgg t).run P w = .ok false w := by
    unfold isAgg
    rw [Sem.run_bind, run_underlying hu w]
    cases d <;> simp_all
  simp [Instr.loadAt, Instr.sureAddr, loadVar, hagg, hc]

/-- One cell is loaded. -/
theorem step_load1 (t : TypeId) (x : Operand) (a0 : Addr) (v : Value) (hx : a.eval x = .pointer (some a0)) (hc : w.cell? a0 = some v) (d : TypeDesc) (hu : P.underlying t = some d) (hd : (match d with | .struct _ | .array _ _ => false | _ => true) = true)
    (hw : Region.wanted ⟨dst, .load t x, ty, pos, after, gd⟩ (yielded ops a.tmps) = true)
    (h : wpList P ops Q rest (a.put dst v) w) : wpList P ops Q (⟨dst, .load t x, ty, pos, after, gd⟩ :: rest) a w := by
  refine step_val (v := v) hw ?_ h
  have := run_loadAt_cell (P := P) w a0 t v d hu hd hc
  simp only [execOp, hx, Sem.run_bind, this, Result.andThen_ok, Sem.run_pure]

theorem Has.cell (S : Has w0 w l) {g i : Nat} {cs : Array Value} {t : TypeId} {fr : Nat × Nat} {v : Value} (hp : Pick l (blk g (.cells cs t fr)) F) (hv : cs[i]? = some v) : w.cell? ⟨g, i, none⟩ = some v :=
  (cell_of_row w g i cs t fr (S.get hp)).trans hv

/-- append onto a slice of one's own. -/
theorem step_append (S : Has w0 w l) (s x : Operand) (t : TypeId) (e : TypeId) (z : Value) (size bytes : Nat) (ht : P.underlying t = some (.slice e)) (hinfo : (P.info? e).map (fun i => (i.zero, i.size, i.bytes)) = some (some z, size, bytes)) (hzs : z.cells.size = size) (hsz : 0 < size)
    (v : Value) (n : Nat) (xs : List Value) (hs : a.eval s = v) (hp : Pick l (row v e size n xs) F) (src : Value) (m : Nat) (news : List Value) (hx : a.eval x = src) (hsrc : Sl w size src m news) (h1 : ∀ u ∈ news, u.oneCell' = true)
    (h63 : n + m ≤ maxLen) (hbytes : (n + m) * bytes ≤ 140737488355328)
    (hw : Region.wanted ⟨dst, .call { callee := .builtin .append, args := #[s, x], argTypes := #[t, t] }, ty, pos, after, gd⟩ (yielded ops a.tmps) = true)
    (h : ∀ v' w', Has w0 w' (row v' e size (n + m) (xs ++ news) :: F) → wpList P ops Q rest (a.put dst v') w') :
    wpList P ops Q (⟨dst, .call { callee := .builtin .append, args := #[s, x], argTypes := #[t, t] }, ty, pos, after, gd⟩ :: rest) a w := by
  have S1 := S.pick hp
  have hown : w.ownsRow 0 e size v n xs := S.get hp
  obtain ⟨i, hi, hz, hsize, hby⟩ := info_parts hinfo
  obtain ⟨v', w', hr, ho, hg⟩ := run_append_grew (P := P) w 0 t ty e i z size bytes ht hi hz hsize hby hzs hsz v n xs hown src m news hsrc h1 h63 hbytes (Nat.zero_le _)
  refine step_val (v := v') (w' := w') hw ?_ (h v' w' ?_)
  · simp [execOp, resolve, invoke, builtin, hs, hx, hr, Result.andThen]
  refine S1.write hg.g.os hg.g.tape hg.g.output hg.g.size (fun k hk hkr => hg.g.block k hk (fun he => hkr (by simp [row, ← he]))) ho (fun g hgm => ?_)
  rcases hg.at' with h2 | h2 | ⟨k, h2, h3⟩
  · exact absurd hgm (by simp [row, h2])
  · exact .inl (by simpa only [row, h2] using hgm)
  · have : g = k := by simpa [row, h2] using hgm
    exact .inr (by omega)
end

/-- What made nothing that is kept left old memory as it was. -/
theorem low {P : Program} {f : FuncId} {args : Array Value} {w : World} {X : Ending} (h : Calls P f args w fun e w' => e = X ∧ Has w w' []) : Calls P f args w fun e w' => e = X ∧ Below w.heap.size w w' := h.mono fun _ _ h => ⟨h.1, h.2.below⟩
end Go.Proofs.YtioonimpobcglaaDoor
