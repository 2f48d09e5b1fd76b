/- Several texts under one header: what the claim needs of Bd. No condition but those that each names. -/
import Derived.Test.YtfhkmmagpnojmaaDoorYE0
import Derived.StillTail
import Derived.Deep.MidRow
import Derived.Great.FillDense
import Derived.Laws.IdiomStrings
import Derived.Laws.StructEq
set_option linter.unusedSimpArgs false
set_option linter.unusedVariables false

/- Several texts under one header: St, Sh, Rely, StM, StB, StS, StR, StE. No condition but those that each names. -/

/- The memory that a call owns, as a list of things in blocks of their own: how it is kept, enlarged and written; what single operations do to it. No condition. -/
namespace Go.Proofs.YtfhkmmagpnojmaaDoor
open Go.RowKit

/-- A thing in memory: the blocks that it lies in, and what is true of them. -/
structure Res where
  foot : List Nat
  holds : World → Prop
  live : ∀ w, holds w → ∀ g ∈ foot, g < w.heap.size
  keep : ∀ w w', (∀ g ∈ foot, w'.heap[g]? = w.heap[g]?) → holds w → holds w'
/-- Block g is just o. -/
def blk (g : Nat) (o : Obj) : Res where
  foot := [g]
  holds w := w.heap[g]? = some o
  live w h k hk := by simp only [List.mem_singleton] at hk; subst hk; exact (Array.getElem?_eq_some_iff.1 h).1
  keep w w' hk h := (hk g (by simp)).trans h
theorem own_feet0 {w : World} {base e size n : Nat} {v : Value} {xs : List Value} (h : w.ownsRow base e size v n xs) : ∀ g ∈ v.ownBlock.toList, base ≤ g ∧ g < w.heap.size := fun g hg =>
  h.lt g (by simpa using hg)
theorem own_rebase {w : World} {base base' e size n : Nat} {v : Value} {xs : List Value} (h : w.ownsRow base e size v n xs) (hb : ∀ g ∈ v.ownBlock.toList, base' ≤ g) : w.ownsRow base' e size v n xs := by
  refine ⟨h.1, ?_⟩
  rcases h.2 with h0 | ⟨g, cap, cur, hv, h1, r⟩
  · exact .inl h0
  · exact .inr ⟨g, cap, cur, hv, hb g (by rw [hv]; simp [Value.ownBlock]), r⟩
theorem own_kept0 {w w' : World} {base e size n : Nat} {v : Value} {xs : List Value} (hk : ∀ g ∈ v.ownBlock.toList, w'.heap[g]? = w.heap[g]?) (h : w.ownsRow base e size v n xs) : w'.ownsRow base e size v n xs := by
  refine ⟨h.1, ?_⟩
  rcases h.2 with h0 | ⟨g, cap, cur, hv, h1, h2, r⟩
  · exact .inl h0
  · exact .inr ⟨g, cap, cur, hv, h1, (hk g (by rw [hv]; simp [Value.ownBlock])).trans h2, r⟩
/-- v is a slice with a whole array of its own; its cells are xs. -/
def row (v : Value) (e : TypeId) (size n : Nat) (xs : List Value) : Res where
  foot := v.ownBlock.toList
  holds w := w.ownsRow 0 e size v n xs
  live w h g hg := (own_feet0 h g hg).2
  keep w w' hk h := own_kept0 hk h
def Res.apart (r s : Res) : Prop := ∀ g ∈ r.foot, g ∉ s.foot
theorem Res.apart_symm {r s : Res} (h : r.apart s) : s.apart r := fun g hg hr => h g hr hg
/-- From world w0 on the call has made just new things; those in l are its own, each in blocks of its own. -/
structure Has (w0 w : World) (l : List Res) : Prop where
  below : Below w0.heap.size w0 w
  holds : ∀ r ∈ l, r.holds w
  base : ∀ r ∈ l, ∀ g ∈ r.foot, w0.heap.size ≤ g
  apart : l.Pairwise Res.apart
theorem Has.start (w : World) : Has w w [] := ⟨Below.refl _ _, by simp, by simp, List.Pairwise.nil⟩
theorem Has.size {w0 w : World} {l : List Res} (S : Has w0 w l) : w0.heap.size ≤ w.heap.size := S.below.size
theorem Has.later {w0 w w' : World} {l : List Res} (S : Has w0 w l) (hb : Below w.heap.size w w') : Has w0 w' l :=
  ⟨S.below.trans (hb.mono S.size), fun r hr => r.keep w w' (fun g hg => hb.block g (r.live w (S.holds r hr) g hg)) (S.holds r hr), S.base, S.apart⟩
theorem Has.drew {w0 w : World} {l : List Res} (S : Has w0 w l) : Has w0 w.drew l := S.later ((Below.refl _ _).drew)
/-- What a callee made is the caller's. -/
theorem Has.call {w0 w w' : World} {l rs : List Res} (S : Has w0 w l) (T : Has w w' rs) : Has w0 w' (rs ++ l) := by
  have S' := S.later T.below
  refine ⟨S'.below, ?_, ?_, ?_⟩
  · intro r hr
    rcases List.mem_append.1 hr with h | h
    · exact T.holds r h
    · exact S'.holds r h
  · intro r hr g hg
    rcases List.mem_append.1 hr with h | h
    · exact Nat.le_trans S.size (T.base r h g hg)
    · exact S'.base r h g hg
  · rw [List.pairwise_append]
    refine ⟨T.apart, S.apart, fun r hr s hs g hg hgs => ?_⟩
    have h1 := T.base r hr g hg
    have h2 := s.live w (S.holds s hs) g hgs
    omega
theorem Has.of_below {w w' : World} (hb : Below w.heap.size w w') : Has w w' [] := ⟨hb, by simp, by simp, List.Pairwise.nil⟩
theorem Has.one {w w' : World} {r : Res} (hb : Below w.heap.size w w') (h : r.holds w') (hf : ∀ g ∈ r.foot, w.heap.size ≤ g) : Has w w' [r] :=
  ⟨hb, by simpa using h, by simpa using hf, List.pairwise_singleton _ _⟩
theorem Has.of_own {w w' : World} {e size n : Nat} {v : Value} {xs : List Value} (hb : Below w.heap.size w w') (h : w'.ownsRow w.heap.size e size v n xs) : Has w w' [row v e size n xs] :=
  Has.one hb (own_rebase h (fun _ _ => Nat.zero_le _)) (fun g hg => (own_feet0 h g hg).1)
theorem Has.of_blk {w w' : World} {g : Nat} {o : Obj} (hb : Below w.heap.size w w') (h : w'.heap[g]? = some o) (hg : w.heap.size ≤ g) : Has w w' [blk g o] :=
  Has.one hb h (fun k hk => by simp only [blk, List.mem_singleton] at hk; subst hk; exact hg)
theorem Has.mk_alloc (w : World) (cs : Array Value) (t : TypeId) : Has w (w.alloc (.cells cs t)) [blk w.heap.size (.cells cs t (0, 0))] :=
  Has.of_blk (below1 w _) (heap_alloc_new w _) (Nat.le_refl _)
theorem Has.alloc {w0 w : World} {l : List Res} (S : Has w0 w l) (cs : Array Value) (t : TypeId) : Has w0 (w.alloc (.cells cs t)) (blk w.heap.size (.cells cs t (0, 0)) :: l) :=
  S.call (Has.mk_alloc w cs t)
/-- r is in l; F is the rest. -/
inductive Pick : List Res → Res → List Res → Prop
  | head (r : Res) (l : List Res) : Pick (r :: l) r l
  | tail {r s : Res} {l F : List Res} (h : Pick l r F) : Pick (s :: l) r (s :: F)
theorem Pick.perm {l F : List Res} {r : Res} (h : Pick l r F) : l.Perm (r :: F) := by
  induction h with
  | head => exact List.Perm.refl _
  | tail _ ih => exact (List.Perm.cons _ ih).trans (List.Perm.swap _ _ _)
theorem Has.perm {w0 w : World} {l k : List Res} (S : Has w0 w l) (h : l.Perm k) : Has w0 w k :=
  ⟨S.below, fun r hr => S.holds r (h.mem_iff.2 hr), fun r hr => S.base r (h.mem_iff.2 hr), (h.pairwise_iff (fun {_ _} => Res.apart_symm)).1 S.apart⟩
theorem Has.pick {w0 w : World} {l F : List Res} {r : Res} (S : Has w0 w l) (h : Pick l r F) : Has w0 w (r :: F) := S.perm h.perm
theorem Has.get {w0 w : World} {l F : List Res} {r : Res} (S : Has w0 w l) (h : Pick l r F) : r.holds w := (S.pick h).holds r (by simp)
theorem Has.tail {w0 w : World} {l : List Res} {r : Res} (S : Has w0 w (r :: l)) : Has w0 w l :=
  ⟨S.below, fun s hs => S.holds s (by simp [hs]), fun s hs => S.base s (by simp [hs]), (List.pairwise_cons.1 S.apart).2⟩
theorem Has.drop {w0 w : World} {l F : List Res} {r : Res} (S : Has w0 w l) (h : Pick l r F) : Has w0 w F := (S.pick h).tail
theorem Has.nil {w0 w : World} {l : List Res} (S : Has w0 w l) : Has w0 w [] := ⟨S.below, by simp, by simp, List.Pairwise.nil⟩
/-- k is some of l. -/
inductive Sub : List Res → List Res → Prop
  | nil (l : List Res) : Sub l []
  | cons {l F k : List Res} {r : Res} (h : Pick l r F) (h2 : Sub F k) : Sub l (r :: k)
theorem Has.sub {w0 w : World} {l k : List Res} (S : Has w0 w l) (h : Sub l k) : Has w0 w k := by
  suffices key : ∀ {l k : List Res}, Sub l k → ∃ F, l.Perm (k ++ F) by
    obtain ⟨F, hF⟩ := key h
    have S1 := S.perm hF
    exact ⟨S1.below, fun r hr => S1.holds r (List.mem_append_left _ hr), fun r hr => S1.base r (List.mem_append_left _ hr), (List.pairwise_append.1 S1.apart).1⟩
  intro l k h
  induction h with
  | nil l => exact ⟨l, List.Perm.refl _⟩
  | cons h _ ih =>
    obtain ⟨F, hF⟩ := ih
    exact ⟨F, h.perm.trans (List.Perm.cons _ hF)⟩
/-- The first thing is written; new blocks may be made. -/
theorem Has.write {w0 w w' : World} {F : List Res} {r r' : Res} (S : Has w0 w (r :: F)) (hos : w'.os = w.os) (htape : w'.tape = w.tape) (hout : w'.output = w.output) (hsz : w.heap.size ≤ w'.heap.size)
    (hk : ∀ k, k < w.heap.size → k ∉ r.foot → w'.heap[k]? = w.heap[k]?) (hr : r'.holds w') (hf : ∀ g ∈ r'.foot, g ∈ r.foot ∨ w.heap.size ≤ g) : Has w0 w' (r' :: F) := by
  have hF := List.pairwise_cons.1 S.apart
  have hB : Below w0.heap.size w0 w' := S.below.trans ⟨hos, htape, hout, hsz, fun k hk0 => hk k (Nat.lt_of_lt_of_le hk0 S.size) (fun hkr => by have := S.base r (by simp) k hkr; omega)⟩
  refine ⟨hB, ?_, ?_, ?_⟩
  · intro s hs
    rcases List.mem_cons.1 hs with rfl | hs
    · exact hr
    · have h0 := S.holds s (by simp [hs])
      exact s.keep w w' (fun g hg => hk g (s.live w h0 g hg) (fun hgr => hF.1 s hs g hgr hg)) h0
  · intro s hs g hg
    rcases List.mem_cons.1 hs with rfl | hs
    · rcases hf g hg with h | h
      · exact S.base r (by simp) g h
      · exact Nat.le_trans S.size h
    · exact S.base s (by simp [hs]) g hg
  · refine List.pairwise_cons.2 ⟨fun s hs g hg hgs => ?_, hF.2⟩
    rcases hf g hg with h | h
    · exact hF.1 s hs g h hgs
    · have := s.live w (S.holds s (by simp [hs])) g hgs
      omega
theorem Has.setRow {w0 w : World} {F : List Res} {g : Nat} {old cs : Array Value} {t : TypeId} (S : Has w0 w (blk g (.cells old t (0, 0)) :: F)) : Has w0 (w.setRow g cs) (blk g (.cells cs t (0, 0)) :: F) := by
  have h : w.heap[g]? = some (.cells old t (0, 0)) := S.holds (blk g (.cells old t (0, 0))) (by simp)
  refine S.write rfl rfl rfl (by simp) (fun k _ hk => setRow_other w g k cs (fun e => hk (by simp [blk, e]))) ?_ (fun k hk => .inl hk)
  exact setRow_heap w g old cs t _ h
theorem Has.setCell {w0 w : World} {F : List Res} {g i : Nat} {old : Array Value} {t : TypeId} (u : Value) (S : Has w0 w (blk g (.cells old t (0, 0)) :: F)) : Has w0 (w.setCell ⟨g, i, none⟩ u) (blk g (.cells (old.setIfInBounds i u) t (0, 0)) :: F) := by
  have h : w.heap[g]? = some (.cells old t (0, 0)) := S.holds (blk g (.cells old t (0, 0))) (by simp)
  rw [setCell_eq_setRow w g i old t (0, 0) u h]
  exact S.setRow
/-- A slice with an array of its own reads as what it is. -/
theorem Has.sl {w0 w : World} {l F : List Res} {v : Value} {e size n : Nat} {xs : List Value} (S : Has w0 w l) (h : Pick l (row v e size n xs) F) : Sl w size v n xs := Sl.of_own (S.get h)
/-- What was readable ahead of the call is so still. -/
theorem Has.old {w0 w : World} {l : List Res} {size n : Nat} {v : Value} {xs : List Value} (S : Has w0 w l) (h : Sl w0 size v n xs) : Sl w size v n xs := h.below S.below
theorem Has.oldB {w0 w : World} {l : List Res} {v : Value} {xs : List UInt8} (S : Has w0 w l) (h : Bs w0 v xs) : Bs w v xs := h.below S.below
theorem Has.old_cell {w0 w : World} {l : List Res} {a : Addr} {v : Value} (S : Has w0 w l) (h : w0.cell? a = some v) : w.cell? a = some v := cell_later S.below h
/-- Bytes as a block's cells. -/
def arr8 (xs : List UInt8) : Array Value := (xs.map by8).toArray
theorem arr8_size (xs : List UInt8) : (arr8 xs).size = xs.length := by simp [arr8]
theorem arr8_one (xs : List UInt8) : (arr8 xs).all (·.oneCell') = true := all_by8 xs
theorem arr8_get (xs : List UInt8) (i : Nat) (h : i < xs.length) : (arr8 xs)[i]? = some (by8 xs[i]) := by simp [arr8, h]
/-- Bytes with an array of their own. -/
abbrev row8 (v : Value) (xs : List UInt8) : Res := row v 5 1 xs.length (xs.map by8)
theorem Has.bs {w0 w : World} {l F : List Res} {v : Value} {xs : List UInt8} (S : Has w0 w l) (h : Pick l (row8 v xs) F) : Bs w v xs := S.sl h
/-- An array of bytes, sliced whole, reads as its bytes. -/
theorem Has.bs_blk {w0 w : World} {l F : List Res} {g : Nat} {xs : List UInt8} {t : TypeId} {fr : Nat × Nat} (S : Has w0 w l) (h : Pick l (blk g (.cells (arr8 xs) t fr)) F) (hl : xs.length ≤ maxLen) : Bs w (.slice (some ⟨g, 0, none⟩) xs.length xs.length) xs :=
  Bs.mk (Nat.le_refl _) hl fun i hi => by
    have hg : w.heap[g]? = some (.cells (arr8 xs) t fr) := S.get h
    rw [cell_of_row w g (0 + i) _ t fr hg, Nat.zero_add, arr8_get xs i hi]
theorem Has.bs_blkN {w0 w : World} {l F : List Res} {g n : Nat} {xs : List UInt8} {t : TypeId} {fr : Nat × Nat} (S : Has w0 w l) (h : Pick l (blk g (.cells (arr8 xs) t fr)) F) (hl : xs.length = n) (hn : n ≤ maxLen) : Bs w (.slice (some ⟨g, 0, none⟩) n n) xs := by
  subst hl
  exact S.bs_blk h hn
/-! Single operations -/
section
variable {P : Program} {ops : Array Oper} {rest : List Oper} {a : Act} {w0 w : World} {l F : List Res} {Q : Exit → Act → World → Prop} {dst : Option Tmp} {ty : TypeId} {pos : String} {after : Array Edge} {gd : Option (Nat × Bool)}

theorem run_alloc (t : TypeId) (z : Value) (hz : (P.info? t).map (·.zero) = some (some z)) (w : World) : (Instr.alloc t true (.tuple #[])).run P w = .ok (.pointer (some ⟨w.heap.size, 0, none⟩)) (w.alloc (.cells z.cells t)) := by
  cases hq : P.info? t with
  | none => simp [hq] at hz
  | some i =>
    have h0 : i.zero = some z := by simpa [hq] using hz
    simp [Instr.alloc, zeroValue, typeInfo, hq, h0, newVar, newRow, newObj]
    rfl
theorem step_val {o : Oper} {v : Value} {w' : World} (hg : Region.wanted o (yielded ops a.tmps) = true) (hr : (execOp a.eval o).run P w = .ok (.value v) w') (h : wpList P ops Q rest (a.put o.dst v) w') : wpList P ops Q (o :: rest) a w :=
  wpList_step fun K hK => by
    rw [if_pos hg]
    unfold Oper.wp
    rw [hr]
    exact hK _ _ h
theorem step_unit {o : Oper} {w' : World} (hg : Region.wanted o (yielded ops a.tmps) = true) (hr : (execOp a.eval o).run P w = .ok .skip w') (h : wpList P ops Q rest (a.put o.dst undef) w') : wpList P ops Q (o :: rest) a w :=
  wpList_step fun K hK => by
    rw [if_pos hg]
    unfold Oper.wp
    rw [hr]
    exact hK _ _ h
theorem step_alloc (S : Has w0 w l) (t : TypeId) (z : Value) (cs : Array Value) (hz : (P.info? t).map (·.zero) = some (some z)) (hc : z.cells = cs)
    (hw : Region.wanted ⟨dst, .alloc t, ty, pos, after, gd⟩ (yielded ops a.tmps) = true)
    (h : ∀ g w', Has w0 w' (blk g (.cells cs t (0, 0)) :: l) → wpList P ops Q rest (a.put dst (.pointer (some ⟨g, 0, none⟩))) w') :
    wpList P ops Q (⟨dst, .alloc t, ty, pos, after, gd⟩ :: rest) a w := by
  subst hc
  refine step_val (v := .pointer (some ⟨w.heap.size, 0, none⟩)) (w' := w.alloc (.cells z.cells t)) hw ?_ (h _ _ (S.alloc _ _))
  simp only [execOp, Sem.run_bind, run_alloc t z hz, Result.andThen_ok, Sem.run_pure]
theorem step_box (S : Has w0 w l) (t : TypeId) (x : Operand) (v : Value) (cs : Array Value) (hx : a.eval x = v) (hc : v.cells = cs)
    (hw : Region.wanted ⟨dst, .box t x, ty, pos, after, gd⟩ (yielded ops a.tmps) = true)
    (h : ∀ g w', Has w0 w' (blk g (.cells cs t (0, 0)) :: l) → wpList P ops Q rest (a.put dst (.pointer (some ⟨g, 0, none⟩))) w') :
    wpList P ops Q (⟨dst, .box t x, ty, pos, after, gd⟩ :: rest) a w := by
  subst hc
  refine step_val (v := .pointer (some ⟨w.heap.size, 0, none⟩)) (w' := w.alloc (.cells v.cells t)) hw ?_ (h _ _ (S.alloc _ _))
  simp only [execOp, hx]
  rfl
theorem step_boxA (S : Has w0 w l) (t : TypeId) (x : Operand) (cs : Array Value) (hx : a.eval x = .agg cs) (hw : Region.wanted ⟨dst, .box t x, ty, pos, after, gd⟩ (yielded ops a.tmps) = true)
    (h : ∀ g w', Has w0 w' (blk g (.cells cs t (0, 0)) :: l) → wpList P ops Q rest (a.put dst (.pointer (some ⟨g, 0, none⟩))) w') :
    wpList P ops Q (⟨dst, .box t x, ty, pos, after, gd⟩ :: rest) a w := step_box S t x (.agg cs) cs hx rfl hw h
theorem run_storeAt_row (w : World) (g : Nat) (t t' : TypeId) (old cells : Array Value) (hg : w.heap[g]? = some (.cells old t' (0, 0))) (n : Nat) (hi : (P.info? t).map (·.size) = some n) (hn : cells.size = n) (ho : old.size = n) (h1 : cells.all (·.oneCell') = true) :
    (Instr.storeAt t (.pointer (some ⟨g, 0, none⟩)) (.agg cells)).run P w = .ok () (w.setRow g cells) := by
  subst hn
  simp only [Instr.storeAt, Instr.sureAddr, Sem.run_bind, Sem.run_pure, Result.andThen_ok, run_storeVar_row w g t' t old cells hg hi ho h1]
/-- A whole array or struct is stored into a block of one's own. -/
theorem step_store (S : Has w0 w l) (t : TypeId) (x y : Operand) (g : Nat) (cells : Array Value) (hx : a.eval x = .pointer (some ⟨g, 0, none⟩)) (hy : a.eval y = .agg cells)
    (t' : TypeId) (old : Array Value) (hp : Pick l (blk g (.cells old t' (0, 0))) F) (n : Nat) (hi : (P.info? t).map (·.size) = some n) (hn : cells.size = n) (ho : old.size = n) (h1 : cells.all (·.oneCell') = true)
    (hw : Region.wanted ⟨dst, .store t x y, ty, pos, after, gd⟩ (yielded ops a.tmps) = true)
    (h : ∀ w', Has w0 w' (blk g (.cells cells t' (0, 0)) :: F) → wpList P ops Q rest (a.put dst undef) w') :
    wpList P ops Q (⟨dst, .store t x y, ty, pos, after, gd⟩ :: rest) a w := by
  refine step_unit (w' := w.setRow g cells) hw ?_ (h _ (S.pick hp).setRow)
  have := run_storeAt_row (P := P) w g t t' old cells (S.get hp) n hi hn ho h1
  simp only [execOp, hx, hy, Sem.run_bind, this, Result.andThen_ok, Sem.run_pure]
theorem run_loadAt_row (w : World) (g : Nat) (t t' : TypeId) (cs : Array Value) (fr : Nat × Nat) (hg : w.heap[g]? = some (.cells cs t' fr)) (d : TypeDesc) (hu : P.underlying t = some d) (hd : (match d with | .struct _ | .array _ _ => true | _ => false) = true)
    (n : Nat) (hi : (P.info? t).map (·.size) = some n) (hn : cs.size = n) : (Instr.loadAt t (.pointer (some ⟨g, 0, none⟩))).run P w = .ok (.agg cs) w := by
  subst hn
  simp only [Instr.loadAt, Instr.sureAddr, Sem.run_bind, Sem.run_pure, Result.andThen_ok, run_loadVar_row w g t' t cs fr d hg hu hd hi]
/-- A whole array or struct is loaded out of a block of one's own. -/
theorem step_load (S : Has w0 w l) (t : TypeId) (x : Operand) (g : Nat) (hx : a.eval x = .pointer (some ⟨g, 0, none⟩)) (t' : TypeId) (cs : Array Value) (fr : Nat × Nat) (hp : Pick l (blk g (.cells cs t' fr)) F)
    (d : TypeDesc) (hu : P.underlying t = some d) (hd : (match d with | .struct _ | .array _ _ => true | _ => false) = true) (n : Nat) (hi : (P.info? t).map (·.size) = some n) (hn : cs.size = n)
    (hw : Region.wanted ⟨dst, .load t x, ty, pos, after, gd⟩ (yielded ops a.tmps) = true)
    (h : wpList P ops Q rest (a.put dst (.agg cs)) w) : wpList P ops Q (⟨dst, .load t x, ty, pos, after, gd⟩ :: rest) a w := by
  refine step_val (v := .agg cs) hw ?_ h
  have := run_loadAt_row (P := P) w g t t' cs fr (S.get hp) d hu hd n hi hn
  simp only [execOp, hx, Sem.run_bind, this, Result.andThen_ok, Sem.run_pure]
theorem run_storeAt_cell (w : World) (g off : Nat) (t t' : TypeId) (old : Array Value) (v : Value) (hg : w.heap[g]? = some (.cells old t' (0, 0))) (hoff : off < old.size) (hs : (P.info? t).map (·.size) = some 1) (hv : v.cells = #[v]) (h1 : v.oneCell' = true) :
    (Instr.storeAt t (.pointer (some ⟨g, off, none⟩)) v).run P w = .ok () (w.setRow g (old.setIfInBounds off v)) := by
  have hst := run_storeCells_at (P := P) g off t' [v] 0 old w hg (by simp; omega) (by simpa using h1)
  cases hq : P.info? t with
  | none => simp [hq] at hs
  | some i =>
    have hsz : i.size = 1 := by simpa [hq] using hs
    have he : (old.toList.take (off + 0) ++ [v] ++ old.toList.drop (off + 0 + [v].length)).toArray = old.setIfInBounds off v := by
      apply Array.ext'
      rw [Array.toList_setIfInBounds, List.set_eq_take_append_cons_drop, if_pos (by simpa using hoff)]
      simp
    rw [he] at hst
    simp [Instr.storeAt, Instr.sureAddr, storeVar, sizeOf, typeInfo, hq, hsz, hv, hst]
/-- One cell is stored into a block of one's own. -/
theorem step_store1 (S : Has w0 w l) (t : TypeId) (x y : Operand) (g off : Nat) (v : Value) (hx : a.eval x = .pointer (some ⟨g, off, none⟩)) (hy : a.eval y = v)
    (t' : TypeId) (old : Array Value) (hp : Pick l (blk g (.cells old t' (0, 0))) F) (hs : (P.info? t).map (·.size) = some 1) (hv : v.cells = #[v]) (h1 : v.oneCell' = true) (hoff : off < old.size)
    (hw : Region.wanted ⟨dst, .store t x y, ty, pos, after, gd⟩ (yielded ops a.tmps) = true)
    (h : ∀ w', Has w0 w' (blk g (.cells (old.setIfInBounds off v) t' (0, 0)) :: F) → wpList P ops Q rest (a.put dst undef) w') :
    wpList P ops Q (⟨dst, .store t x y, ty, pos, after, gd⟩ :: rest) a w := by
  refine step_unit (w' := w.setRow g (old.setIfInBounds off v)) hw ?_ (h _ (S.pick hp).setRow)
  have := run_storeAt_cell (P := P) w g off t t' old v (S.get hp) hoff hs hv h1
  simp only [execOp, hx, hy, Sem.run_bind, this, Result.andThen_ok, Sem.run_pure]
theorem run_loadAt_cell (w : World) (a0 : Addr) (t : TypeId) (v : Value) (d : TypeDesc) (hu : P.underlying t = some d) (hd : (match d with | .struct _ | .array _ _ => false | _ => true) = true) (hc : w.cell? a0 = some v) :
    (Instr.loadAt t (.pointer (some a0))).run P w = .ok v w := by
  have hagg : (isAgg t).run P w = .ok false w := by
    unfold isAgg
    rw [Sem.run_bind, run_underlying hu w]
    cases d <;> simp_all
  simp [Instr.loadAt, Instr.sureAddr, loadVar, hagg, hc]
/-- One cell is loaded. -/
theorem step_load1 (t : TypeId) (x : Operand) (a0 : Addr) (v : Value) (hx : a.eval x = .pointer (some a0)) (hc : w.cell? a0 = some v) (d : TypeDesc) (hu : P.underlying t = some d) (hd : (match d with | .struct _ | .array _ _ => false | _ => true) = true)
    (hw : Region.wanted ⟨dst, .load t x, ty, pos, after, gd⟩ (yielded ops a.tmps) = true)
    (h : wpList P ops Q rest (a.put dst v) w) : wpList P ops Q (⟨dst, .load t x, ty, pos, after, gd⟩ :: rest) a w := by
  refine step_val (v := v) hw ?_ h
  have := run_loadAt_cell (P := P) w a0 t v d hu hd hc
  simp only [execOp, hx, Sem.run_bind, this, Result.andThen_ok, Sem.run_pure]
theorem Has.cell (S : Has w0 w l) {g i : Nat} {cs : Array Value} {t : TypeId} {fr : Nat × Nat} {v : Value} (hp : Pick l (blk g (.cells cs t fr)) F) (hv : cs[i]? = some v) : w.cell? ⟨g, i, none⟩ = some v :=
  (cell_of_row w g i cs t fr (S.get hp)).trans hv
/-- append onto a slice of one's own. -/
theorem step_append (S : Has w0 w l) (s x : Operand) (t : TypeId) (e : TypeId) (z : Value) (size bytes : Nat) (ht : P.underlying t = some (.slice e)) (hinfo : (P.info? e).map (fun i => (i.zero, i.size, i.bytes)) = some (some z, size, bytes)) (hzs : z.cells.size = size) (hsz : 0 < size)
    (v : Value) (n : Nat) (xs : List Value) (hs : a.eval s = v) (hp : Pick l (row v e size n xs) F) (src : Value) (m : Nat) (news : List Value) (hx : a.eval x = src) (hsrc : Sl w size src m news) (h1 : ∀ u ∈ news, u.oneCell' = true)
    (h63 : n + m ≤ maxLen) (hbytes : (n + m) * bytes ≤ 140737488355328)
    (hw : Region.wanted ⟨dst, .call { callee := .builtin .append, args := #[s, x], argTypes := #[t, t] }, ty, pos, after, gd⟩ (yielded ops a.tmps) = true)
    (h : ∀ v' w', Has w0 w' (row v' e size (n + m) (xs ++ news) :: F) → wpList P ops Q rest (a.put dst v') w') :
    wpList P ops Q (⟨dst, .call { callee := .builtin .append, args := #[s, x], argTypes := #[t, t] }, ty, pos, after, gd⟩ :: rest) a w := by
  have S1 := S.pick hp
  have hown : w.ownsRow 0 e size v n xs := S.get hp
  obtain ⟨i, hi, hz, hsize, hby⟩ := info_parts hinfo
  obtain ⟨v', w', hr, ho, hg⟩ := run_append_grew (P := P) w 0 t ty e i z size bytes ht hi hz hsize hby hzs hsz v n xs hown src m news hsrc h1 h63 hbytes (Nat.zero_le _)
  refine step_val (v := v') (w' := w') hw ?_ (h v' w' ?_)
  · simp [execOp, resolve, invoke, builtin, hs, hx, hr, Result.andThen]
  refine S1.write hg.g.os hg.g.tape hg.g.output hg.g.size (fun k hk hkr => hg.g.block k hk (fun he => hkr (by simp [row, ← he]))) ho (fun g hgm => ?_)
  rcases hg.at' with h2 | h2 | ⟨k, h2, h3⟩
  · exact absurd hgm (by simp [row, h2])
  · exact .inl (by simpa only [row, h2] using hgm)
  · have : g = k := by simpa [row, h2] using hgm
    exact .inr (by omega)
end

/-- What made nothing that is kept left old memory as it was. -/
theorem low {P : Program} {f : FuncId} {args : Array Value} {w : World} {X : Ending} (h : Calls P f args w fun e w' => e = X ∧ Has w w' []) : Calls P f args w fun e w' => e = X ∧ Below w.heap.size w w' := h.mono fun _ _ h => ⟨h.1, h.2.below⟩
end Go.Proofs.YtfhkmmagpnojmaaDoor

/- Short words for the side proofs that every walk asks. No condition. -/
namespace Go.Proofs.YtfhkmmagpnojmaaDoor
open Go.RowKit

theorem pk {l F : List Res} {r : Res} (h : Pick l r F := by (repeat (first | exact Pick.head _ _ | apply Pick.tail)); first | done | fail) : Pick l r F := h
theorem gw {p : Prop} (h : p := by (first | rfl | (simp only [Region.wanted, yielded]; go_simp; first | done | fail) | (go_simp; first | done | fail))) : p := h
theorem vv {p : Prop} (h : p := by first | rfl | omega | (rw [IntWalk.i64_in _ (by omega)]; try omega) | (rw [IntKind.wrap_u64]; try omega) | (rw [Int.tmod_eq_emod_of_nonneg (by omega)]; try omega) | (rw [IntKind.wrap_u8]; try omega) | (rw [IntKind.wrap_u32]; try omega)) : p := h
theorem co {p : Prop} (h : p := by (first | assumption | (exact Hid.out (by assumption)) | exact cellsH_t .. | exact cellsH_n .. | exact mintL_0 .. | exact mintL_1 .. | exact mintL_2 .. | exact tokL_0 .. | exact tokL_1 .. | exact tokL_2 .. | exact tokL_3 .. | exact rqL_0 .. | exact rqL_37 .. | exact rqL_38 .. | exact rqL_39 .. | exact rcdL_0 .. | exact rcdL_1 .. | exact rcdL_2 .. | exact rpL_0 .. | exact rpL_1 .. | exact rpL_2 .. | exact rpL_3 .. | exact rpL_4 .. | exact rpL_5 .. | exact rpL_6 .. | exact rpL_7 .. | exact rpL_8 .. | exact rpL_9 .. | exact lgL_0 .. | exact lgL_33 .. | (simp only [List.setIfInBounds_toArray, List.set_cons_zero, List.set_cons_succ, List.getElem?_toArray, List.getElem?_cons_zero, List.getElem?_cons_succ]; rfl) | rfl)) : p := h
theorem on1 {p : Prop} (h : p := by (first | exact arr8_one _ | exact cellsH_one .. | exact fldA_one .. | exact cellsS_one .. | exact mintL_one .. | exact tokL_one .. | exact cndL_one .. | exact rqL_one .. | exact rcdL_one .. | exact sgtL_one .. | exact rpL_one _ _ _ rfl rfl .. | exact lgL_one _ _ (by first | rfl | assumption) .. | rfl | (simp [U32_one, one_slice, one_int, one_bool]; done))) : p := h
theorem kR {p : Prop} (h : p := by kernel_rfl) : p := h
theorem lN {p : Prop} (h : p := by first | rfl | (first | assumption | (exact Hid.out (by assumption)) | (exact rcdL_size _) | (exact lgL_size _ _) | (exact rqL_size _) | (exact tokL_size _) | (exact rpL_size _ _ _) | (exact sgtL_size _) | (exact smD_length _) | (exact sumD_length _) | (exact tgD_length _ _) | (exact tagD_length _ _) | (exact fD_length _ _ _) | (rw [arr8_size]; first | rfl | assumption | (exact Hid.out (by assumption)) | exact rcdL_size _ | exact lgL_size _ _ | exact rqL_size _ | exact tokL_size _ | exact rpL_size _ _ _ | exact sgtL_size _ | exact smD_length _ | exact sumD_length _ | exact tgD_length _ _ | exact tagD_length _ _ | exact fD_length _ _ _ | exact List.length_replicate ..) | (simp [arr8_size]; done))) : p := h
theorem lE {p : Prop} (h : p := by (first | omega | assumption | (exact Hid.out (by assumption)) | (simp only [List.length_append, List.length_cons, List.length_nil]; omega))) : p := h
theorem pT {p : Prop} (h : p := by (first | exact cellsH_st .. | exact rqL_tok .. | exact rcdL_link .. | exact rpL_tok .. | exact lgL_link .. | assumption | rfl)) : p := h
theorem sL {p : Prop} (h : p := by first | assumption | exact S.old (Hid.out (by assumption)) | exact S.sl pk | exact S.sl_rd pk) : p := h
theorem bS {p : Prop} (h : p := by first | assumption | exact S.oldB (Hid.out (by assumption)) | exact Bs.mk0 _ _ | exact S.bs pk | exact S.bsr pk) : p := h
theorem kT {p : Prop} (h : p := by exact S.kt (Hid.out (by assumption))) : p := h
theorem iO {P : Program} {ops : Array Oper} {rest : List Oper} {a : Act} {w : World} {Q : Exit → Act → World → Prop} {ty : TypeId} {pos : String} {after : Array Edge} {gd : Option (Nat × Bool)} (d : Option Tmp) (o : Op) (h : wpList P ops Q (⟨d, o, ty, pos, after, gd⟩ :: rest) a w) : wpList P ops Q (⟨d, o, ty, pos, after, gd⟩ :: rest) a w := h
theorem iD {P : Program} {ops : Array Oper} {rest : List Oper} {a : Act} {w : World} {Q : Exit → Act → World → Prop} {ty : TypeId} {pos : String} {after : Array Edge} {gd : Option (Nat × Bool)} (d : Tmp) (o : Op) (h : wpList P ops Q (⟨some d, o, ty, pos, after, gd⟩ :: rest) a w) : wpList P ops Q (⟨some d, o, ty, pos, after, gd⟩ :: rest) a w := h
theorem hy {p : Prop} (h : p := by first | assumption | exact Hid.out (by assumption)) : p := h
theorem z4 {α : Type} {l : List α} : [] ++ l = l := rfl
theorem z5 {α : Type} {a : α} {l k : List α} : (a :: l) ++ k = a :: (l ++ k) := rfl
theorem z6 {α : Type} {l : List α} : l ++ [] = l := List.append_nil l
theorem z7 {α : Type} {l k m : List α} : l ++ k ++ m = l ++ (k ++ m) := List.append_assoc l k m
theorem cL {p : Prop} (h : p := by first | exact S.cell pk co | exact S.row_cell pk _ _ hyr | exact S.row_cellS pk _ _ hy | exact S.old_cell hy) : p := h
end Go.Proofs.YtfhkmmagpnojmaaDoor

/- A region that draws its order, told operation by operation: what each leaves, whatever stands beside it. No condition. -/
namespace Go.Proofs.YtfhkmmagpnojmaaDoor
open Go.RowKit

/-- What an operation does: its value and the world behind it. -/
def does (P : Program) (ρ : Operand → Value) (o : Oper) (w : World) (Post : Value → World → Prop) : Prop :=
  match (execOp ρ o).run P w with
  | .ok (.value v) w' => Post v w'
  | .ok .skip w' => Post undef w'
  | .ok (.enter f args) w' => Calls P f args w' fun e w'' => match e with | .returned v => Post v w'' | _ => False
  | _ => False
theorem does_wp {P : Program} {o : Oper} {a : Act} {w : World} {Post : Value → World → Prop} {K : Act → World → Prop} {Q : Exit → Act → World → Prop}
    (h : does P a.eval o w Post) (hk : ∀ v w', Post v w' → K (a.put o.dst v) w') : o.wp P a w K Q := by
  unfold does at h
  unfold Oper.wp
  generalize (execOp a.eval o).run P w = r at *
  cases r with
  | ok n w' =>
    cases n <;> simp only [Oper.upon] at h ⊢
    case value v => exact hk _ _ h
    case skip => exact hk _ _ h
    case enter f args =>
      refine Calls.mono h fun e w'' he => ?_
      cases e with
      | returned v => exact hk _ _ he
      | panicked c => exact he.elim
      | outgrown => exact he.elim
  | halt x w' => simp only at h
/-- What is told of one operation: the operations of which it speaks, the things that it takes away, the things that it looks at; what its value is; the things that it leaves. -/
structure RSpec where
  deps : List Nat
  eats : List Nat
  keeps : List Nat
  val : (Nat → Value) → Value → Prop
  res : (Nat → Value) → Value → List Res
instance : Inhabited RSpec := ⟨⟨[], [], [], fun _ _ => True, fun _ _ => []⟩⟩
def mask (d : List Nat) (u : Nat → Value) : Nat → Value := fun j => if d.contains j then u j else undef
theorem mask_eq {d : List Nat} {u u' : Nat → Value} (h : ∀ j ∈ d, u j = u' j) : mask d u = mask d u' := by
  funext j
  unfold mask
  by_cases hj : d.contains j = true
  · rw [if_pos hj, if_pos hj, h j (by simpa using hj)]
  · rw [if_neg hj, if_neg hj]
def RSpec.valAt (s : RSpec) (u : Nat → Value) (i : Nat) : Prop := s.val (mask s.deps u) (u i)
def RSpec.resAt (s : RSpec) (u : Nat → Value) (i : Nat) : List Res := s.res (mask s.deps u) (u i)
section
variable (ops : Array Oper) (sp : List RSpec)

def spec (i : Nat) : RSpec := sp.getD i default
def dstAt (i : Nat) : Option Tmp := (ops[i]?).bind (·.dst)
/-- The frame where all operations of the head have left their values. -/
def putAll (a : Act) (u : Nat → Value) : Nat → Act
  | 0 => a
  | n + 1 => (putAll a u n).put (dstAt ops n) (u n)
/-- The head is told rightly: what is spoken of comes before; nothing is taken twice, or looked at by one who may come later. -/
def relyB : Bool :=
  Region.noSelect ops &&
  (List.range sp.length).all fun i =>
    let s := spec sp i
    (match ops[i]? with
     | none => false
     | some o =>
       (o.after.all fun e => !Region.binds .any e || decide (e.on < i)) &&
       (s.deps.all fun j => decide (j < i) && (Region.waitsFor .any ops i j || s.deps.any fun k => Region.waitsFor .any ops i k && (spec sp k).deps.contains j)) &&
       ((o.looksAt ops).all fun t => (List.range sp.length).all fun j => dstAt ops j != some t || s.deps.contains j)) &&
    (s.eats ++ s.keeps).all (fun j => s.deps.contains j) && decide (s.eats ++ s.keeps).Nodup &&
    ((List.range sp.length).all fun k => k == i || ((s.eats.all fun j => !(spec sp k).eats.contains j) && (s.keeps.all fun j => !(spec sp k).eats.contains j || (spec sp k).deps.contains i))) &&
    ((List.range sp.length).all fun j => j == i || match dstAt ops i with | some d => dstAt ops j != some d | none => true)
end

/-- The numbers of the operations whose things are still there. -/
def liveIds (sp : List RSpec) (L : Nat → Bool) : List Nat :=
  (List.range sp.length).filter fun i => L i && (List.range sp.length).all fun k => !(L k && (spec sp k).eats.contains i)
def resOf (sp : List RSpec) (u : Nat → Value) (l : List Nat) : List Res := l.flatMap fun i => (spec sp i).resAt u i
/-- What is to be shown of operation i. -/
def StepOK2 (P : Program) (ops : Array Oper) (sp : List RSpec) (w0 : World) (l1 l2 : List Res) (A : (Nat → Value) → Act) (i : Nat) : Prop :=
  match ops[i]? with
  | none => True
  | some o => ∀ (u : Nat → Value) (G : List Res) (w : World), (∀ j ∈ (spec sp i).deps, (spec sp j).valAt u j) →
      Has w0 w (resOf sp u (spec sp i).eats ++ (resOf sp u (spec sp i).keeps ++ (l1 ++ G))) →
      if Region.wanted o (yielded ops (A u).tmps) = true then
        does P (A u).eval o w fun v w' => (spec sp i).val (mask (spec sp i).deps u) v ∧ Has w0 w' ((spec sp i).res (mask (spec sp i).deps u) v ++ (resOf sp u (spec sp i).keeps ++ (l2 ++ G)))
      else (spec sp i).val (mask (spec sp i).deps u) undef ∧ Has w0 w ((spec sp i).res (mask (spec sp i).deps u) undef ++ (resOf sp u (spec sp i).keeps ++ (l2 ++ G)))
def StepOK (P : Program) (ops : Array Oper) (sp : List RSpec) (w0 : World) (l : List Res) (A : (Nat → Value) → Act) (i : Nat) : Prop := StepOK2 P ops sp w0 l l A i
section
variable {P : Program} {ops : Array Oper} {sp : List RSpec}

/-- What the check says of operation i. -/
structure Told (ops : Array Oper) (sp : List RSpec) (i : Nat) (o : Oper) : Prop where
  op : ops[i]? = some o
  back : ∀ e ∈ o.after, Region.binds .any e = true → e.on < i
  lt : ∀ j ∈ (spec sp i).deps, j < i
  way : ∀ j ∈ (spec sp i).deps, Region.waitsFor .any ops i j = true ∨ ∃ k ∈ (spec sp i).deps, Region.waitsFor .any ops i k = true ∧ j ∈ (spec sp k).deps
  looks : ∀ t ∈ o.looksAt ops, ∀ j, j < sp.length → dstAt ops j = some t → j ∈ (spec sp i).deps
  sub : ∀ j ∈ (spec sp i).eats ++ (spec sp i).keeps, j ∈ (spec sp i).deps
  nodup : ((spec sp i).eats ++ (spec sp i).keeps).Nodup
  eat : ∀ k, k < sp.length → k ≠ i → ∀ j ∈ (spec sp i).eats, j ∉ (spec sp k).eats
  kept : ∀ k, k < sp.length → k ≠ i → ∀ j ∈ (spec sp i).keeps, j ∈ (spec sp k).eats → i ∈ (spec sp k).deps
  alone : ∀ j, j < sp.length → j ≠ i → ∀ d, dstAt ops i = some d → dstAt ops j ≠ some d
theorem relyB_told (h : relyB ops sp = true) (i : Nat) (hi : i < sp.length) : ∃ o, Told ops sp i o := by
  simp only [relyB, Bool.and_eq_true] at h
  have h1 := List.all_eq_true.1 h.2 i (List.mem_range.2 hi)
  simp only [Bool.and_eq_true] at h1
  obtain ⟨⟨⟨⟨hop, hsub⟩, hnd⟩, hec⟩, hal⟩ := h1
  cases ho : ops[i]? with
  | none => rw [ho] at hop; cases hop
  | some o =>
    rw [ho] at hop
    simp only [Bool.and_eq_true] at hop
    obtain ⟨⟨hb, hd⟩, hl⟩ := hop
    refine ⟨o, ⟨ho, ?_, ?_, ?_, ?_, ?_, by simpa using hnd, ?_, ?_, ?_⟩⟩
    · intro e he hbi
      have := Array.all_eq_true'.1 hb e he
      simpa [hbi] using this
    · intro j hj
      have := List.all_eq_true.1 hd j hj
      simp only [Bool.and_eq_true, decide_eq_true_eq] at this
      exact this.1
    · intro j hj
      have := List.all_eq_true.1 hd j hj
      simp only [Bool.and_eq_true, Bool.or_eq_true] at this
      rcases this.2 with h2 | h2
      · exact .inl h2
      · obtain ⟨k, hk, h3⟩ := List.any_eq_true.1 h2
        simp only [Bool.and_eq_true] at h3
        exact .inr ⟨k, hk, h3.1, by simpa using h3.2⟩
    · intro t ht j hj hdj
      have := List.all_eq_true.1 (List.all_eq_true.1 hl t ht) j (List.mem_range.2 hj)
      simpa [hdj] using this
    · intro j hj
      simpa using List.all_eq_true.1 hsub j hj
    · intro k hk hki j hj
      have := List.all_eq_true.1 hec k (List.mem_range.2 hk)
      simp only [Bool.or_eq_true, beq_iff_eq, hki, false_or, Bool.and_eq_true] at this
      simpa using List.all_eq_true.1 this.1 j hj
    · intro k hk hki j hj hjk
      have := List.all_eq_true.1 hec k (List.mem_range.2 hk)
      simp only [Bool.or_eq_true, beq_iff_eq, hki, false_or, Bool.and_eq_true] at this
      have := List.all_eq_true.1 this.2 j hj
      simpa [hjk] using this
    · intro j hj hji d hdi
      have := List.all_eq_true.1 hal j (List.mem_range.2 hj)
      simp only [Bool.or_eq_true, beq_iff_eq, hji, false_or, hdi] at this
      simpa using this
/-- What holds on the way. -/
structure RInv (ops : Array Oper) (sp : List RSpec) (w0 : World) (lf : Bool → List Res) (k0 : Nat) (a : Act) (listed : Array Bool) (a' : Act) (w : World) (u : Nat → Value) : Prop where
  head : HeadInv .any ops sp.length listed
  vals : ∀ i, i < sp.length → listed.getD i false = true → (spec sp i).valAt u i
  st : Has w0 w (resOf sp u (liveIds sp fun i => listed.getD i false) ++ lf (listed.getD k0 false))
  defers : a'.defers = a.defers
  size : a'.tmps.size = a.tmps.size
  set : ∀ i, i < sp.length → listed.getD i false = true → ∀ d, dstAt ops i = some d → d < a.tmps.size → a'.tmps[d]? = some (u i)
  same : ∀ t, (∀ i, i < sp.length → listed.getD i false = true → dstAt ops i ≠ some t) → a'.tmps[t]? = a.tmps[t]?
theorem deps_listed (h : relyB ops sp = true) {listed : Array Bool} (hd : HeadInv .any ops sp.length listed) : ∀ i, i < sp.length → (∀ o, ops[i]? = some o → ∀ e ∈ o.after, Region.binds .any e = true → listed.getD e.on false = true) →
    ∀ j ∈ (spec sp i).deps, listed.getD j false = true := by
  intro i
  induction i using Nat.strongRecOn with
  | _ i ih =>
    intro hi hc j hj
    obtain ⟨o, T⟩ := relyB_told h i hi
    have direct : ∀ k, Region.waitsFor .any ops i k = true → listed.getD k false = true := fun k hk => by
      obtain ⟨o', ho', e, he, hb, rfl⟩ := Region.waitsFor_spec hk
      exact hc o' ho' e he hb
    rcases T.way j hj with h1 | ⟨k, hk, h1, h2⟩
    · exact direct j h1
    · have hkl := direct k h1
      exact ih k (T.lt k hk) (Nat.lt_trans (T.lt k hk) hi) (fun o' ho' e he hb => hd.closed k o' ho' hkl e he hb) j h2
theorem liveIds_mem {L : Nat → Bool} {i : Nat} : i ∈ liveIds sp L ↔ i < sp.length ∧ L i = true ∧ ∀ k, k < sp.length → L k = true → i ∉ (spec sp k).eats := by
  unfold liveIds
  rw [List.mem_filter, List.mem_range]
  simp only [Bool.and_eq_true, List.all_eq_true, List.mem_range, Bool.not_eq_true']
  constructor
  · rintro ⟨h1, h2, h3⟩
    refine ⟨h1, h2, fun k hk hLk hm => ?_⟩
    have := h3 k hk
    rw [hLk] at this
    simp [hm] at this
  · rintro ⟨h1, h2, h3⟩
    refine ⟨h1, h2, fun k hk => ?_⟩
    cases hLk : L k with
    | false => rfl
    | true => simpa using h3 k hk hLk
theorem liveIds_nodup (sp : List RSpec) (L : Nat → Bool) : (liveIds sp L).Nodup := (List.nodup_range).filter _
theorem perm_of_mem {l k : List Nat} (hl : l.Nodup) (hk : k.Nodup) (h : ∀ x, x ∈ l ↔ x ∈ k) : l.Perm k := (List.perm_ext_iff_of_nodup hl hk).2 h
theorem resOf_perm {u : Nat → Value} {l k : List Nat} (h : l.Perm k) : (resOf sp u l).Perm (resOf sp u k) := h.flatMap_right _
theorem resOf_append {u : Nat → Value} {l k : List Nat} : resOf sp u (l ++ k) = resOf sp u l ++ resOf sp u k := List.flatMap_append
theorem resOf_congr {u u' : Nat → Value} {l : List Nat} (h : ∀ i ∈ l, (spec sp i).resAt u i = (spec sp i).resAt u' i) : resOf sp u l = resOf sp u' l := by
  unfold resOf
  induction l with
  | nil => rfl
  | cons x l ih => rw [List.flatMap_cons, List.flatMap_cons, h x (by simp), ih (fun i hi => h i (by simp [hi]))]
/-- What the frame of an operation shows of the frame where all have left their values. -/
structure Agree (ops : Array Oper) (o : Oper) (a' a'' : Act) : Prop where
  at' : ∀ t ∈ o.looksAt ops, a'.tmps[t]? = a''.tmps[t]?
theorem Agree.eval {o : Oper} {a' a'' : Act} (h : Agree ops o a' a'') : ∀ x ∈ o.op.operands, a'.eval x = a''.eval x := by
  intro x hx
  cases x with
  | tmp t =>
    have ht : t ∈ o.looksAt ops := List.mem_append_left _ (List.mem_filterMap.2 ⟨.tmp t, by simpa using hx, rfl⟩)
    have := h.at' t ht
    simp [Act.eval, this]
  | _ => rfl
theorem Agree.wanted {o : Oper} {a' a'' : Act} (h : Agree ops o a' a'') : Region.wanted o (yielded ops a'.tmps) = Region.wanted o (yielded ops a''.tmps) := by
  unfold Region.wanted
  cases hg : o.guard with
  | none => rfl
  | some gw =>
    obtain ⟨g, want⟩ := gw
    have hy : yielded ops a'.tmps g = yielded ops a''.tmps g := by
      unfold yielded
      cases ht : (ops[g]?).bind (·.dst) with
      | none => rfl
      | some t =>
        have := h.at' t (by simp [Oper.looksAt, hg, ht])
        simp only [Option.bind_some, this]
    simp only [hy]
theorem putAll_size (a : Act) (u : Nat → Value) : ∀ n, (putAll ops a u n).tmps.size = a.tmps.size
  | 0 => rfl
  | n + 1 => by
    unfold putAll Act.put
    cases dstAt ops n with
    | none => exact putAll_size a u n
    | some d => simp [putAll_size a u n]
theorem putAll_defers (a : Act) (u : Nat → Value) : ∀ n, (putAll ops a u n).defers = a.defers
  | 0 => rfl
  | n + 1 => by
    unfold putAll Act.put
    cases dstAt ops n with
    | none => exact putAll_defers a u n
    | some d => exact putAll_defers a u n
theorem put_other {a : Act} {x : Option Tmp} {v : Value} {t : Nat} (h : x ≠ some t) : (a.put x v).tmps[t]? = a.tmps[t]? := by
  cases x with
  | none => rfl
  | some d => simp only [Act.put]; exact Array.getElem?_setIfInBounds_ne (fun e => h (by rw [e]))
theorem put_same {a : Act} {v : Value} {d : Nat} (h : d < a.tmps.size) : (a.put (some d) v).tmps[d]? = some v := by
  simp only [Act.put]
  rw [Array.getElem?_setIfInBounds_self_of_lt h]
theorem putAll_same (a : Act) (u : Nat → Value) (t : Nat) : ∀ n, (∀ i, i < n → dstAt ops i ≠ some t) → (putAll ops a u n).tmps[t]? = a.tmps[t]?
  | 0, _ => rfl
  | n + 1, h => by
    unfold putAll
    rw [put_other (h n (by omega)), putAll_same a u t n (fun i hi => h i (by omega))]
theorem putAll_set (a : Act) (u : Nat → Value) (d : Nat) (hd : d < a.tmps.size) : ∀ n i, i < n → dstAt ops i = some d → (∀ j, j < n → j ≠ i → dstAt ops j ≠ some d) → (putAll ops a u n).tmps[d]? = some (u i)
  | 0, _, hi, _, _ => by omega
  | n + 1, i, hi, hdi, hu => by
    unfold putAll
    by_cases hin : i = n
    · subst hin
      rw [hdi, put_same (by rw [putAll_size]; exact hd)]
    · rw [put_other (hu n (by omega) (Ne.symm hin)), putAll_set a u d hd n i (by omega) hdi (fun j hj => hu j (by omega))]
theorem getElem?_none_size {xs ys : Array Value} (h : xs.size = ys.size) {t : Nat} (ht : ¬ t < ys.size) : xs[t]? = ys[t]? := by
  rw [Array.getElem?_eq_none (by omega), Array.getElem?_eq_none (by omega)]
/-- One operation that may come up comes up. -/
theorem rely_step {w0 : World} {lf : Bool → List Res} {k0 : Nat} {a : Act} {A : (Nat → Value) → Act} {Q : Exit → Act → World → Prop} (h : relyB ops sp = true) (hA : ∀ u, putAll ops a u sp.length = A u) (hok : ∀ i, i < sp.length → if i = k0 then StepOK2 P ops sp w0 (lf false) (lf true) A i else ∀ b, StepOK2 P ops sp w0 (lf b) (lf b) A i)
    {listed : Array Bool} {a' : Act} {w : World} {u : Nat → Value} (I : RInv ops sp w0 lf k0 a listed a' w u) {i : Nat} (hi : i < sp.length) (hr : i ∈ Region.ready .any ops listed) :
    wpOp P ops Q i (fun a'' w' => ∃ u', RInv ops sp w0 lf k0 a (listed.setIfInBounds i true) a'' w' u') a' w := by
  obtain ⟨o, T⟩ := relyB_told h i hi
  obtain ⟨hun, o', ho', hall⟩ := mem_ready.1 hr
  obtain rfl : o' = o := Option.some.inj (ho'.symm.trans T.op)
  have hunF : listed.getD i false = false := getD_both hun
  have hdep := deps_listed h I.head i hi (fun o'' ho'' e he hb => by
    obtain rfl : o'' = o' := Option.some.inj (ho''.symm.trans T.op)
    exact hall e he hb)
  have hdn : ∀ j ∈ (spec sp i).deps, j < sp.length := fun j hj => Nat.lt_trans (T.lt j hj) hi
  -- who is listed speaks of nobody who is not
  have hnot : ∀ j, j < sp.length → listed.getD j false = true → i ∉ (spec sp j).deps := fun j hj hl hm => by
    have hcl := deps_listed h I.head j hj (fun o'' ho'' e he hb => I.head.closed j o'' ho'' hl e he hb) i hm
    rw [hunF] at hcl
    cases hcl
  -- what the frame shows
  have hag : Agree ops o' a' (A u) := by
    refine ⟨fun t ht => ?_⟩
    rw [← hA u]
    by_cases hex : ∃ j, j < sp.length ∧ dstAt ops j = some t
    · obtain ⟨j, hj, hdj⟩ := hex
      have hjd := T.looks t ht j hj hdj
      obtain ⟨oj, Tj⟩ := relyB_told h j hj
      by_cases hts : t < a.tmps.size
      · rw [I.set j hj (hdep j hjd) t hdj hts, putAll_set a u t hts _ j hj hdj (fun k hk hkj => Tj.alone k hk hkj t hdj)]
      · exact getElem?_none_size (by rw [I.size, putAll_size]) (by rw [putAll_size]; exact hts)
    · rw [I.same t (fun j hj _ hdj => hex ⟨j, hj, hdj⟩), putAll_same a u t _ (fun j hj hdj => hex ⟨j, hj, hdj⟩)]
  -- the things
  have hlv : ∀ j ∈ (spec sp i).eats ++ (spec sp i).keeps, j ∈ liveIds sp (fun k => listed.getD k false) := fun j hj => by
    have hjd := T.sub j hj
    refine liveIds_mem.2 ⟨hdn j hjd, hdep j hjd, fun k hk hlk hm => ?_⟩
    have hki : k ≠ i := fun e => by rw [e, hunF] at hlk; cases hlk
    rcases List.mem_append.1 hj with h1 | h1
    · exact T.eat k hk hki j h1 hm
    · exact hnot k hk hlk (T.kept k hk hki j h1 hm)
  obtain ⟨rest, hrest⟩ : ∃ rest, rest = (liveIds sp (fun k => listed.getD k false)).filter (fun j => !((spec sp i).eats ++ (spec sp i).keeps).contains j) := ⟨_, rfl⟩
  have hrm : ∀ j, j ∈ rest ↔ j ∈ liveIds sp (fun k => listed.getD k false) ∧ j ∉ (spec sp i).eats ++ (spec sp i).keeps := fun j => by
    rw [hrest, List.mem_filter]
    simp
  have hrn : rest.Nodup := by rw [hrest]; exact (liveIds_nodup _ _).filter _
  have hperm : (liveIds sp (fun k => listed.getD k false)).Perm (((spec sp i).eats ++ (spec sp i).keeps) ++ rest) := by
    refine perm_of_mem (liveIds_nodup _ _) (List.nodup_append.2 ⟨T.nodup, hrn, fun x hx y hy e => ?_⟩) (fun j => ?_)
    · subst e
      exact ((hrm x).1 hy).2 hx
    · rw [List.mem_append, hrm]
      constructor
      · intro hj
        by_cases hm : j ∈ (spec sp i).eats ++ (spec sp i).keeps
        · exact .inl hm
        · exact .inr ⟨hj, hm⟩
      · rintro (hj | hj)
        · exact hlv j hj
        · exact hj.1
  obtain ⟨l1, hl1⟩ : ∃ l1, l1 = lf (listed.getD k0 false) := ⟨_, rfl⟩
  obtain ⟨l2, hl2⟩ : ∃ l2, l2 = lf ((listed.setIfInBounds i true).getD k0 false) := ⟨_, rfl⟩
  have hst := I.st
  rw [← hl1] at hst
  have hS : Has w0 w (resOf sp u (spec sp i).eats ++ (resOf sp u (spec sp i).keeps ++ (l1 ++ resOf sp u rest))) := by
    refine hst.perm (((resOf_perm hperm).append_right l1).trans ?_)
    rw [resOf_append, resOf_append]
    simp only [List.append_assoc]
    exact (List.Perm.refl _).append ((List.Perm.refl _).append List.perm_append_comm)
  have hstep : StepOK2 P ops sp w0 l1 l2 A i := by
    have h0 := hok i hi
    by_cases hk : i = k0
    · rw [if_pos hk] at h0
      have hszi : i < listed.size := by rw [I.head.size]; exact (Array.getElem?_eq_some_iff.1 T.op).1
      rw [hl1, hl2, ← hk, hunF, show (listed.setIfInBounds i true).getD i false = true by simp [hszi]]
      exact h0
    · rw [if_neg hk] at h0
      rw [hl1, hl2, getD_set_ne false hk]
      exact h0 _
  unfold StepOK2 at hstep
  rw [T.op] at hstep
  simp only at hstep
  have hfin := hstep u (resOf sp u rest) w (fun j hj => I.vals j (hdn j hj) (hdep j hj)) hS
  -- what is left
  have hnext : ∀ v w', ((spec sp i).val (mask (spec sp i).deps u) v ∧ Has w0 w' ((spec sp i).res (mask (spec sp i).deps u) v ++ (resOf sp u (spec sp i).keeps ++ (l2 ++ resOf sp u rest)))) →
      ∃ u', RInv ops sp w0 lf k0 a (listed.setIfInBounds i true) (a'.put o'.dst v) w' u' := by
    rintro v w' ⟨hv, hS'⟩
    obtain ⟨u', hu'⟩ : ∃ u' : Nat → Value, u' = fun j => if j = i then v else u j := ⟨_, rfl⟩
    have hui : u' i = v := by rw [hu']; simp
    have huj : ∀ j, j ≠ i → u' j = u j := fun j hj => by rw [hu']; simp [hj]
    have hmi : mask (spec sp i).deps u' = mask (spec sp i).deps u := mask_eq fun j hj => huj j (by have := T.lt j hj; omega)
    have hmj : ∀ j, j < sp.length → listed.getD j false = true → mask (spec sp j).deps u' = mask (spec sp j).deps u := fun j hj hl => mask_eq fun k hk => huj k (fun e => hnot j hj hl (e ▸ hk))
    have hold : ∀ j, (listed.setIfInBounds i true).getD j false = true → j ≠ i → listed.getD j false = true := fun j hj hji => by rw [getD_set_ne false (Ne.symm hji)] at hj; exact hj
    have hsz : i < listed.size := by rw [I.head.size]; exact (Array.getElem?_eq_some_iff.1 T.op).1
    have hnew : (listed.setIfInBounds i true).getD i false = true := by simp [hsz]
    have hrj : ∀ j, j < sp.length → listed.getD j false = true → j ≠ i → (spec sp j).resAt u' j = (spec sp j).resAt u j := fun j hj hl hji => by
      unfold RSpec.resAt
      rw [hmj j hj hl, huj j hji]
    have hdi : o'.dst = dstAt ops i := by unfold dstAt; rw [T.op]; rfl
    refine ⟨u', ⟨I.head.set hr hi, ?_, ?_, ?_, ?_, ?_, ?_⟩⟩
    · intro j hj hl
      by_cases hji : j = i
      · subst hji
        unfold RSpec.valAt
        rw [hmi, hui]
        exact hv
      · have := I.vals j hj (hold j hl hji)
        unfold RSpec.valAt at this ⊢
        rw [hmj j hj (hold j hl hji), huj j hji]
        exact this
    · have hp2 : (liveIds sp (fun k => (listed.setIfInBounds i true).getD k false)).Perm (i :: ((spec sp i).keeps ++ rest)) := by
        have hkr : ∀ j, j ∈ (spec sp i).keeps ++ rest ↔ j ∈ liveIds sp (fun k => listed.getD k false) ∧ j ∉ (spec sp i).eats := fun j => by
          rw [List.mem_append, hrm, List.mem_append]
          have hdis : j ∈ (spec sp i).keeps → j ∉ (spec sp i).eats := fun h1 h2 => (List.nodup_append.1 T.nodup).2.2 j h2 j h1 rfl
          constructor
          · rintro (h1 | h1)
            · exact ⟨hlv j (List.mem_append_right _ h1), hdis h1⟩
            · exact ⟨h1.1, fun h2 => h1.2 (.inl h2)⟩
          · rintro ⟨h1, h2⟩
            by_cases hk : j ∈ (spec sp i).keeps
            · exact .inl hk
            · exact .inr ⟨h1, fun h3 => h3.elim h2 hk⟩
        have hin : i ∉ (spec sp i).keeps ++ rest := fun hm => by
          have := (liveIds_mem.1 ((hkr i).1 hm).1).2.1
          rw [hunF] at this
          cases this
        refine perm_of_mem (liveIds_nodup _ _) (List.nodup_cons.2 ⟨hin, ?_⟩) (fun j => ?_)
        · refine List.nodup_append.2 ⟨(List.nodup_append.1 T.nodup).2.1, hrn, fun x hx y hy e => ?_⟩
          subst e
          exact ((hrm x).1 hy).2 (List.mem_append_right _ hx)
        · rw [List.mem_cons, hkr, liveIds_mem, liveIds_mem]
          constructor
          · rintro ⟨h1, h2, h3⟩
            by_cases hji : j = i
            · exact .inl hji
            · refine .inr ⟨⟨h1, hold j h2 hji, fun k hk hlk => h3 k hk (getD_set_true hlk)⟩, h3 i hi hnew⟩
          · rintro (rfl | ⟨⟨h1, h2, h3⟩, h4⟩)
            · refine ⟨hi, hnew, fun k hk hlk hm => ?_⟩
              by_cases hkj : k = j
              · subst hkj
                obtain ⟨ok, Tk⟩ := relyB_told h k hk
                have := Tk.lt k (Tk.sub k (List.mem_append_left _ hm))
                omega
              · obtain ⟨ok, Tk⟩ := relyB_told h k hk
                exact hnot k hk (hold k hlk hkj) (Tk.sub j (List.mem_append_left _ hm))
            · refine ⟨h1, getD_set_true h2, fun k hk hlk hm => ?_⟩
              by_cases hki : k = i
              · subst hki; exact h4 hm
              · exact h3 k hk (hold k hlk hki) hm
      have hres : resOf sp u' (i :: ((spec sp i).keeps ++ rest)) = (spec sp i).res (mask (spec sp i).deps u) v ++ (resOf sp u (spec sp i).keeps ++ resOf sp u rest) := by
        have h1 : (spec sp i).resAt u' i = (spec sp i).res (mask (spec sp i).deps u) v := by unfold RSpec.resAt; rw [hmi, hui]
        have h2 : resOf sp u' ((spec sp i).keeps ++ rest) = resOf sp u ((spec sp i).keeps ++ rest) := resOf_congr fun j hj => by
          have hjl : j ∈ liveIds sp (fun k => listed.getD k false) := by
            rcases List.mem_append.1 hj with h3 | h3
            · exact hlv j (List.mem_append_right _ h3)
            · exact ((hrm j).1 h3).1
          have hjm := liveIds_mem.1 hjl
          exact hrj j hjm.1 hjm.2.1 (fun e => by have := hjm.2.1; rw [e, hunF] at this; cases this)
        unfold resOf at h2 ⊢
        rw [List.flatMap_cons, h1, h2, List.flatMap_append]
      rw [← hl2]
      refine hS'.perm ?_
      refine List.Perm.trans ?_ (((resOf_perm hp2).append_right l2).symm)
      rw [hres]
      simp only [List.append_assoc]
      exact (List.Perm.refl _).append ((List.Perm.refl _).append List.perm_append_comm)
    · cases o'.dst <;> exact I.defers
    · cases o'.dst with
      | none => exact I.size
      | some d => simp only [Act.put, Array.size_setIfInBounds]; exact I.size
    · intro j hj hl d hd hds
      by_cases hji : j = i
      · subst hji
        rw [hdi, hd, put_same (by rw [I.size]; exact hds), hui]
      · have hne : o'.dst ≠ some d := by rw [hdi]; exact fun e => (T.alone j hj hji d e) hd
        rw [put_other hne, huj j hji]
        exact I.set j hj (hold j hl hji) d hd hds
    · intro t ht
      have hne : o'.dst ≠ some t := by rw [hdi]; exact ht i hi hnew
      rw [put_other hne]
      exact I.same t fun j hj hl => ht j hj (getD_set_true hl)
  unfold wpOp
  rw [T.op]
  simp only
  rw [hag.wanted]
  by_cases hw : Region.wanted o' (yielded ops (A u).tmps) = true
  · rw [if_pos hw] at hfin ⊢
    refine .inl (does_wp (Post := fun v w' => (spec sp i).val (mask (spec sp i).deps u) v ∧ Has w0 w' ((spec sp i).res (mask (spec sp i).deps u) v ++ (resOf sp u (spec sp i).keeps ++ (l2 ++ resOf sp u rest)))) ?_ hnext)
    unfold does at hfin ⊢
    rw [execOp_congr o' (fun cs b => Region.noSelect_spec (by simp only [relyB, Bool.and_eq_true] at h; exact h.1) i o' cs b T.op) hag.eval]
    exact hfin
  · rw [if_neg hw] at hfin ⊢
    exact hnext _ _ hfin
/-- The head is followed by operations that come one after the other, behind all of the head. -/
def relyTailB (ops : Array Oper) (n : Nat) : Bool :=
  (decide (n = ops.size) || (decide (n < ops.size) && Region.sinkB .any ops n && Region.chainB .any ops n)) &&
  Region.seqB .any ops (ops.size - n) n (List.replicate n true ++ List.replicate (ops.size - n) false).toArray
def cntU (n : Nat) (listed : Array Bool) : Nat := ((List.range n).filter fun i => !listed.getD i false).length
theorem cntU_set {n : Nat} {listed : Array Bool} {i : Nat} (hi : i < n) (hs : i < listed.size) (h : listed.getD i false = false) : cntU n (listed.setIfInBounds i true) + 1 = cntU n listed := by
  have hp : ((List.range n).filter fun j => !listed.getD j false).Perm (i :: (List.range n).filter fun j => !(listed.setIfInBounds i true).getD j false) := by
    have hin : i ∉ (List.range n).filter fun j => !(listed.setIfInBounds i true).getD j false := by
      rw [List.mem_filter]
      rintro ⟨_, h2⟩
      simp [hs] at h2
    refine perm_of_mem (List.nodup_range.filter _) (List.nodup_cons.2 ⟨hin, List.nodup_range.filter _⟩) (fun j => ?_)
    rw [List.mem_cons, List.mem_filter, List.mem_filter, List.mem_range]
    constructor
    · rintro ⟨h1, h2⟩
      by_cases hji : j = i
      · exact .inl hji
      · exact .inr ⟨h1, by rw [getD_set_ne false (Ne.symm hji)]; exact h2⟩
    · rintro (rfl | ⟨h1, h2⟩)
      · exact ⟨hi, by rw [h]; rfl⟩
      · refine ⟨h1, ?_⟩
        cases hj : listed.getD j false with
        | false => rfl
        | true => rw [getD_set_true hj] at h2; exact h2
  have := hp.length_eq
  simp only [List.length_cons] at this
  exact this.symm
theorem rely_run {w0 : World} {lf : Bool → List Res} {k0 : Nat} {a : Act} {A : (Nat → Value) → Act} {Q : Exit → Act → World → Prop} (h : relyB ops sp = true) (ht : relyTailB ops sp.length = true) (hA : ∀ u, putAll ops a u sp.length = A u) (hok : ∀ i, i < sp.length → if i = k0 then StepOK2 P ops sp w0 (lf false) (lf true) A i else ∀ b, StepOK2 P ops sp w0 (lf b) (lf b) A i)
    (fin : ∀ u w, (∀ i, i < sp.length → (spec sp i).valAt u i) → Has w0 w (resOf sp u (liveIds sp fun _ => true) ++ lf (decide (k0 < sp.length))) → wpList P ops Q (ops.toList.drop sp.length) (A u) w) :
    ∀ (f : Nat) (listed : Array Bool) (a' : Act) (w : World) (u : Nat → Value), RInv ops sp w0 lf k0 a listed a' w u → cntU sp.length listed = f → wpAny P .any ops Q (f + (ops.size - sp.length)) listed a' w
  | 0, listed, a', w, u, I, hc => by
    have hall : ∀ i, i < sp.length → listed.getD i false = true := fun i hi => by
      cases hl : listed.getD i false with
      | true => rfl
      | false =>
        have hm : i ∈ (List.range sp.length).filter fun i => !listed.getD i false := List.mem_filter.2 ⟨List.mem_range.2 hi, by rw [hl]; rfl⟩
        rw [List.eq_nil_of_length_eq_zero hc] at hm
        cases hm
    have hn : sp.length ≤ ops.size := by
      rcases Nat.lt_or_ge ops.size sp.length with h1 | h1
      · obtain ⟨o, T⟩ := relyB_told h ops.size h1
        have := (Array.getElem?_eq_some_iff.1 T.op).1
        omega
      · exact h1
    have hlist : listed = (List.replicate sp.length true ++ List.replicate (ops.size - sp.length) false).toArray := by
      apply Array.ext
      · rw [I.head.size]; simp; omega
      · intro j h1 h2
        rw [I.head.size] at h1
        by_cases hj : j < sp.length
        · have := hall j hj
          simp [I.head.size, h1] at this
          simp [this, List.getElem_append, hj]
        · have := I.head.tail j (by omega) h1
          simp [I.head.size, h1] at this
          simp [this, List.getElem_append, hj]
    have hact : a' = A u := by
      rw [← hA u]
      have hd : a'.defers = (putAll ops a u sp.length).defers := by rw [I.defers, putAll_defers]
      have htm : a'.tmps = (putAll ops a u sp.length).tmps := by
        apply Array.ext_getElem?
        intro t
        by_cases hex : ∃ j, j < sp.length ∧ dstAt ops j = some t
        · obtain ⟨j, hj, hdj⟩ := hex
          obtain ⟨oj, Tj⟩ := relyB_told h j hj
          by_cases hts : t < a.tmps.size
          · rw [I.set j hj (hall j hj) t hdj hts, putAll_set a u t hts _ j hj hdj (fun k hk hkj => Tj.alone k hk hkj t hdj)]
          · exact getElem?_none_size (by rw [I.size, putAll_size]) (by rw [putAll_size]; exact hts)
        · rw [I.same t (fun j hj _ hdj => hex ⟨j, hj, hdj⟩), putAll_same a u t _ (fun j hj hdj => hex ⟨j, hj, hdj⟩)]
      cases a'
      cases hpa : putAll ops a u sp.length
      rw [hpa] at hd htm
      simp only at hd htm
      rw [hd, htm]
    have hlv : (liveIds sp fun i => listed.getD i false) = liveIds sp fun _ => true := by
      unfold liveIds
      refine List.filter_congr fun i hi => ?_
      dsimp only
      rw [hall i (List.mem_range.1 hi)]
      congr 1
      rw [Bool.eq_iff_iff]
      simp only [List.all_eq_true]
      exact forall_congr' fun k => forall_congr' fun hk => by rw [hall k (List.mem_range.1 hk)]
    have hS := I.st
    rw [hlv] at hS
    have hk0 : listed.getD k0 false = decide (k0 < sp.length) := by
      by_cases hk : k0 < sp.length
      · rw [hall k0 hk, decide_eq_true hk]
      · rw [decide_eq_false hk]
        by_cases hk2 : k0 < ops.size
        · have := I.head.tail k0 (by omega) hk2
          exact getD_both this
        · rw [Array.getD_eq_getD_getElem?, Array.getElem?_eq_none (by rw [I.head.size]; omega)]
          rfl
    rw [hk0] at hS
    have hW := fin u w (fun i hi => I.vals i hi (hall i hi)) hS
    have hlen : (ops.toList.drop sp.length).length = ops.size - sp.length := by simp
    rw [Nat.zero_add, ← hlen, hact]
    refine wpAny_of_seq (ops.toList.drop sp.length) sp.length listed (A u) w (fun j => by rw [List.getElem?_drop, Array.getElem?_toList]) ?_ hW
    simp only [relyTailB, Bool.and_eq_true] at ht
    rw [hlen, hlist]
    exact ht.2
  | f + 1, listed, a', w, u, I, hc => by
    rw [show f + 1 + (ops.size - sp.length) = (f + (ops.size - sp.length)) + 1 by omega]
    have hex : ∃ i, i < sp.length ∧ listed.getD i false = false := by
      have : (List.range sp.length).filter (fun i => !listed.getD i false) ≠ [] := fun e => by
        unfold cntU at hc
        rw [e] at hc
        cases hc
      obtain ⟨i, hi⟩ := List.exists_mem_of_ne_nil _ this
      rw [List.mem_filter, List.mem_range] at hi
      exact ⟨i, hi.1, by simpa using hi.2⟩
    have hlt : ∀ i, i < sp.length → i < ops.size := fun i hi => by
      obtain ⟨o, T⟩ := relyB_told h i hi
      exact (Array.getElem?_eq_some_iff.1 T.op).1
    have hready : ∃ i, i ∈ Region.ready .any ops listed := by
      have key : ∀ i, i < sp.length → listed.getD i false = false → ∃ j, j ∈ Region.ready .any ops listed := by
        intro i
        induction i using Nat.strongRecOn with
        | _ i ih =>
          intro hi hl
          obtain ⟨o, T⟩ := relyB_told h i hi
          by_cases hc2 : ∃ e ∈ o.after, Region.binds .any e = true ∧ listed.getD e.on false = false
          · obtain ⟨e, he, hb, hel⟩ := hc2
            exact ih e.on (T.back e he hb) (Nat.lt_trans (T.back e he hb) hi) hel
          · refine ⟨i, mem_ready.2 ⟨getD_in (by rw [I.head.size]; exact hlt i hi) hl, o, T.op, fun e he hb => ?_⟩⟩
            cases hel : listed.getD e.on false with
            | true => rfl
            | false => exact absurd ⟨e, he, hb, hel⟩ hc2
      obtain ⟨i, hi, hl⟩ := hex
      exact key i hi hl
    obtain ⟨i0, hi0, hl0⟩ := hex
    have hhead : ∀ i, i ∈ Region.ready .any ops listed → i < sp.length := fun i hi => by
      simp only [relyTailB, Bool.and_eq_true, Bool.or_eq_true, decide_eq_true_eq] at ht
      rcases ht.1 with h1 | ⟨⟨h1, h2⟩, h3⟩
      · obtain ⟨_, o, ho, _⟩ := mem_ready.1 hi
        have := (Array.getElem?_eq_some_iff.1 ho).1
        omega
      · rcases Nat.lt_or_ge i sp.length with h4 | h4
        · exact h4
        · exact absurd hi (tail_waits h2 h3 h1 I.head _ i0 rfl hi0 (getD_in (by rw [I.head.size]; exact hlt i0 hi0) hl0) i h4)
    refine ⟨fun h0 => ?_, fun i hi => ?_⟩
    · obtain ⟨i, hi⟩ := hready
      rw [h0] at hi
      cases hi
    · have hin := hhead i hi
      have hun : listed.getD i false = false := getD_both (mem_ready.1 hi).1
      refine wpOp_mono (fun a'' w' h1 => ?_) (rely_step h hA hok I hin hi)
      obtain ⟨u', I'⟩ := h1
      refine rely_run h ht hA hok fin f _ a'' w' u' I' ?_
      have := cntU_set hin (by rw [I.head.size]; exact hlt i hin) hun
      omega
/-- A region that draws its order: each operation of its head told by itself, the rest in order. -/
theorem wp_rely2 {id : Nat} {w0 w : World} {lf : Bool → List Res} (k0 : Nat) {a : Act} {Q : Exit → Act → World → Prop} (S : Has w0 w (lf false)) (sp : List RSpec) (A : (Nat → Value) → Act) (hA : ∀ u, putAll ops a u sp.length = A u) (hm : P.follows .mixedOrders = true) (h : relyB ops sp = true) (ht : relyTailB ops sp.length = true)
    (live : List Nat) (hlive : liveIds sp (fun _ => true) = live) (hok : ∀ i, i < sp.length → if i = k0 then StepOK2 P ops sp w0 (lf false) (lf true) A i else ∀ b, StepOK2 P ops sp w0 (lf b) (lf b) A i)
    (fin : ∀ u w, (∀ i, i < sp.length → (spec sp i).valAt u i) → Has w0 w (resOf sp u live ++ lf (decide (k0 < sp.length))) → wpList P ops Q (ops.toList.drop sp.length) (A u) w) : (Code.region id ops true).wp P Q a w := by
  subst hlive
  refine wp_region_any hm ?_
  have hn : sp.length ≤ ops.size := by
    rcases Nat.lt_or_ge ops.size sp.length with h1 | h1
    · obtain ⟨o, T⟩ := relyB_told h ops.size h1
      have := (Array.getElem?_eq_some_iff.1 T.op).1
      omega
    · exact h1
  have hnone : ∀ i, ¬ (Array.replicate ops.size false).getD i false = true := fun i => by
    rw [getD_replicate_false]
    simp
  have hcnt : cntU sp.length (Array.replicate ops.size false) = sp.length := by
    unfold cntU
    rw [List.filter_eq_self.2 (fun i _ => by rw [getD_replicate_false]; rfl), List.length_range]
  have hrun := rely_run (Q := Q) h ht hA hok fin sp.length (Array.replicate ops.size false) a { w with drawn := w.drawn + 1 } (fun _ => undef) ?_ hcnt
  · rw [show sp.length + (ops.size - sp.length) = ops.size by omega] at hrun
    exact hrun
  · refine ⟨⟨by simp, fun j oj _ hl => absurd hl (hnone j), fun t _ htl => by simp [htl]⟩, fun i _ hl => absurd hl (hnone i), ?_, rfl, rfl, fun i _ hl => absurd hl (hnone i), fun t _ => rfl⟩
    have hlv : (liveIds sp fun i => (Array.replicate ops.size false).getD i false) = [] := by
      unfold liveIds
      rw [List.filter_eq_nil_iff]
      intro i _
      dsimp only
      rw [getD_replicate_false]
      simp
    rw [hlv, getD_replicate_false]
    exact S.drew
/-- .. where nothing else is written. -/
theorem wp_rely {id : Nat} {w0 w : World} {l : List Res} {a : Act} {Q : Exit → Act → World → Prop} (S : Has w0 w l) (sp : List RSpec) (A : (Nat → Value) → Act) (hA : ∀ u, putAll ops a u sp.length = A u) (hm : P.follows .mixedOrders = true) (h : relyB ops sp = true) (ht : relyTailB ops sp.length = true)
    (live : List Nat) (hlive : liveIds sp (fun _ => true) = live) (hok : ∀ i, i < sp.length → StepOK P ops sp w0 l A i)
    (fin : ∀ u w, (∀ i, i < sp.length → (spec sp i).valAt u i) → Has w0 w (resOf sp u live ++ l) → wpList P ops Q (ops.toList.drop sp.length) (A u) w) : (Code.region id ops true).wp P Q a w :=
  wp_rely2 (lf := fun _ => l) sp.length S sp A hA hm h ht live hlive (fun i hi => by rw [if_neg (by omega)]; exact fun _ => hok i hi) fin
/-- .. where operation k0 writes the first thing. -/
theorem wp_relyW {id : Nat} {w0 w : World} {e0 e1 : Res} {F : List Res} {a : Act} {Q : Exit → Act → World → Prop} (k0 : Nat) (S : Has w0 w (e0 :: F)) (sp : List RSpec) (A : (Nat → Value) → Act) (hA : ∀ u, putAll ops a u sp.length = A u) (hm : P.follows .mixedOrders = true) (h : relyB ops sp = true) (ht : relyTailB ops sp.length = true)
    (live : List Nat) (hlive : liveIds sp (fun _ => true) = live) (hk : k0 < sp.length) (hok : ∀ i, i < sp.length → if i = k0 then StepOK2 P ops sp w0 (e0 :: F) (e1 :: F) A i else ∀ r : Res, StepOK P ops sp w0 (r :: F) A i)
    (fin : ∀ u w, (∀ i, i < sp.length → (spec sp i).valAt u i) → Has w0 w (resOf sp u live ++ (e1 :: F)) → wpList P ops Q (ops.toList.drop sp.length) (A u) w) : (Code.region id ops true).wp P Q a w :=
  wp_rely2 (lf := fun b => if b then e1 :: F else e0 :: F) k0 S sp A hA hm h ht live hlive (fun i hi => by
    have := hok i hi
    by_cases hik : i = k0
    · rw [if_pos hik] at this ⊢
      exact this
    · rw [if_neg hik] at this ⊢
      intro b
      cases b
      · exact this e0
      · exact this e1) (by rw [decide_eq_true hk]; exact fin)
end

/-- The block that a pointer points into. -/
def ptrBlk : Value → Nat
  | .pointer (some a) => a.block
  | _ => 0
theorem does_val {P : Program} {ρ : Operand → Value} {o : Oper} {w w' : World} {v : Value} {Post : Value → World → Prop} (hr : (execOp ρ o).run P w = .ok (.value v) w') (h : Post v w') : does P ρ o w Post := by
  unfold does
  rw [hr]
  exact h
theorem does_unit {P : Program} {ρ : Operand → Value} {o : Oper} {w w' : World} {Post : Value → World → Prop} (hr : (execOp ρ o).run P w = .ok .skip w') (h : Post undef w') : does P ρ o w Post := by
  unfold does
  rw [hr]
  exact h
theorem does_call {P : Program} {ρ : Operand → Value} {o : Oper} {w w' : World} {f : FuncId} {args : Array Value} {R : Ending → World → Prop} {Post : Value → World → Prop} (hr : (execOp ρ o).run P w = .ok (.enter f args) w') (hc : Calls P f args w' R)
    (h : ∀ e w'', R e w'' → ∃ v, e = .returned v ∧ Post v w'') : does P ρ o w Post := by
  unfold does
  rw [hr]
  refine hc.mono fun e w'' he => ?_
  obtain ⟨v, rfl, hp⟩ := h e w'' he
  exact hp
theorem step_of {P : Program} {ops : Array Oper} {sp : List RSpec} {w0 : World} {l : List Res} {A : (Nat → Value) → Act} {i : Nat} {o : Oper} {deps eats keeps : List Nat} {val : (Nat → Value) → Value → Prop} {res : (Nat → Value) → Value → List Res}
    (hs : spec sp i = ⟨deps, eats, keeps, val, res⟩) (ho : ops[i]? = some o) (hg : o.guard = none)
    (h : ∀ (u : Nat → Value) (G : List Res) (w : World), (∀ j ∈ deps, (spec sp j).valAt u j) → Has w0 w (resOf sp u eats ++ (resOf sp u keeps ++ (l ++ G))) →
      does P (A u).eval o w fun v w' => val (mask deps u) v ∧ Has w0 w' (res (mask deps u) v ++ (resOf sp u keeps ++ (l ++ G)))) : StepOK P ops sp w0 l A i := by
  unfold StepOK StepOK2
  rw [ho, hs]
  intro u G w hf S
  rw [if_pos (by simp [Region.wanted, hg])]
  exact h u G w hf S
theorem step_of_g {P : Program} {ops : Array Oper} {sp : List RSpec} {w0 : World} {l : List Res} {A : (Nat → Value) → Act} {i : Nat} {o : Oper} {deps eats keeps : List Nat} {val : (Nat → Value) → Value → Prop} {res : (Nat → Value) → Value → List Res}
    (hs : spec sp i = ⟨deps, eats, keeps, val, res⟩) (ho : ops[i]? = some o)
    (h : ∀ (u : Nat → Value) (G : List Res) (w : World), (∀ j ∈ deps, (spec sp j).valAt u j) → Has w0 w (resOf sp u eats ++ (resOf sp u keeps ++ (l ++ G))) →
      Region.wanted o (yielded ops (A u).tmps) = true ∧ does P (A u).eval o w fun v w' => val (mask deps u) v ∧ Has w0 w' (res (mask deps u) v ++ (resOf sp u keeps ++ (l ++ G)))) : StepOK P ops sp w0 l A i := by
  unfold StepOK StepOK2
  rw [ho, hs]
  intro u G w hf S
  obtain ⟨h1, h2⟩ := h u G w hf S
  dsimp only
  rw [if_pos h1]
  exact h2
theorem step_ofW {P : Program} {ops : Array Oper} {sp : List RSpec} {w0 : World} {l l' : List Res} {A : (Nat → Value) → Act} {i : Nat} {o : Oper} {deps eats keeps : List Nat} {val : (Nat → Value) → Value → Prop} {res : (Nat → Value) → Value → List Res}
    (hs : spec sp i = ⟨deps, eats, keeps, val, res⟩) (ho : ops[i]? = some o) (hg : o.guard = none)
    (h : ∀ (u : Nat → Value) (G : List Res) (w : World), (∀ j ∈ deps, (spec sp j).valAt u j) → Has w0 w (resOf sp u eats ++ (resOf sp u keeps ++ (l ++ G))) →
      does P (A u).eval o w fun v w' => val (mask deps u) v ∧ Has w0 w' (res (mask deps u) v ++ (resOf sp u keeps ++ (l' ++ G)))) : StepOK2 P ops sp w0 l l' A i := by
  unfold StepOK2
  rw [ho, hs]
  intro u G w hf S
  rw [if_pos (by simp [Region.wanted, hg])]
  exact h u G w hf S
theorem does_append {P : Program} {a : Act} {w0 w : World} {F : List Res} {dst : Option Tmp} {ty : TypeId} {pos : String} {after : Array Edge} {guard : Option (Nat × Bool)} {Post : Value → World → Prop} (s x : Operand) (t : TypeId) (e : TypeId) (z : Value) (size bytes : Nat) (ht : P.underlying t = some (.slice e)) (hinfo : (P.info? e).map (fun i => (i.zero, i.size, i.bytes)) = some (some z, size, bytes)) (hzs : z.cells.size = size) (hsz : 0 < size)
    (v : Value) (n : Nat) (xs : List Value) (hs : a.eval s = v) (S : Has w0 w (row v e size n xs :: F)) (src : Value) (m : Nat) (news : List Value) (hx : a.eval x = src) (hsrc : Sl w size src m news) (h1 : ∀ u ∈ news, u.oneCell' = true)
    (h63 : n + m ≤ maxLen) (hbytes : (n + m) * bytes ≤ 140737488355328)
    (h : ∀ v' w', Has w0 w' (row v' e size (n + m) (xs ++ news) :: F) → Post v' w') :
    does P a.eval ⟨dst, .call { callee := .builtin .append, args := #[s, x], argTypes := #[t, t] }, ty, pos, after, guard⟩ w Post := by
  obtain ⟨i, hi, hz, hsize, hby⟩ := info_parts hinfo
  have hown : w.ownsRow 0 e size v n xs := S.holds (row v e size n xs) (by simp)
  obtain ⟨v', w', hr, ho, hg⟩ := run_append_grew (P := P) w 0 t ty e i z size bytes ht hi hz hsize hby hzs hsz v n xs hown src m news hsrc h1 h63 hbytes (Nat.zero_le _)
  refine does_val (v := v') (w' := w') ?_ (h v' w' ?_)
  · simp [execOp, resolve, invoke, builtin, hs, hx, hr, Result.andThen]
  · refine S.write hg.g.os hg.g.tape hg.g.output hg.g.size (fun k hk hkr => hg.g.block k hk (fun he => hkr (by simp [row, ← he]))) ho (fun g hgm => ?_)
    rcases hg.at' with h2 | h2 | ⟨k, h2, h3⟩
    · exact absurd hgm (by simp [row, h2])
    · exact .inl (by simpa only [row, h2] using hgm)
    · have : g = k := by simpa [row, h2] using hgm
      exact .inr (by omega)
theorem run_fn {P : Program} {a : Act} {w : World} {dst : Option Tmp} {ty : TypeId} {pos : String} {after : Array Edge} {guard : Option (Nat × Bool)} {f : FuncId} {fn : Func} {xs : List Operand} {ts : Array TypeId} {args : List Value}
    (hf : P.funcs[f]? = some fn) (hn : (fn.name == "runtime.NumGoroutine") = false) (hb : fn.body.isNone = false) (hx : xs.map a.eval = args) :
    (execOp a.eval ⟨dst, .call { callee := .value (.func f), args := xs.toArray, argTypes := ts }, ty, pos, after, guard⟩).run P w = .ok (.enter f args.toArray) w := by
  subst hx
  obtain ⟨b, hb'⟩ : ∃ b, fn.body = some b := by
    cases h : fn.body with
    | none => rw [h] at hb; cases hb
    | some b => exact ⟨b, rfl⟩
  have hn' : ¬ fn.name = "runtime.NumGoroutine" := by simpa using hn
  simp [execOp, resolve, Act.eval, Deferred.ofValue, invoke, callFunc, hf, hn', hb', Result.andThen]
theorem does_fn {P : Program} {a : Act} {w : World} {dst : Option Tmp} {ty : TypeId} {pos : String} {after : Array Edge} {guard : Option (Nat × Bool)} {f : FuncId} {fn : Func} {xs : List Operand} {ts : Array TypeId} {args : List Value} {R : Ending → World → Prop} {Post : Value → World → Prop}
    (hf : P.funcs[f]? = some fn) (hn : (fn.name == "runtime.NumGoroutine") = false) (hb : fn.body.isNone = false) (hc : Calls P f args.toArray w R) (hx : xs.map a.eval = args)
    (h : ∀ e w'', R e w'' → ∃ v, e = .returned v ∧ Post v w'') : does P a.eval ⟨dst, .call { callee := .value (.func f), args := xs.toArray, argTypes := ts }, ty, pos, after, guard⟩ w Post :=
  does_call (run_fn hf hn hb hx) hc h
theorem does_alloc {P : Program} {a : Act} {w0 w : World} {l : List Res} {dst : Option Tmp} {ty : TypeId} {pos : String} {after : Array Edge} {guard : Option (Nat × Bool)} {Post : Value → World → Prop} (S : Has w0 w l) (t : TypeId) (z : Value) (cs : Array Value) (hz : (P.info? t).map (·.zero) = some (some z)) (hc : z.cells = cs)
    (h : ∀ g w', Has w0 w' (blk g (.cells cs t (0, 0)) :: l) → Post (.pointer (some ⟨g, 0, none⟩)) w') : does P a.eval ⟨dst, .alloc t, ty, pos, after, guard⟩ w Post := by
  subst hc
  refine does_val (v := .pointer (some ⟨w.heap.size, 0, none⟩)) (w' := w.alloc (.cells z.cells t)) ?_ (h _ _ (S.alloc _ _))
  simp only [execOp, Sem.run_bind, run_alloc t z hz, Result.andThen_ok, Sem.run_pure]
/-! Short words for the operations of a drawn region -/
/-- An operation that leaves a value which is known, and no thing. -/
abbrev sv (d : List Nat) (x : Value) : RSpec := ⟨d, [], [], fun _ v => v = x, fun _ _ => []⟩
theorem fl : (∀ (sp : List RSpec) (u : Nat → Value) (l : List Nat), resOf sp u l = l.flatMap fun i => (spec sp i).resAt u i) ∧ (∀ (sp : List RSpec) (i : Nat), spec sp i = sp.getD i default) ∧ (∀ (s : RSpec) (u : Nat → Value) (i : Nat), s.resAt u i = s.res (mask s.deps u) (u i)) ∧
    (∀ (a d : RSpec) (l : List RSpec), (a :: l).getD 0 d = a) ∧ (∀ (a d : RSpec) (l : List RSpec) (n : Nat), (a :: l).getD (n + 1) d = l.getD n d) ∧ (∀ (f : Nat → List Res) (a : Nat) (l : List Nat), (a :: l).flatMap f = f a ++ l.flatMap f) ∧ (∀ f : Nat → List Res, ([] : List Nat).flatMap f = []) ∧
    (∀ g o r, ptrBlk (.pointer (some ⟨g, o, r⟩)) = g) :=
  ⟨fun _ _ _ => rfl, fun _ _ => rfl, fun _ _ _ => rfl, fun _ _ _ => rfl, fun _ _ _ _ => rfl, fun _ _ _ => List.flatMap_cons, fun _ => List.flatMap_nil, fun _ _ _ => rfl⟩
/-- All values, one after the other. -/
def AllV (u : Nat → Value) : Nat → List RSpec → Prop
  | _, [] => True
  | i, s :: t => s.valAt u i ∧ AllV u (i + 1) t
theorem allVk {u : Nat → Value} : ∀ (t : List RSpec) (k : Nat), (∀ i, i < t.length → (t.getD i default).valAt u (k + i)) → AllV u k t
  | [], _, _ => trivial
  | s :: t, k, h => ⟨h 0 (Nat.zero_lt_succ _), allVk t (k + 1) fun i hi => by
    have := h (i + 1) (Nat.succ_lt_succ hi)
    rw [Nat.add_assoc, Nat.add_comm 1 i]
    exact this⟩
theorem allV {sp : List RSpec} {u : Nat → Value} (h : ∀ i, i < sp.length → (spec sp i).valAt u i) : AllV u 0 sp := allVk sp 0 fun i hi => by
  rw [Nat.zero_add]
  exact h i hi
def AllN (sp : List RSpec) (u : Nat → Value) : List Nat → Prop
  | [] => True
  | j :: t => (spec sp j).valAt u j ∧ AllN sp u t
theorem allN {sp : List RSpec} {u : Nat → Value} {deps : List Nat} (h : ∀ j ∈ deps, (spec sp j).valAt u j) : ∀ n : List Nat, n.all (fun j => deps.contains j) = true → AllN sp u n
  | [], _ => trivial
  | j :: t, hn => by
    rw [List.all_cons, Bool.and_eq_true] at hn
    exact ⟨h j (by simpa using hn.1), allN h t hn.2⟩
/-- A step, told with the values that it needs. -/
def Need (_ : List Nat) (p : Prop) : Prop := p
theorem need_s {P : Program} {ops : Array Oper} {sp : List RSpec} {w0 : World} {l : List Res} {A : (Nat → Value) → Act} {i : Nat} {o : Oper} {deps eats keeps n : List Nat} {val : (Nat → Value) → Value → Prop} {res : (Nat → Value) → Value → List Res}
    (hs : spec sp i = ⟨deps, eats, keeps, val, res⟩) (ho : ops[i]? = some o) (hg : o.guard = none) (hn : n.all (fun j => deps.contains j) = true)
    (h : ∀ (u : Nat → Value) (G : List Res) (w : World), AllN sp u n → Has w0 w (resOf sp u eats ++ (resOf sp u keeps ++ (l ++ G))) →
      does P (A u).eval o w fun v w' => val (mask deps u) v ∧ Has w0 w' (res (mask deps u) v ++ (resOf sp u keeps ++ (l ++ G)))) : Need n (StepOK P ops sp w0 l A i) :=
  step_of hs ho hg fun u G w hf S => h u G w (allN hf n hn) S
theorem need_g {P : Program} {ops : Array Oper} {sp : List RSpec} {w0 : World} {l : List Res} {A : (Nat → Value) → Act} {i : Nat} {o : Oper} {deps eats keeps n : List Nat} {val : (Nat → Value) → Value → Prop} {res : (Nat → Value) → Value → List Res}
    (hs : spec sp i = ⟨deps, eats, keeps, val, res⟩) (ho : ops[i]? = some o) (hn : n.all (fun j => deps.contains j) = true)
    (h : ∀ (u : Nat → Value) (G : List Res) (w : World), AllN sp u n → Has w0 w (resOf sp u eats ++ (resOf sp u keeps ++ (l ++ G))) →
      Region.wanted o (yielded ops (A u).tmps) = true ∧ does P (A u).eval o w fun v w' => val (mask deps u) v ∧ Has w0 w' (res (mask deps u) v ++ (resOf sp u keeps ++ (l ++ G)))) : Need n (StepOK P ops sp w0 l A i) :=
  step_of_g hs ho fun u G w hf S => h u G w (allN hf n hn) S
theorem oP (n : List Nat) {p : Prop} (h : Need n p := by
  first | refine need_s rfl rfl rfl rfl ?_ | refine need_sB rfl rfl rfl rfl ?_
  intro u G w hf S
  try refine does.bad ?_
  try simp only [AllN, RSpec.valAt, fl, sv] at hf
  simp only [fl, z4, z5, z6, z7] at S ⊢
  try simp only [hf]
  simp only [does]
  go_simp
  try first | exact S | exact ⟨vv, S⟩ | exact vv) : p := h
theorem oG (n : List Nat) {p : Prop} (h : Need n p := by
  first | refine need_g rfl rfl rfl ?_ | refine need_gB rfl rfl rfl ?_
  intro u G w hf S
  try simp only [AllN, RSpec.valAt, fl, sv] at hf
  simp only [fl, z4, z5, z6, z7] at S ⊢
  try simp only [hf]
  refine ⟨rfl, ?_⟩
  try refine does.bad ?_
  simp only [does]
  go_simp
  try first | exact S | exact ⟨vv, S⟩ | exact vv) : p := h
theorem oX (n : List Nat) {p : Prop} (h : Need n p := by
  first | refine need_x rfl rfl rfl ?_ | refine need_xB rfl rfl rfl ?_
  intro u G w hf S
  try simp only [AllN, RSpec.valAt, fl, sv] at hf
  simp only [fl, z4, z5, z6, z7] at S ⊢
  try simp only [hf]
  refine ⟨rfl, ?_⟩
  first | exact ⟨rfl, S⟩ | exact ⟨trivial, S⟩) : p := h
end Go.Proofs.YtfhkmmagpnojmaaDoor

/- More single operations on memory that a call owns: parts of a block, cells of a slice of one's own, conversions, new slices. No condition. -/
namespace Go.Proofs.YtfhkmmagpnojmaaDoor
open Go.RowKit

section
variable {P : Program} {ops : Array Oper} {rest : List Oper} {a : Act} {w0 w : World} {l F : List Res} {Q : Exit → Act → World → Prop} {dst : Option Tmp} {ty : TypeId} {pos : String} {after : Array Edge} {gd : Option (Nat × Bool)} {Post : Value → World → Prop}

theorem run_loadAt_part (w : World) (g off : Nat) (t t' : TypeId) (cs : Array Value) (fr : Nat × Nat) (sub : Array Value) (n : Nat) (hg : w.heap[g]? = some (.cells cs t' fr)) (hs : ((cs.toList.drop off).take n).toArray = sub) (hl : sub.size = n)
    (d : TypeDesc) (hu : P.underlying t = some d) (hd : (match d with | .struct _ | .array _ _ => true | _ => false) = true) (hi : (P.info? t).map (·.size) = some n) :
    (Instr.loadAt t (.pointer (some ⟨g, off, none⟩))).run P w = .ok (.agg sub) w := by
  subst hs
  have hl2 : ((cs.toList.drop off).take n).length = n := by simpa using hl
  exact run_loadAt_mid (P := P) w g off t ((cs.toList.drop off).take n) d (rangeAt_of_row hg off n) hu (by cases d <;> simp_all [TypeDesc.isRow]) (by rw [hl2]; exact hi)
/-- A part of a block is loaded. -/
theorem step_loadP (S : Has w0 w l) (t : TypeId) (x : Operand) (g off : Nat) (hx : a.eval x = .pointer (some ⟨g, off, none⟩)) (t' : TypeId) (cs : Array Value) (fr : Nat × Nat) (hp : Pick l (blk g (.cells cs t' fr)) F) (n : Nat) (sub : Array Value) (hs : ((cs.toList.drop off).take n).toArray = sub) (hl : sub.size = n)
    (d : TypeDesc) (hu : P.underlying t = some d) (hd : (match d with | .struct _ | .array _ _ => true | _ => false) = true) (hi : (P.info? t).map (·.size) = some n)
    (hw : Region.wanted ⟨dst, .load t x, ty, pos, after, gd⟩ (yielded ops a.tmps) = true)
    (h : wpList P ops Q rest (a.put dst (.agg sub)) w) : wpList P ops Q (⟨dst, .load t x, ty, pos, after, gd⟩ :: rest) a w := by
  refine step_val (v := .agg sub) hw ?_ h
  have := run_loadAt_part (P := P) w g off t t' cs fr sub n (S.get hp) hs hl d hu hd hi
  simp only [execOp, hx, Sem.run_bind, this, Result.andThen_ok, Sem.run_pure]
theorem does_loadP (S : Has w0 w l) (t : TypeId) (x : Operand) (g off : Nat) (hx : a.eval x = .pointer (some ⟨g, off, none⟩)) (t' : TypeId) (cs : Array Value) (fr : Nat × Nat) (hp : Pick l (blk g (.cells cs t' fr)) F) (n : Nat) (sub : Array Value) (hs : ((cs.toList.drop off).take n).toArray = sub) (hl : sub.size = n)
    (d : TypeDesc) (hu : P.underlying t = some d) (hd : (match d with | .struct _ | .array _ _ => true | _ => false) = true) (hi : (P.info? t).map (·.size) = some n)
    (h : Post (.agg sub) w) : does P a.eval ⟨dst, .load t x, ty, pos, after, gd⟩ w Post := by
  refine does_val (v := .agg sub) ?_ h
  have := run_loadAt_part (P := P) w g off t t' cs fr sub n (S.get hp) hs hl d hu hd hi
  simp only [execOp, hx, Sem.run_bind, this, Result.andThen_ok, Sem.run_pure]
theorem does_load (t : TypeId) (x : Operand) (g : Nat) (hx : a.eval x = .pointer (some ⟨g, 0, none⟩)) (t' : TypeId) (cs : Array Value) (fr : Nat × Nat) (hg : w.heap[g]? = some (.cells cs t' fr))
    (d : TypeDesc) (hu : P.underlying t = some d) (hd : (match d with | .struct _ | .array _ _ => true | _ => false) = true) (n : Nat) (hi : (P.info? t).map (·.size) = some n) (hn : cs.size = n)
    (h : Post (.agg cs) w) : does P a.eval ⟨dst, .load t x, ty, pos, after, gd⟩ w Post := by
  refine does_val (v := .agg cs) ?_ h
  have := run_loadAt_row (P := P) w g t t' cs fr hg d hu hd n hi hn
  simp only [execOp, hx, Sem.run_bind, this, Result.andThen_ok, Sem.run_pure]
theorem does_load1 (t : TypeId) (x : Operand) (a0 : Addr) (v : Value) (hx : a.eval x = .pointer (some a0)) (hc : w.cell? a0 = some v) (d : TypeDesc) (hu : P.underlying t = some d) (hd : (match d with | .struct _ | .array _ _ => false | _ => true) = true)
    (h : Post v w) : does P a.eval ⟨dst, .load t x, ty, pos, after, gd⟩ w Post := by
  refine does_val (v := v) ?_ h
  have := run_loadAt_cell (P := P) w a0 t v d hu hd hc
  simp only [execOp, hx, Sem.run_bind, this, Result.andThen_ok, Sem.run_pure]
/-- Bytes become a string. -/
theorem step_conv (src dt e : TypeId) (x : Operand) (v : Value) (xs : List UInt8) (hx : a.eval x = v) (hs : P.underlying src = some (.slice e)) (he : P.underlying e = some (.int .u8)) (hd : P.underlying dt = some .string) (hv : Bs w v xs)
    (hw : Region.wanted ⟨dst, .convert src dt x, ty, pos, after, gd⟩ (yielded ops a.tmps) = true)
    (h : wpList P ops Q rest (a.put dst (.string (strB xs))) w) : wpList P ops Q (⟨dst, .convert src dt x, ty, pos, after, gd⟩ :: rest) a w := by
  refine step_val (v := .string (strB xs)) hw ?_ h
  have := hv.conv (P := P) src dt e hs he hd
  simp only [execOp, hx, Sem.run_bind, this, Result.andThen_ok, Sem.run_pure]
theorem does_conv (src dt e : TypeId) (x : Operand) (v : Value) (xs : List UInt8) (hx : a.eval x = v) (hs : P.underlying src = some (.slice e)) (he : P.underlying e = some (.int .u8)) (hd : P.underlying dt = some .string) (hv : Bs w v xs)
    (h : Post (.string (strB xs)) w) : does P a.eval ⟨dst, .convert src dt x, ty, pos, after, gd⟩ w Post := by
  refine does_val (v := .string (strB xs)) ?_ h
  have := hv.conv (P := P) src dt e hs he hd
  simp only [execOp, hx, Sem.run_bind, this, Result.andThen_ok, Sem.run_pure]
theorem run_buildSlice0 (t e : TypeId) (ht : P.underlying t = some (.slice e)) (s : Nat) (hs : (P.info? e).map (·.size) = some s) (w : World) : (Instr.buildSlice t 0 #[]).run P w = .ok (.slice (some ⟨w.heap.size, 0, none⟩) 0 0) (w.alloc (.cells #[] e)) := by
  cases hq : P.info? e with
  | none => simp [hq] at hs
  | some i =>
    have h0 : (Array.map (fun _ => (default : Value)) (Array.range 0)) = #[] := by simp
    simp [Instr.buildSlice, run_underlying ht, sizeOf, typeInfo, hq, Instr.fill, newRow, newObj]
    simp [h0]
    rfl
theorem Has.row_empty (S : Has w0 w l) (e size : Nat) : Has w0 (w.alloc (.cells #[] e)) (row (.slice (some ⟨w.heap.size, 0, none⟩) 0 0) e size 0 [] :: l) :=
  S.call (Has.of_own (below1 w _) (World.ownsRow_made w #[] 0 (Nat.le_refl _) (by decide) (by simp)))
/-- A new slice without elements. -/
theorem step_build0 (S : Has w0 w l) (t e : TypeId) (ht : P.underlying t = some (.slice e)) (s : Nat) (hs : (P.info? e).map (·.size) = some s)
    (hw : Region.wanted ⟨dst, .buildSlice t 0 #[], ty, pos, after, gd⟩ (yielded ops a.tmps) = true)
    (h : ∀ v w', Has w0 w' (row v e s 0 [] :: l) → wpList P ops Q rest (a.put dst v) w') : wpList P ops Q (⟨dst, .buildSlice t 0 #[], ty, pos, after, gd⟩ :: rest) a w := by
  refine step_val (v := .slice (some ⟨w.heap.size, 0, none⟩) 0 0) (w' := w.alloc (.cells #[] e)) hw ?_ (h _ _ (S.row_empty e s))
  have := run_buildSlice0 (P := P) t e ht s hs w
  simp only [execOp, Array.map_empty, Sem.run_bind, List.map_toArray, List.map_nil, this, Result.andThen_ok, Sem.run_pure]
/-- A nil slice is one's own. -/
theorem Has.nil_row (S : Has w0 w l) (e size : Nat) : Has w0 w (row (.slice none 0 0) e size 0 [] :: l) :=
  S.call ⟨Below.refl _ _, fun r hr => by simp only [List.mem_singleton] at hr; subst hr; exact World.ownsRow_nil _ _ _ _, fun r hr g hg => by simp only [List.mem_singleton] at hr; subst hr; simp [row, Value.ownBlock] at hg, List.pairwise_singleton _ _⟩
/-- Where a slice of one's own that is not empty lies. -/
theorem Has.row_at (S : Has w0 w l) {v : Value} {e size n : Nat} {xs : List Value} (hp : Pick l (row v e size n xs) F) (hn : n ≠ 0) : ∃ g c, v = .slice (some ⟨g, 0, none⟩) n c ∧ n ≤ c := by
  rcases (S.get hp).2 with ⟨_, h0⟩ | ⟨g, cap, cur, hv, _, _, hc, _⟩
  · exact absurd h0 hn
  · exact ⟨g, cap, hv, hc⟩
theorem Has.row_cell (S : Has w0 w l) {g c e n : Nat} {xs : List Value} (hp : Pick l (row (.slice (some ⟨g, 0, none⟩) n c) e 1 n xs) F) (k : Nat) (v : Value) (hv : xs[k]? = some v) : w.cell? ⟨g, k, none⟩ = some v := by
  have ho : w.ownsRow 0 e 1 (.slice (some ⟨g, 0, none⟩) n c) n xs := S.get hp
  have hk : k < xs.length := (List.getElem?_eq_some_iff.1 hv).1
  rw [ho.cellAt k (by have := ho.1; omega)]
  exact hv
end
end Go.Proofs.YtfhkmmagpnojmaaDoor

/- Slices made out of elements, and bytes made out of strings, as things that a call owns. No condition. -/
namespace Go.Proofs.YtfhkmmagpnojmaaDoor
open Go.RowKit

section
variable {P : Program} {ops : Array Oper} {rest : List Oper} {a : Act} {w0 w : World} {l F : List Res} {Q : Exit → Act → World → Prop} {dst : Option Tmp} {ty : TypeId} {pos : String} {after : Array Edge} {gd : Option (Nat × Bool)} {Post : Value → World → Prop}

theorem run_buildSlice1 (t e : TypeId) (z : Value) (vs : List Value) (ht : P.underlying t = some (.slice e)) (hi : (P.info? e).map (fun i => (i.zero, i.size)) = some (some z, 1)) (hz : z.cells.size = 1) (hv : ∀ v ∈ vs, v.cells = #[v]) (hn : vs.length ≤ 16777216) (w : World) :
    (Instr.buildSlice t vs.length ((vs.zipIdx 0).map fun x => (x.2, x.1)).toArray).run P w = .ok (.slice (some ⟨w.heap.size, 0, none⟩) vs.length vs.length) (w.alloc (.cells vs.toArray e)) := by
  cases hq : P.info? e with
  | none => simp [hq] at hi
  | some i =>
    have h1 : i.zero = some z ∧ i.size = 1 := by simpa [hq] using hi
    by_cases h0 : vs.length = 0
    · obtain rfl := List.eq_nil_of_length_eq_zero h0
      have := run_buildSlice0 (P := P) t e ht 1 (by simp [hq, h1.2]) w
      simpa using this
    · have hrun : (Instr.buildSlice t vs.length ((vs.zipIdx 0).map fun x => (x.2, x.1)).toArray).run P w = ((newRow e vs.toArray).run P w).andThen fun ad w' => .ok (.slice (some ad) vs.length vs.length) w' := by
        have hsz : ((Array.range (vs.length * 1)).map (z.cells[· % z.cells.size]!)).size = vs.length := by simp
        have hf := Go.Great.fill_flat vs ((Array.range (vs.length * 1)).map (z.cells[· % z.cells.size]!)) hv hsz.symm
        simp only [Nat.mul_one] at hf hsz
        have h24 : ¬ vs.length > 16777216 := by omega
        have hz0 : ¬ vs.length = 0 := h0
        simp [Instr.buildSlice, run_underlying ht, sizeOf, typeInfo, hq, h1.1, h1.2, zeroValue, h24, hz0]
        rw [hf]
        simp
      rw [hrun]
      simp [newRow, newObj]
      rfl
theorem Has.row_lit (S : Has w0 w l) (e n : Nat) (vs : List Value) (hn : vs.length = n) (hm : n ≤ maxLen) : Has w0 (w.alloc (.cells vs.toArray e)) (row (.slice (some ⟨w.heap.size, 0, none⟩) n n) e 1 n vs :: l) := by
  have h := World.ownsRow_lit (base := w.heap.size) (e := e) (size := 1) w vs.toArray n (Nat.le_refl _) hm (by simp [hn])
  exact S.call (Has.of_own (below1 w _) h)
/-- A new slice of single cells. -/
theorem step_buildL (S : Has w0 w l) (t e : TypeId) (n : Nat) (parts : Array (Nat × Operand)) (vs : List Value) (z : Value) (ht : P.underlying t = some (.slice e)) (hi : (P.info? e).map (fun i => (i.zero, i.size)) = some (some z, 1)) (hz : z.cells.size = 1)
    (hp : (parts.map fun (i, x) => (i, a.eval x)) = ((vs.zipIdx 0).map fun x => (x.2, x.1)).toArray) (hn : vs.length = n) (hv : ∀ v ∈ vs, v.cells = #[v]) (hm : n ≤ 16777216)
    (hw : Region.wanted ⟨dst, .buildSlice t n parts, ty, pos, after, gd⟩ (yielded ops a.tmps) = true)
    (h : ∀ v w', Has w0 w' (row v e 1 n vs :: l) → wpList P ops Q rest (a.put dst v) w') : wpList P ops Q (⟨dst, .buildSlice t n parts, ty, pos, after, gd⟩ :: rest) a w := by
  subst hn
  refine step_val (v := .slice (some ⟨w.heap.size, 0, none⟩) vs.length vs.length) (w' := w.alloc (.cells vs.toArray e)) hw ?_ (h _ _ (S.row_lit e vs.length vs rfl (Nat.le_trans hm (by decide))))
  have := run_buildSlice1 (P := P) t e z vs ht hi hz hv hm w
  simp only [execOp, hp, Sem.run_bind, this, Result.andThen_ok, Sem.run_pure]
theorem does_buildL (S : Has w0 w l) (t e : TypeId) (n : Nat) (parts : Array (Nat × Operand)) (vs : List Value) (z : Value) (ht : P.underlying t = some (.slice e)) (hi : (P.info? e).map (fun i => (i.zero, i.size)) = some (some z, 1)) (hz : z.cells.size = 1)
    (hp : (parts.map fun (i, x) => (i, a.eval x)) = ((vs.zipIdx 0).map fun x => (x.2, x.1)).toArray) (hn : vs.length = n) (hv : ∀ v ∈ vs, v.cells = #[v]) (hm : n ≤ 16777216)
    (h : ∀ v w', Has w0 w' (row v e 1 n vs :: l) → Post v w') : does P a.eval ⟨dst, .buildSlice t n parts, ty, pos, after, gd⟩ w Post := by
  subst hn
  refine does_val (v := .slice (some ⟨w.heap.size, 0, none⟩) vs.length vs.length) (w' := w.alloc (.cells vs.toArray e)) ?_ (h _ _ (S.row_lit e vs.length vs rfl (Nat.le_trans hm (by decide))))
  have := run_buildSlice1 (P := P) t e z vs ht hi hz hv hm w
  simp only [execOp, hp, Sem.run_bind, this, Result.andThen_ok, Sem.run_pure]
end

theorem infoZ8 : (Tryd.prog.info? 5).map (fun i => (i.zero, i.size)) = some (some (.int .u8 0), 1) := by kernel_rfl
set_option maxRecDepth 100000 in
theorem step_build8 {ops : Array Oper} {rest : List Oper} {a : Act} {w0 w : World} {l : List Res} {Q : Exit → Act → World → Prop} {dst : Option Tmp} {ty : TypeId} {pos : String} {after : Array Edge} {gd : Option (Nat × Bool)} (S : Has w0 w l) (n : Nat) (parts : Array (Nat × Operand)) (xs : List UInt8)
    (hp : (parts.map fun (i, x) => (i, a.eval x)) = (((xs.map by8).zipIdx 0).map fun x => (x.2, x.1)).toArray) (hn : xs.length = n) (hm : n ≤ 16777216)
    (hw : Region.wanted ⟨dst, .buildSlice 25 n parts, ty, pos, after, gd⟩ (yielded ops a.tmps) = true)
    (h : ∀ v w', Has w0 w' (row8 v xs :: l) → wpList Tryd.prog ops Q rest (a.put dst v) w') : wpList Tryd.prog ops Q (⟨dst, .buildSlice 25 n parts, ty, pos, after, gd⟩ :: rest) a w := by
  subst hn
  refine step_buildL S 25 5 xs.length parts (xs.map by8) (.int .u8 0) Tryd.underlying25 infoZ8 rfl hp (by simp) (fun v hv => ?_) hm hw h
  obtain ⟨y, _, rfl⟩ := List.mem_map.1 hv
  rfl
set_option maxRecDepth 100000 in
theorem does_build8 {a : Act} {w0 w : World} {l : List Res} {dst : Option Tmp} {ty : TypeId} {pos : String} {after : Array Edge} {gd : Option (Nat × Bool)} {Post : Value → World → Prop} (S : Has w0 w l) (n : Nat) (parts : Array (Nat × Operand)) (xs : List UInt8)
    (hp : (parts.map fun (i, x) => (i, a.eval x)) = (((xs.map by8).zipIdx 0).map fun x => (x.2, x.1)).toArray) (hn : xs.length = n) (hm : n ≤ 16777216)
    (h : ∀ v w', Has w0 w' (row8 v xs :: l) → Post v w') : does Tryd.prog a.eval ⟨dst, .buildSlice 25 n parts, ty, pos, after, gd⟩ w Post := by
  subst hn
  refine does_buildL S 25 5 xs.length parts (xs.map by8) (.int .u8 0) Tryd.underlying25 infoZ8 rfl hp (by simp) (fun v hv => ?_) hm h
  obtain ⟨y, _, rfl⟩ := List.mem_map.1 hv
  rfl
theorem infoB3 : (Tryd.prog.info? 5).map (fun i => (i.zero, i.size, i.bytes)) = some (some (.int .u8 0), 1, 1) := by kernel_rfl
/-- Zero bytes. (A name of its own: simp writes 'replicate' of a number out.) -/
def zs8 (n : Nat) : List UInt8 := List.replicate n 0
theorem zs8_length (n : Nat) : (zs8 n).length = n := List.length_replicate ..
set_option maxRecDepth 100000 in
/-- New zero bytes. -/
theorem step_make8 {ops : Array Oper} {rest : List Oper} {a : Act} {w0 w : World} {l : List Res} {Q : Exit → Act → World → Prop} {dst : Option Tmp} {ty : TypeId} {pos : String} {after : Array Edge} {gd : Option (Nat × Bool)} (S : Has w0 w l) (x y : Operand) (n : Nat) (i : Int) (hi : i = (n : Int))
    (hx : a.eval x = .int .i64 i) (hy : a.eval y = .int .i64 i) (hn : n ≤ 281474976710656)
    (hw : Region.wanted ⟨dst, .makeSlice 25 x y, ty, pos, after, gd⟩ (yielded ops a.tmps) = true)
    (h : ∀ v w', Has w0 w' (row8 v (zs8 n) :: l) → wpList Tryd.prog ops Q rest (a.put dst v) w') : wpList Tryd.prog ops Q (⟨dst, .makeSlice 25 x y, ty, pos, after, gd⟩ :: rest) a w := by
  subst hi
  obtain ⟨i, hi, hz, hsize, hby⟩ := info_parts infoB3
  have hr := run_make (P := Tryd.prog) w 25 5 i (.int .u8 0) Tryd.underlying25 hi hz .i64 .i64 (n : Int) (n : Int) (by omega) (Int.le_refl _) (by rw [hby]; omega) (by omega)
  have hm : n ≤ maxLen := Nat.le_trans hn (by decide)
  have hc : madeCells (Value.int .u8 0).cells ((n : Int).toNat * i.size) = ((List.replicate n (0 : UInt8)).map by8).toArray := by
    rw [hsize, Nat.mul_one, Int.toNat_natCast]
    apply Array.ext
    · simp [madeCells]
    · intro j h1 h2
      simp [madeCells, Value.cells, Nat.mod_one]
  rw [hc, Int.toNat_natCast] at hr
  have S' := S.row_lit 5 n ((List.replicate n (0 : UInt8)).map by8) (by simp) hm
  refine step_val (v := .slice (some ⟨w.heap.size, 0, none⟩) n n) (w' := w.alloc (.cells ((List.replicate n (0 : UInt8)).map by8).toArray 5)) hw ?_ (h _ _ ?_)
  · simp only [execOp, hx, hy, Sem.run_bind, hr, Result.andThen_ok, Sem.run_pure]
  · have e : row8 (.slice (some ⟨w.heap.size, 0, none⟩) n n) (zs8 n) = row (.slice (some ⟨w.heap.size, 0, none⟩) n n) 5 1 n ((List.replicate n (0 : UInt8)).map by8) := by
      show row _ _ _ (zs8 n).length _ = _
      rw [zs8_length]
      rfl
    rw [e]
    exact S'
end Go.Proofs.YtfhkmmagpnojmaaDoor

/- Slices of anything: where they lie, parts of them, elements that are structs; results of several values by number. No condition. -/
namespace Go.Proofs.YtfhkmmagpnojmaaDoor
open Go.RowKit

/-- Value i of a tuple. -/
def tupAt (v : Value) (i : Nat) : Value := match v with | .tuple vs => vs.getD i undef | _ => undef
theorem tupAt20 (x y : Value) : tupAt (.tuple #[x, y]) 0 = x := rfl
theorem tupAt21 (x y : Value) : tupAt (.tuple #[x, y]) 1 = y := rfl
theorem tupAt30 (x y z : Value) : tupAt (.tuple #[x, y, z]) 0 = x := rfl
theorem tupAt31 (x y z : Value) : tupAt (.tuple #[x, y, z]) 1 = y := rfl
theorem tupAt32 (x y z : Value) : tupAt (.tuple #[x, y, z]) 2 = z := rfl
/-- Where a slice that is not empty lies. -/
theorem Sl.at {w : World} {size n : Nat} {v : Value} {xs : List Value} (h : Sl w size v n xs) (hn : n ≠ 0) :
    ∃ b off c, v = .slice (some ⟨b, off, none⟩) n c ∧ n ≤ c ∧ ∀ i u, xs[i]? = some u → w.cell? ⟨b, off + i, none⟩ = some u := by
  rcases h.2 with ⟨_, _, h0⟩ | ⟨b, off, c, hv, h1, _, hc⟩
  · exact absurd h0 hn
  · refine ⟨b, off, c, hv, h1, fun i u hu => ?_⟩
    obtain ⟨hi, rfl⟩ := List.getElem?_eq_some_iff.1 hu
    exact hc i hi
theorem Sl.atA {w : World} {size n c : Nat} {a : Option Addr} {xs : List Value} (h : Sl w size (.slice a n c) n xs) (hn : n ≠ 0) :
    ∃ b off, a = some ⟨b, off, none⟩ ∧ ∀ i u, xs[i]? = some u → w.cell? ⟨b, off + i, none⟩ = some u := by
  obtain ⟨b, off, c', hv, _, hc⟩ := h.at hn
  simp only [Value.slice.injEq, true_and] at hv
  exact ⟨b, off, hv.1, hc⟩
/-- The address of a part of a slice. -/
def cutA (a : Option Addr) (c l s : Nat) : Option Addr := if c = l then a else a.map (fun x => x.add (l * s))
theorem Sl.cut {w : World} {size n c : Nat} {a : Option Addr} {xs : List Value} (h : Sl w size (.slice a n c) n xs) (l m : Nat) (hn : l + m ≤ n) :
    Sl w size (.slice (cutA a c l size) m (c - l)) m ((xs.drop (l * size)).take (m * size)) := by
  obtain ⟨a', h1, h2⟩ := Sl.part h l m hn
  unfold cutA
  rw [h1]
  exact h2
theorem Bs.cut {w : World} {n c : Nat} {a : Option Addr} {xs : List UInt8} (h : Bs w (.slice a n c) xs) (l m : Nat) (hn : l + m ≤ n) (hl : xs.length = n) :
    Bs w (.slice (cutA a c l 1) m (c - l)) ((xs.drop l).take m) := by
  have h2 := Sl.cut (size := 1) (show Sl w 1 (.slice a n c) n (xs.map by8) by unfold Bs at h; rwa [hl] at h) l m hn
  have e : ((xs.drop l).take m).length = m := by simp; omega
  unfold Bs
  rw [e, List.map_take, List.map_drop]
  simpa using h2
theorem Bs.cutH {w : World} {n c : Nat} {a : Option Addr} {xs : List UInt8} (h : Bs w (.slice a n c) xs) (m : Nat) (hn : m ≤ n) (hl : xs.length = n) : Bs w (.slice (cutA a c 0 1) m c) (xs.take m) := by
  have := h.cut 0 m (by omega) hl
  simpa using this
theorem Bs.cutL {w : World} {n c : Nat} {a : Option Addr} {xs : List UInt8} (h : Bs w (.slice a n c) xs) (l : Nat) (hn : l ≤ n) (hl : xs.length = n) : Bs w (.slice (cutA a c l 1) (n - l) (c - l)) (xs.drop l) := by
  have := h.cut l (n - l) (by omega) hl
  rwa [List.take_of_length_le (by simp; omega)] at this
section
variable {P : Program} {ops : Array Oper} {rest : List Oper} {a : Act} {w0 w : World} {l F : List Res} {Q : Exit → Act → World → Prop} {dst : Option Tmp} {ty : TypeId} {pos : String} {after : Array Edge} {gd : Option (Nat × Bool)} {Post : Value → World → Prop} {g0 : Nat} {old : Array Value} {t' : TypeId}

theorem run_cutL (t e s : Nat) (ht : P.underlying t = some (.slice e)) (hs : (P.info? e).map (·.size) = some s) (a0 : Option Addr) (n c : Nat) (k : IntKind) (i : Int) (lo : Nat) (hi : i = (lo : Int)) (hl : lo ≤ n) (w : World) :
    (Instr.sliceAt t (.slice a0 n c) (some (.int k i)) none none).run P w = .ok (.slice (cutA a0 c lo s) (n - lo) (c - lo)) w := by
  subst hi
  have he : P.elem t = e := by simp [Program.elem, ht]
  have ht' : P.underlying t = some (.slice (P.elem t)) := by rw [he]; exact ht
  cases hq : P.info? e with
  | none => simp [hq] at hs
  | some i =>
    have h1 : i.size = s := by simpa [hq] using hs
    rw [run_sliceAt_slice (w := w) t _ _ _ _ ht', run_slice_l (w := w) t a0 n c ht' k lo (by omega) (by omega)]
    simp [sizeOf, typeInfo, he, hq, h1, sliced, cutA]
theorem run_cutH (t e s : Nat) (ht : P.underlying t = some (.slice e)) (hs : (P.info? e).map (·.size) = some s) (a0 : Option Addr) (n c : Nat) (k : IntKind) (i : Int) (hi' : Nat) (hi : i = (hi' : Int)) (hl : hi' ≤ c) (w : World) :
    (Instr.sliceAt t (.slice a0 n c) none (some (.int k i)) none).run P w = .ok (.slice (cutA a0 c 0 s) hi' c) w := by
  subst hi
  have he : P.elem t = e := by simp [Program.elem, ht]
  have ht' : P.underlying t = some (.slice (P.elem t)) := by rw [he]; exact ht
  cases hq : P.info? e with
  | none => simp [hq] at hs
  | some i =>
    have h1 : i.size = s := by simpa [hq] using hs
    rw [run_sliceAt_slice (w := w) t _ _ _ _ ht', run_slice_h (w := w) t a0 n c ht' k hi' (by omega) (by omega)]
    simp [sizeOf, typeInfo, he, hq, h1, sliced, cutA]
/-- 's[l:]' -/
theorem step_cutL (t e s : Nat) (x y : Operand) (a0 : Option Addr) (n c : Nat) (k : IntKind) (i : Int) (lo : Nat) (hx : a.eval x = .slice a0 n c) (hy : a.eval y = .int k i) (hi : i = (lo : Int)) (hl : lo ≤ n) (ht : P.underlying t = some (.slice e)) (hs : (P.info? e).map (·.size) = some s)
    (hw : Region.wanted ⟨dst, .slice t x (some y) none none, ty, pos, after, gd⟩ (yielded ops a.tmps) = true)
    (h : wpList P ops Q rest (a.put dst (.slice (cutA a0 c lo s) (n - lo) (c - lo))) w) : wpList P ops Q (⟨dst, .slice t x (some y) none none, ty, pos, after, gd⟩ :: rest) a w := by
  refine step_val (v := .slice (cutA a0 c lo s) (n - lo) (c - lo)) hw ?_ h
  have := run_cutL (P := P) t e s ht hs a0 n c k i lo hi hl w
  simp only [execOp, hx, hy, Option.map_some, Option.map_none, Sem.run_bind, this, Result.andThen_ok, Sem.run_pure]
theorem does_cutL (t e s : Nat) (x y : Operand) (a0 : Option Addr) (n c : Nat) (k : IntKind) (i : Int) (lo : Nat) (hx : a.eval x = .slice a0 n c) (hy : a.eval y = .int k i) (hi : i = (lo : Int)) (hl : lo ≤ n) (ht : P.underlying t = some (.slice e)) (hs : (P.info? e).map (·.size) = some s)
    (h : Post (.slice (cutA a0 c lo s) (n - lo) (c - lo)) w) : does P a.eval ⟨dst, .slice t x (some y) none none, ty, pos, after, gd⟩ w Post := by
  refine does_val (v := .slice (cutA a0 c lo s) (n - lo) (c - lo)) ?_ h
  have := run_cutL (P := P) t e s ht hs a0 n c k i lo hi hl w
  simp only [execOp, hx, hy, Option.map_some, Option.map_none, Sem.run_bind, this, Result.andThen_ok, Sem.run_pure]
/-- 's[:h]' -/
theorem step_cutH (t e s : Nat) (x y : Operand) (a0 : Option Addr) (n c : Nat) (k : IntKind) (i : Int) (hi' : Nat) (hx : a.eval x = .slice a0 n c) (hy : a.eval y = .int k i) (hi : i = (hi' : Int)) (hl : hi' ≤ c) (ht : P.underlying t = some (.slice e)) (hs : (P.info? e).map (·.size) = some s)
    (hw : Region.wanted ⟨dst, .slice t x none (some y) none, ty, pos, after, gd⟩ (yielded ops a.tmps) = true)
    (h : wpList P ops Q rest (a.put dst (.slice (cutA a0 c 0 s) hi' c)) w) : wpList P ops Q (⟨dst, .slice t x none (some y) none, ty, pos, after, gd⟩ :: rest) a w := by
  refine step_val (v := .slice (cutA a0 c 0 s) hi' c) hw ?_ h
  have := run_cutH (P := P) t e s ht hs a0 n c k i hi' hi hl w
  simp only [execOp, hx, hy, Option.map_some, Option.map_none, Sem.run_bind, this, Result.andThen_ok, Sem.run_pure]
/-- The cells of one element of a slice of structs. -/
theorem Sl.elem {α : Type} {w : World} {size n b off c : Nat} {xs : List α} {f : α → List Value} (h : Sl w size (.slice (some ⟨b, off, none⟩) n c) n (xs.flatMap f)) (hf : ∀ x, (f x).length = size) (hs : 0 < size) (i : Nat) (x : α) (hx : xs[i]? = some x) :
    w.rangeAt b (off + i * size) (f x) := by
  intro j v hv
  obtain ⟨hi, rfl⟩ := List.getElem?_eq_some_iff.1 hx
  obtain ⟨hj, _⟩ := List.getElem?_eq_some_iff.1 hv
  rw [hf] at hj
  have hlen : (xs.flatMap f).length = xs.length * size := by
    rw [List.length_flatMap]
    have : (xs.map fun y => (f y).length) = List.replicate xs.length size := by
      apply List.ext_getElem <;> simp [hf]
    rw [this, List.sum_replicate_nat]
  have hn : n ≠ 0 := by
    have := h.1
    rw [hlen] at this
    have h0 : 0 < xs.length * size := Nat.mul_pos (by omega) hs
    intro e
    rw [e] at this
    omega
  obtain ⟨b', off', c', he, _, hc⟩ := h.at hn
  simp only [Value.slice.injEq, Option.some.injEq, Addr.mk.injEq, and_true, true_and] at he
  obtain ⟨⟨rfl, rfl⟩, rfl⟩ := he
  rw [Nat.add_assoc]
  refine hc (i * size + j) v ?_
  rw [← hv]
  exact flat_get f size hf xs i j hi hj
theorem run_loadAt_range (w : World) (b off : Nat) (t : TypeId) (cs : List Value) (hr : w.rangeAt b off cs) (d : TypeDesc) (hu : P.underlying t = some d) (hd : (match d with | .struct _ | .array _ _ => true | _ => false) = true) (n : Nat) (hi : (P.info? t).map (·.size) = some n) (hn : cs.length = n) :
    (Instr.loadAt t (.pointer (some ⟨b, off, none⟩))).run P w = .ok (.agg cs.toArray) w := by
  subst hn
  exact run_loadAt_mid (P := P) w b off t cs d hr hu (by cases d <;> simp_all [TypeDesc.isRow]) hi
/-- An array or struct is loaded from anywhere. -/
theorem step_loadR (t : TypeId) (x : Operand) (b off : Nat) (hx : a.eval x = .pointer (some ⟨b, off, none⟩)) (cs : List Value) (hr : w.rangeAt b off cs) (d : TypeDesc) (hu : P.underlying t = some d) (hd : (match d with | .struct _ | .array _ _ => true | _ => false) = true) (n : Nat) (hi : (P.info? t).map (·.size) = some n) (hn : cs.length = n) (arr : Array Value) (ha : cs.toArray = arr)
    (hw : Region.wanted ⟨dst, .load t x, ty, pos, after, gd⟩ (yielded ops a.tmps) = true)
    (h : wpList P ops Q rest (a.put dst (.agg arr)) w) : wpList P ops Q (⟨dst, .load t x, ty, pos, after, gd⟩ :: rest) a w := by
  subst ha
  refine step_val (v := .agg cs.toArray) hw ?_ h
  have := run_loadAt_range (P := P) w b off t cs hr d hu hd n hi hn
  simp only [execOp, hx, Sem.run_bind, this, Result.andThen_ok, Sem.run_pure]
theorem does_loadR (t : TypeId) (x : Operand) (b off : Nat) (hx : a.eval x = .pointer (some ⟨b, off, none⟩)) (cs : List Value) (hr : w.rangeAt b off cs) (d : TypeDesc) (hu : P.underlying t = some d) (hd : (match d with | .struct _ | .array _ _ => true | _ => false) = true) (n : Nat) (hi : (P.info? t).map (·.size) = some n) (hn : cs.length = n) (arr : Array Value) (ha : cs.toArray = arr)
    (h : Post (.agg arr) w) : does P a.eval ⟨dst, .load t x, ty, pos, after, gd⟩ w Post := by
  subst ha
  refine does_val (v := .agg cs.toArray) ?_ h
  have := run_loadAt_range (P := P) w b off t cs hr d hu hd n hi hn
  simp only [execOp, hx, Sem.run_bind, this, Result.andThen_ok, Sem.run_pure]
theorem does_store (S : Has w0 w (blk g0 (.cells old t' (0, 0)) :: F)) (t : TypeId) (x y : Operand) (cells : Array Value) (hx : a.eval x = .pointer (some ⟨g0, 0, none⟩)) (hy : a.eval y = .agg cells)
    (n : Nat) (hi : (P.info? t).map (·.size) = some n) (hn : cells.size = n) (ho : old.size = n) (h1 : cells.all (·.oneCell') = true)
    (h : ∀ w', Has w0 w' (blk g0 (.cells cells t' (0, 0)) :: F) → Post undef w') : does P a.eval ⟨dst, .store t x y, ty, pos, after, gd⟩ w Post := by
  refine does_unit (w' := w.setRow g0 cells) ?_ (h _ S.setRow)
  have := run_storeAt_row (P := P) w g0 t t' old cells (S.holds (blk g0 (.cells old t' (0, 0))) (by simp)) n hi hn ho h1
  simp only [execOp, hx, hy, Sem.run_bind, this, Result.andThen_ok, Sem.run_pure]
theorem Has.old_range {b off : Nat} {cs : List Value} (S : Has w0 w l) (h : w0.rangeAt b off cs) : w.rangeAt b off cs := fun j v hj => S.old_cell (h j v hj)
end
end Go.Proofs.YtfhkmmagpnojmaaDoor

/- Rows of structs that a call owns: their cells, stores into them, new slices of structs. No condition. -/
namespace Go.Proofs.YtfhkmmagpnojmaaDoor
open Go.RowKit

section
variable {P : Program} {ops : Array Oper} {rest : List Oper} {a : Act} {w0 w : World} {l F : List Res} {Q : Exit → Act → World → Prop} {dst : Option Tmp} {ty : TypeId} {pos : String} {after : Array Edge} {gd : Option (Nat × Bool)} {Post : Value → World → Prop}

theorem flat_len {α : Type} (f : α → List Value) (s : Nat) (hf : ∀ x, (f x).length = s) (xs : List α) : (xs.flatMap f).length = xs.length * s := by
  rw [List.length_flatMap]
  have : (xs.map fun y => (f y).length) = List.replicate xs.length s := by
    apply List.ext_getElem <;> simp [hf]
  rw [this, List.sum_replicate_nat]
theorem run_buildSliceN (t e : TypeId) (z : Value) (s : Nat) (vs : List Value) (ht : P.underlying t = some (.slice e)) (hi : (P.info? e).map (fun i => (i.zero, i.size)) = some (some z, s)) (hs : 0 < s) (hv : ∀ v ∈ vs, v.cells.size = s) (hn : vs.length * s ≤ 16777216) (h0 : vs ≠ []) (w : World) :
    (Instr.buildSlice t vs.length ((vs.zipIdx 0).map fun x => (x.2, x.1)).toArray).run P w = .ok (.slice (some ⟨w.heap.size, 0, none⟩) vs.length vs.length) (w.alloc (.cells (vs.flatMap fun v => v.cells.toList).toArray e)) := by
  cases hq : P.info? e with
  | none => simp [hq] at hi
  | some i =>
    have h1 : i.zero = some z ∧ i.size = s := by simpa [hq] using hi
    have hl0 : vs.length ≠ 0 := by simpa using h0
    have hls : ¬ vs.length * s = 0 := Nat.mul_ne_zero hl0 (by omega)
    have hsz : ((Array.range (vs.length * s)).map (z.cells[· % z.cells.size]!)).size = vs.length * s := by simp
    obtain ⟨r, hr, hrs, hrk⟩ := Go.Great.fill_dense hs vs 0 ((Array.range (vs.length * s)).map (z.cells[· % z.cells.size]!)) hv (by rw [hsz, Nat.zero_add]; exact Nat.le_refl _)
    have hre : r = (vs.flatMap fun v => v.cells.toList).toArray := by
      have hfl : (vs.flatMap fun v => v.cells.toList).length = vs.length * s := by
        rw [List.length_flatMap]
        have : (vs.map fun v => v.cells.toList.length) = List.replicate vs.length s := by
          apply List.ext_getElem
          · simp
          · intro k h2 h3
            simp only [List.getElem_map, Array.length_toList, List.getElem_replicate]
            exact hv _ (List.getElem_mem _)
        rw [this, List.sum_replicate_nat]
      apply Array.ext_getElem?
      intro k
      rw [hrk k]
      simp only [Nat.zero_mul, Nat.zero_add, Nat.zero_le, true_and, Nat.sub_zero]
      by_cases hk : k < vs.length * s
      · rw [if_pos hk]
        have hq2 : k / s < vs.length := (Nat.div_lt_iff_lt_mul hs).2 hk
        have he : k / s * s + k % s = k := by rw [Nat.mul_comm]; exact Nat.div_add_mod k s
        rw [List.getElem?_eq_getElem hq2, Option.bind_some, List.getElem?_toArray]
        clear hrk hr hrs hsz hfl
        have key : ∀ (us : List Value) (q : Nat) (hq : q < us.length), (∀ v ∈ us, v.cells.size = s) → (us[q].cells.toList[k % s]?) = (us.flatMap fun v => v.cells.toList)[q * s + k % s]? := by
          intro us
          induction us with
          | nil => intro q hq; simp at hq
          | cons u us ih =>
            intro q hq hus
            rw [List.flatMap_cons]
            have hu : u.cells.toList.length = s := by rw [Array.length_toList]; exact hus u (by simp)
            cases q with
            | zero => rw [Nat.zero_mul, Nat.zero_add, List.getElem?_append_left (by rw [hu]; exact Nat.mod_lt _ hs)]; rfl
            | succ q =>
              rw [List.getElem?_append_right (by rw [hu, Nat.add_mul]; omega), hu, show (q + 1) * s + k % s - s = q * s + k % s by rw [Nat.add_mul]; omega]
              exact ih q (by simpa using hq) (fun v hv => hus v (by simp [hv]))
        rw [key vs (k / s) hq2 hv, he]; simp
      · rw [if_neg hk, Array.getElem?_eq_none (by rw [hsz]; omega), Array.getElem?_eq_none (by rw [List.size_toArray, hfl]; omega)]
    subst hre
    have hrun : (Instr.buildSlice t vs.length ((vs.zipIdx 0).map fun x => (x.2, x.1)).toArray).run P w = ((newRow e (vs.flatMap fun v => v.cells.toList).toArray).run P w).andThen fun ad w' => .ok (.slice (some ad) vs.length vs.length) w' := by
      have h24 : ¬ vs.length * s > 16777216 := by omega
      simp only [Instr.buildSlice, Sem.run_bind, run_underlying ht, Result.andThen_ok, sizeOf, typeInfo, run_program, hq, h1.1, h1.2, zeroValue]
      simp [hls, h24, hq, h1.1, h1.2]
      rw [hr]
      simp
    rw [hrun]
    simp [newRow, newObj]
    rfl
/-- A new slice of one struct. -/
theorem step_buildS1 (S : Has w0 w l) (t e s : Nat) (x : Operand) (cs : List Value) (z : Value) (ht : P.underlying t = some (.slice e)) (hi : (P.info? e).map (fun i => (i.zero, i.size)) = some (some z, s)) (hs : 0 < s) (hs2 : s ≤ 16777216) (hx : a.eval x = .agg cs.toArray) (hc : cs.length = s)
    (hw : Region.wanted ⟨dst, .buildSlice t 1 #[(0, x)], ty, pos, after, gd⟩ (yielded ops a.tmps) = true)
    (h : ∀ v w', Has w0 w' (row v e s 1 cs :: l) → wpList P ops Q rest (a.put dst v) w') : wpList P ops Q (⟨dst, .buildSlice t 1 #[(0, x)], ty, pos, after, gd⟩ :: rest) a w := by
  have hr := run_buildSliceN (P := P) t e z s [.agg cs.toArray] ht hi hs (by simpa [Value.cells] using hc) (by simpa using hs2) (by simp) w
  have ho := World.ownsRow_lit (base := w.heap.size) (e := e) (size := s) w cs.toArray 1 (Nat.le_refl _) (by decide) (by simp [hc])
  have hfl : ([Value.agg cs.toArray].flatMap fun v => v.cells.toList) = cs := by simp [Value.cells]
  rw [hfl] at hr
  refine step_val (v := .slice (some ⟨w.heap.size, 0, none⟩) 1 1) (w' := w.alloc (.cells cs.toArray e)) hw ?_ (h _ _ (S.call (Has.of_own (below1 w _) (by simpa using ho))))
  have hp : (#[(0, x)].map fun (i, x) => (i, a.eval x)) = (([Value.agg cs.toArray].zipIdx 0).map fun x => (x.2, x.1)).toArray := by simp [hx]
  simp only [execOp, hp, Sem.run_bind]
  have hr' : (Instr.buildSlice t 1 (([Value.agg cs.toArray].zipIdx 0).map fun x => (x.2, x.1)).toArray).run P w = .ok (.slice (some ⟨w.heap.size, 0, none⟩) 1 1) (w.alloc (.cells cs.toArray e)) := hr
  simp only [hr', Result.andThen_ok, Sem.run_pure]
theorem does_buildS1 (S : Has w0 w l) (t e s : Nat) (x : Operand) (cs : List Value) (z : Value) (ht : P.underlying t = some (.slice e)) (hi : (P.info? e).map (fun i => (i.zero, i.size)) = some (some z, s)) (hs : 0 < s) (hs2 : s ≤ 16777216) (hx : a.eval x = .agg cs.toArray) (hc : cs.length = s)
    (h : ∀ v w', Has w0 w' (row v e s 1 cs :: l) → Post v w') : does P a.eval ⟨dst, .buildSlice t 1 #[(0, x)], ty, pos, after, gd⟩ w Post := by
  have hr := run_buildSliceN (P := P) t e z s [.agg cs.toArray] ht hi hs (by simpa [Value.cells] using hc) (by simpa using hs2) (by simp) w
  have ho := World.ownsRow_lit (base := w.heap.size) (e := e) (size := s) w cs.toArray 1 (Nat.le_refl _) (by decide) (by simp [hc])
  have hfl : ([Value.agg cs.toArray].flatMap fun v => v.cells.toList) = cs := by simp [Value.cells]
  rw [hfl] at hr
  refine does_val (v := .slice (some ⟨w.heap.size, 0, none⟩) 1 1) (w' := w.alloc (.cells cs.toArray e)) ?_ (h _ _ (S.call (Has.of_own (below1 w _) (by simpa using ho))))
  have hp : (#[(0, x)].map fun (i, x) => (i, a.eval x)) = (([Value.agg cs.toArray].zipIdx 0).map fun x => (x.2, x.1)).toArray := by simp [hx]
  simp only [execOp, hp, Sem.run_bind]
  have hr' : (Instr.buildSlice t 1 (([Value.agg cs.toArray].zipIdx 0).map fun x => (x.2, x.1)).toArray).run P w = .ok (.slice (some ⟨w.heap.size, 0, none⟩) 1 1) (w.alloc (.cells cs.toArray e)) := hr
  simp only [hr', Result.andThen_ok, Sem.run_pure]
end
end Go.Proofs.YtfhkmmagpnojmaaDoor

/- Equality of structs, field by field. No condition. -/
namespace Go.Proofs.YtfhkmmagpnojmaaDoor
open Go.RowKit

section
variable {P : Program}

theorem run_part1 (w : World) (t : TypeId) (cs : Array Value) (off : Nat) (v : Value) (d : TypeDesc) (hu : P.underlying t = some d) (hd : (match d with | .struct _ | .array _ _ => false | _ => true) = true) (hv : cs[off]? = some v) : (part t cs off).run P w = .ok v w := by
  have hagg : (isAgg t).run P w = .ok false w := by
    unfold isAgg
    rw [Sem.run_bind, run_underlying hu w]
    cases d <;> simp_all
  simp [part, hagg, hv]
theorem run_partA (w : World) (t : TypeId) (cs : Array Value) (off n : Nat) (sub : Array Value) (d : TypeDesc) (hu : P.underlying t = some d) (hd : (match d with | .struct _ | .array _ _ => true | _ => false) = true) (hs : (P.info? t).map (·.size) = some n) (hc : cs.extract off (off + n) = sub) : (part t cs off).run P w = .ok (.agg sub) w := by
  have hagg : (isAgg t).run P w = .ok true w := by
    unfold isAgg
    rw [Sem.run_bind, run_underlying hu w]
    cases d <;> simp_all
  cases hq : P.info? t with
  | none => simp [hq] at hs
  | some i =>
    have h1 : i.size = n := by simpa [hq] using hs
    simp [part, hagg, sizeOf, typeInfo, hq, h1, hc]
theorem eqFields_step (w : World) (d : Nat) (xs ys : Array Value) (f : Field) (fs : List Field) (hn : (f.name == "_") = false) (a b : Value) (ha : (part f.type xs f.offset).run P w = .ok a w) (hb : (part f.type ys f.offset).run P w = .ok b w)
    (r q : Bool) (hr : (Op.equalIn d f.type a b).run P w = .ok r w) (hq : (Op.eqFields d xs ys fs).run P w = .ok q w) : (Op.eqFields d xs ys (f :: fs)).run P w = .ok (r && q) w := by
  have hn' : f.name ≠ "_" := by simpa using hn
  simp only [Op.eqFields, if_pos hn', Sem.run_bind, ha, hb, hr, Result.andThen_ok]
  cases r
  · simp
  · simp [hq]
theorem eqFields_nil (w : World) (d : Nat) (xs ys : Array Value) : (Op.eqFields d xs ys []).run P w = .ok true w := by simp [Op.eqFields]
end

theorem beqU8 (a b : UInt8) : ((a.toNat : Int) == (b.toNat : Int)) = decide (a = b) := by
  rw [Bool.eq_iff_iff]
  simp only [decide_eq_true_eq, beq_iff_eq, ← UInt8.toNat_inj]
  omega
theorem beqU32 (a b : UInt32) : ((a.toNat : Int) == (b.toNat : Int)) = decide (a = b) := by
  rw [Bool.eq_iff_iff]
  simp only [decide_eq_true_eq, beq_iff_eq, ← UInt32.toNat_inj]
  omega
theorem beqU64 (a b : UInt64) : ((a.toNat : Int) == (b.toNat : Int)) = decide (a = b) := by
  rw [Bool.eq_iff_iff]
  simp only [decide_eq_true_eq, beq_iff_eq, ← UInt64.toNat_inj]
  omega
end Go.Proofs.YtfhkmmagpnojmaaDoor
