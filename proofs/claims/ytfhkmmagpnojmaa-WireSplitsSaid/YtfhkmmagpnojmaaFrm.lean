/- Slices of byte slices: as they read, and with arrays of one's own (the row of the slices and, behind it, the row of each); one more of them. No condition. -/
import Derived.Test.YtfhkmmagpnojmaaBe
import Derived.Test.YtfhkmmagpnojmaaBd
set_option linter.unusedSimpArgs false
set_option linter.unusedVariables false
namespace Go.Proofs.Ytfhkmmagpnojmaa
open Go.RowKit

/-- v reads as these slices, each of which reads as its bytes. -/
def Fr (w : World) (v : Value) (ps : List (Value × List UInt8)) : Prop := Sl w 1 v ps.length (ps.map (·.1)) ∧ ∀ p ∈ ps, Bs w p.1 p.2

/-- The slices' own arrays. -/
def frs (ps : List (Value × List UInt8)) : List Res := ps.map fun p => row8 p.1 p.2
/-- The row of the slices. -/
abbrev rowF (v : Value) (ps : List (Value × List UInt8)) : Res := row v 22 1 ps.length (ps.map (·.1))

theorem Has.fr {w0 w : World} {l F : List Res} {v : Value} {ps : List (Value × List UInt8)} (S : Has w0 w l) (h : Pick l (rowF v ps) F) (hm : ∀ p ∈ ps, row8 p.1 p.2 ∈ l) : Fr w v ps :=
  ⟨S.sl h, fun p hp => Sl.of_own (S.holds _ (hm p hp))⟩

theorem frs_mem {ps : List (Value × List UInt8)} {p : Value × List UInt8} (h : p ∈ ps) : row8 p.1 p.2 ∈ frs ps := List.mem_map.2 ⟨p, h, rfl⟩

theorem Fr.later {w w' : World} {v : Value} {ps : List (Value × List UInt8)} (h : Fr w v ps) (hb : Below w.heap.size w w') : Fr w' v ps := ⟨h.1.below hb, fun p hp => (h.2 p hp).below hb⟩
theorem Has.oldF {w0 w : World} {l : List Res} {v : Value} {ps : List (Value × List UInt8)} (S : Has w0 w l) (h : Fr w0 v ps) : Fr w v ps := h.later S.below

set_option maxRecDepth 100000 in
theorem infoF : (Try.prog.info? 22).map (fun i => (i.zero, i.size, i.bytes)) = some (some (.slice none 0 0), 1, 24) := by kernel_rfl
set_option maxRecDepth 100000 in
theorem infoF2 : (Try.prog.info? 22).map (fun i => (i.zero, i.size)) = some (some (.slice none 0 0), 1) := by kernel_rfl

theorem one_sl {w : World} {size n : Nat} {v : Value} {xs : List Value} (h : Sl w size v n xs) : v.oneCell' = true ∧ v.cells = #[v] := by
  obtain ⟨a, c, rfl, _⟩ := Sl.shape h
  exact ⟨rfl, rfl⟩

theorem one1 {v : Value} (h : v.oneCell' = true) : ∀ u ∈ [v], u.oneCell' = true := fun u hu => by rw [List.mem_singleton.1 hu]; exact h

theorem clone8_s (v : Value) (xs : List UInt8) (w : World) (hv : Bs w v xs) (hl : xs.length ≤ 140737488355328) : Calls Try.prog 24 #[v] w (MadeB w xs) :=
  (clone_any v xs w hv hl).mono fun _ _ h => Fresh.made h

set_option maxRecDepth 100000 in
/-- A new slice of one byte slice. -/
theorem step_buildF1 {ops : Array Oper} {rest : List Oper} {a : Act} {w0 w : World} {l : List Res} {Q : Exit → Act → World → Prop} {dst : Option Tmp} {ty : TypeId} {pos : String} {after : Array Edge} {gd : Option (Nat × Bool)} (S : Has w0 w l) (x : Operand) (v : Value)
    (hx : a.eval x = v) (hc : v.cells = #[v])
    (hw : Region.wanted ⟨dst, .buildSlice 23 1 #[(0, x)], ty, pos, after, gd⟩ (yielded ops a.tmps) = true)
    (h : ∀ v' w', Has w0 w' (row v' 22 1 1 [v] :: l) → wpList Try.prog ops Q rest (a.put dst v') w') : wpList Try.prog ops Q (⟨dst, .buildSlice 23 1 #[(0, x)], ty, pos, after, gd⟩ :: rest) a w :=
  step_buildL S 23 22 1 #[(0, x)] [v] (.slice none 0 0) Try.underlying23 infoF2 rfl (by simp [hx]) rfl (fun u hu => by simp only [List.mem_singleton] at hu; subst hu; exact hc) (by decide) hw h

set_option maxRecDepth 100000 in
theorem step_appendF {ops : Array Oper} {rest : List Oper} {a : Act} {w0 w : World} {l F : List Res} {Q : Exit → Act → World → Prop} {dst : Option Tmp} {ty : TypeId} {pos : String} {after : Array Edge} {gd : Option (Nat × Bool)} (S : Has w0 w l) (s x : Operand) (v : Value) (ps : List (Value × List UInt8))
    (hs : a.eval s = v) (hp : Pick l (rowF v ps) F) (src : Value) (qs : List Value) (hx : a.eval x = src) (hsrc : Sl w 1 src qs.length qs) (h1 : ∀ u ∈ qs, u.oneCell' = true) (hlen : (ps.length + qs.length) * 24 ≤ 140737488355328)
    (hw : Region.wanted ⟨dst, .call { callee := .builtin .append, args := #[s, x], argTypes := #[23, 23] }, ty, pos, after, gd⟩ (yielded ops a.tmps) = true)
    (h : ∀ v' w', Has w0 w' (row v' 22 1 (ps.length + qs.length) (ps.map (·.1) ++ qs) :: F) → wpList Try.prog ops Q rest (a.put dst v') w') :
    wpList Try.prog ops Q (⟨dst, .call { callee := .builtin .append, args := #[s, x], argTypes := #[23, 23] }, ty, pos, after, gd⟩ :: rest) a w :=
  step_append S s x 23 22 (.slice none 0 0) 1 24 Try.underlying23 infoF rfl (by decide) v ps.length (ps.map (·.1)) hs hp src qs.length qs hx hsrc h1 (by unfold maxLen; omega) hlen hw h

/-- One piece more. -/
theorem Has.moreF {w0 w : World} {F : List Res} {v u : Value} {xs : List UInt8} {r : Res} {ps : List (Value × List UInt8)} (S : Has w0 w (row v 22 1 (ps.length + 1) (ps.map (·.1) ++ [u]) :: r :: row8 u xs :: (frs ps ++ F))) : Has w0 w (rowF v (ps ++ [(u, xs)]) :: (frs (ps ++ [(u, xs)]) ++ F)) := by
  have e1 : frs (ps ++ [(u, xs)]) = frs ps ++ [row8 u xs] := by simp [frs]
  have e2 : rowF v (ps ++ [(u, xs)]) = row v 22 1 (ps.length + 1) (ps.map (·.1) ++ [u]) := by simp [rowF]
  rw [e1, e2]
  have S2 := S.drop (Pick.tail (Pick.head _ _))
  refine S2.perm (List.Perm.cons _ ?_)
  rw [List.append_assoc]
  exact (List.perm_middle (a := row8 u xs) (l₁ := frs ps) (l₂ := F)).symm

theorem Has.nilF {w0 w : World} {l : List Res} (S : Has w0 w l) : Has w0 w (rowF (.slice none 0 0) [] :: (frs [] ++ l)) := S.nil_row 22 1

/-- One piece is written. -/
theorem frs_pick (ps : List (Value × List UInt8)) (F : List Res) (k : Nat) (p : Value × List UInt8) (hk : ps[k]? = some p) : ∃ G, Pick (frs ps ++ F) (row8 p.1 p.2) G ∧ ∀ xs, List.Perm (row8 p.1 xs :: G) (frs (ps.set k (p.1, xs)) ++ F) := by
  induction ps generalizing k with
  | nil => simp at hk
  | cons q ps ih =>
    cases k with
    | zero =>
      obtain rfl : q = p := by simpa using hk
      exact ⟨frs ps ++ F, Pick.head _ _, fun xs => List.Perm.refl _⟩
    | succ k =>
      obtain ⟨G, h1, h2⟩ := ih k (by simpa using hk)
      exact ⟨row8 q.1 q.2 :: G, Pick.tail h1, fun xs => (List.Perm.swap _ _ _).trans (List.Perm.cons _ (h2 xs))⟩
end Go.Proofs.Ytfhkmmagpnojmaa
