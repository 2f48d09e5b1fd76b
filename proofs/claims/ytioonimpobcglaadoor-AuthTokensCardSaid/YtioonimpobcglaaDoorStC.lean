/- What functions of layer 1 return, told in terms of things made. Conditions: those of the elder contracts. -/
import Derived.Test.YtioonimpobcglaaDoorRely
import Derived.Test.YtioonimpobcglaaDoorSumP
import Derived.Test.YtioonimpobcglaaDoorMasked
set_option linter.unusedSimpArgs false
set_option linter.unusedVariables false
namespace Go.Proofs.YtioonimpobcglaaDoor
open Go.RowKit

theorem Has.kt {w0 w : World} {l : List Res} (S : Has w0 w l) (h : KT w0) : KT w := h.later S.below (Nat.le_refl _)

theorem Has.of_row8 {w w' : World} {v : Value} {xs : List UInt8} (hb : Below w.heap.size w w') (h : w'.ownsRow w.heap.size 5 1 v xs.length (xs.map by8)) : Has w w' [row8 v xs] := Has.of_own hb h

/-- New bytes. -/
def MadeB (w : World) (xs : List UInt8) (e : Ending) (w' : World) : Prop := ∃ v, e = .returned v ∧ Has w w' [row8 v xs]

theorem Fresh.made {w w' : World} {xs : List UInt8} {e : Ending} (h : Fresh w xs e w') : MadeB w xs e w' := by
  obtain ⟨v, he, ho, hb⟩ := h
  exact ⟨v, he, Has.of_row8 hb ho⟩

theorem sum_s (v : Value) (xs : List UInt8) (w : World) (hv : Bs w v xs) (hK : KT w) :
    Calls Tryd.prog 64 #[v] w fun e w' => e = .returned (.tuple #[.agg (arr8 (smD xs)), .int .i64 (smE xs.length)]) ∧ Has w w' [] :=
  (sum_any v xs w hv hK).mono fun _ _ h => ⟨h.1, Has.of_below h.2⟩

theorem refSum_s (v : Value) (xs : List UInt8) (w : World) (hv : Bs w v xs) (hl : xs.length ≤ 1000000) :
    Calls Tryd.prog 78 #[v] w fun e w' => e = .returned (.agg (arr8 (sumD xs))) ∧ Has w w' [] :=
  (refSum_any v xs w hv hl).mono fun _ _ h => ⟨h.1, Has.of_below h.2⟩

theorem masked_s (v : Value) (key : List UInt8) (c : UInt8) (n : Int) (hn : n = (c.toNat : Int)) (w : World) (hv : Bs w v key) (hl : key.length ≤ 64) :
    Calls Tryd.prog 65 #[v, .int .u8 n] w (MadeB w (maskB key c)) := by
  subst hn
  exact (masked_any v key c w hv hl).mono fun _ _ h => Fresh.made h

theorem refMixed_s (v : Value) (key : List UInt8) (c : UInt8) (n : Int) (hn : n = (c.toNat : Int)) (w : World) (hv : Bs w v key) (hl : key.length ≤ 64) :
    Calls Tryd.prog 79 #[v, .int .u8 n] w (MadeB w (maskB key c)) := by
  subst hn
  exact (refMixed_any v key c w hv hl).mono fun _ _ h => Fresh.made h

theorem smD_eq (xs : List UInt8) (h : xs.length ≤ 8192) : smD xs = sumD xs := if_pos h
theorem sumD_length (xs : List UInt8) : (sumD xs).length = 32 := outS_length _

/-- append of bytes onto bytes of one's own. -/
theorem step_append8 {ops : Array Oper} {rest : List Oper} {a : Act} {w0 w : World} {l F : List Res} {Q : Exit → Act → World → Prop} {dst : Option Tmp} {ty : TypeId} {pos : String} {after : Array Edge} {gd : Option (Nat × Bool)} (S : Has w0 w l) (s x : Operand)
    (v : Value) (xs : List UInt8) (hs : a.eval s = v) (hp : Pick l (row8 v xs) F) (src : Value) (ys : List UInt8) (hx : a.eval x = src) (hsrc : Bs w src ys) (hlen : xs.length + ys.length ≤ 140737488355328)
    (hw : Region.wanted ⟨dst, .call { callee := .builtin .append, args := #[s, x], argTypes := #[22, 22] }, ty, pos, after, gd⟩ (yielded ops a.tmps) = true)
    (h : ∀ v' w', Has w0 w' (row8 v' (xs ++ ys) :: F) → wpList Tryd.prog ops Q rest (a.put dst v') w') :
    wpList Tryd.prog ops Q (⟨dst, .call { callee := .builtin .append, args := #[s, x], argTypes := #[22, 22] }, ty, pos, after, gd⟩ :: rest) a w := by
  refine step_append S s x 22 5 (.int .u8 0) 1 1 Tryd.underlying22 Tryd.infoB rfl (by decide) v xs.length (xs.map by8) hs hp src ys.length (ys.map by8) hx hsrc ?_ (by unfold maxLen; omega) (by omega) hw ?_
  · intro u hu
    simp only [List.mem_map] at hu
    obtain ⟨y, _, rfl⟩ := hu
    rfl
  · intro v' w' S'
    refine h v' w' ?_
    rw [← List.map_append, ← List.length_append] at S'
    exact S'

theorem does_append8 {a : Act} {w0 w : World} {F : List Res} {dst : Option Tmp} {ty : TypeId} {pos : String} {after : Array Edge} {guard : Option (Nat × Bool)} {Post : Value → World → Prop} (s x : Operand)
    (v : Value) (xs : List UInt8) (hs : a.eval s = v) (S : Has w0 w (row8 v xs :: F)) (src : Value) (ys : List UInt8) (hx : a.eval x = src) (hsrc : Bs w src ys) (hlen : xs.length + ys.length ≤ 140737488355328)
    (h : ∀ v' w', Has w0 w' (row8 v' (xs ++ ys) :: F) → Post v' w') :
    does Tryd.prog a.eval ⟨dst, .call { callee := .builtin .append, args := #[s, x], argTypes := #[22, 22] }, ty, pos, after, guard⟩ w Post := by
  refine does_append s x 22 5 (.int .u8 0) 1 1 Tryd.underlying22 Tryd.infoB rfl (by decide) v xs.length (xs.map by8) hs S src ys.length (ys.map by8) hx hsrc ?_ (by unfold maxLen; omega) (by omega) ?_
  · intro u hu
    simp only [List.mem_map] at hu
    obtain ⟨y, _, rfl⟩ := hu
    rfl
  · intro v' w' S'
    refine h v' w' ?_
    rw [← List.map_append, ← List.length_append] at S'
    exact S'
end Go.Proofs.YtioonimpobcglaaDoor
