/- Requests in memory of one's own; headers of slices. No condition. -/
import Derived.Test.YtfhkmmagpnojmaaDoorFrA
import Derived.Test.YtfhkmmagpnojmaaDoorChkR
set_option linter.unusedSimpArgs false
set_option linter.unusedVariables false
namespace Go.Proofs.YtfhkmmagpnojmaaDoor
open Go.RowKit

abbrev rowRq (v : Value) (l : List Rq) : Res := row v 69 40 l.length (l.flatMap rqL)
theorem rqL_all (l : List Rq) : ∀ u ∈ l.flatMap rqL, u.oneCell' = true := by
  intro u hu
  obtain ⟨m, _, hm⟩ := List.mem_flatMap.1 hu
  have := rqL_one m
  rw [Array.all_eq_true'] at this
  exact this u (by simpa using hm)
set_option maxRecDepth 100000 in
theorem infoRq : (Tryd.prog.info? 69).map (fun i => (i.zero, i.size, i.bytes)) = some (some (.agg (rqL rqZ).toArray), 40, 72) := by kernel_rfl
set_option maxRecDepth 100000 in
theorem infoRq2 : (Tryd.prog.info? 69).map (fun i => (i.zero, i.size)) = some (some (.agg (rqL rqZ).toArray), 40) := by kernel_rfl
theorem Has.nilRq {w0 w : World} {l : List Res} (S : Has w0 w l) : Has w0 w (rowRq (.slice none 0 0) [] :: l) := S.nil_row _ _

set_option maxRecDepth 100000 in
theorem step_appendRq {ops : Array Oper} {rest : List Oper} {a : Act} {w0 w : World} {l F : List Res} {Q : Exit → Act → World → Prop} {dst : Option Tmp} {ty : TypeId} {pos : String} {after : Array Edge} {gd : Option (Nat × Bool)} (S : Has w0 w l) (s x : Operand)
    (v : Value) (xs : List Rq) (hs : a.eval s = v) (hp : Pick l (rowRq v xs) F) (src : Value) (ys : List Rq) (hx : a.eval x = src) (hsrc : Sl w 40 src ys.length (ys.flatMap rqL)) (hlen : (xs.length + ys.length) * 72 ≤ 140737488355328)
    (hw : Region.wanted ⟨dst, .call { callee := .builtin .append, args := #[s, x], argTypes := #[63, 63] }, ty, pos, after, gd⟩ (yielded ops a.tmps) = true)
    (h : ∀ v' w', Has w0 w' (rowRq v' (xs ++ ys) :: F) → wpList Tryd.prog ops Q rest (a.put dst v') w') :
    wpList Tryd.prog ops Q (⟨dst, .call { callee := .builtin .append, args := #[s, x], argTypes := #[63, 63] }, ty, pos, after, gd⟩ :: rest) a w := by
  refine step_append S s x 63 69 (.agg (rqL rqZ).toArray) 40 72 Tryd.underlying63 infoRq rfl (by decide) v xs.length (xs.flatMap rqL) hs hp src ys.length (ys.flatMap rqL) hx hsrc (rqL_all _) (by unfold maxLen; omega) hlen hw ?_
  intro v' w' S'
  refine h v' w' ?_
  rw [← List.flatMap_append, ← List.length_append] at S'
  exact S'

set_option maxRecDepth 100000 in
theorem step_buildRq1s {ops : Array Oper} {rest : List Oper} {a : Act} {w0 w : World} {l : List Res} {Q : Exit → Act → World → Prop} {dst : Option Tmp} {ty : TypeId} {pos : String} {after : Array Edge} {gd : Option (Nat × Bool)} (S : Has w0 w l) (x : Operand) (r : Rq) (hx : a.eval x = .agg (rqL r).toArray)
    (hw : Region.wanted ⟨dst, .buildSlice 63 1 #[(0, x)], ty, pos, after, gd⟩ (yielded ops a.tmps) = true)
    (h : ∀ v w', Has w0 w' (rowRq v [r] :: l) → wpList Tryd.prog ops Q rest (a.put dst v) w') : wpList Tryd.prog ops Q (⟨dst, .buildSlice 63 1 #[(0, x)], ty, pos, after, gd⟩ :: rest) a w :=
  step_buildS1 S 63 69 40 x (rqL r) _ Tryd.underlying63 infoRq2 (by decide) (by decide) hx (rqL_length _) hw fun v w' S' => h v w' (by
    have e : [r].flatMap rqL = rqL r := by simp
    show Has w0 w' (row v _ 40 1 ([r].flatMap rqL) :: l)
    rw [e]
    exact S')

/-- The token, the kind of a request in a row. -/
theorem rq_tokrange {w : World} {b off : Nat} {r : Rq} (h : w.rangeAt b off (rqL r)) : w.rangeAt b (off + 1) (tokL r.tok) := fun j v hj => by
  have hlt : j < (tokL r.tok).length := (List.getElem?_eq_some_iff.1 hj).1
  have := h (j + 1) v (by
    show ((Value.int .u8 (r.kind.toNat : Int)) :: (tokL r.tok ++ _))[j + 1]? = _
    rw [List.getElem?_cons_succ, List.getElem?_append_left hlt]
    exact hj)
  rwa [show off + 1 + j = off + (j + 1) by omega]
theorem rq_kindcell {w : World} {b off : Nat} {r : Rq} (h : w.rangeAt b off (rqL r)) : w.cell? ⟨b, off, none⟩ = some (.int .u8 (r.kind.toNat : Int)) := h 0 _ rfl

/-- The headers of slices. -/
abbrev rowH (v : Value) (q : List Value) : Res := row v 25 1 q.length q
theorem Has.toH {w0 w : World} {F : List Res} {v : Value} {ps : List (Value × List UInt8)} (S : Has w0 w (rowF v ps :: F)) : Has w0 w (rowH v (ps.map (·.1)) :: F) := by
  have e : rowF v ps = rowH v (ps.map (·.1)) := by simp [rowF, rowH]
  rwa [e] at S
set_option maxRecDepth 100000 in
theorem step_appendH {ops : Array Oper} {rest : List Oper} {a : Act} {w0 w : World} {l F : List Res} {Q : Exit → Act → World → Prop} {dst : Option Tmp} {ty : TypeId} {pos : String} {after : Array Edge} {gd : Option (Nat × Bool)} (S : Has w0 w l) (s x : Operand) (v : Value) (ps : List Value)
    (hs : a.eval s = v) (hp : Pick l (rowH v ps) F) (src : Value) (qs : List Value) (hx : a.eval x = src) (hsrc : Sl w 1 src qs.length qs) (h1 : ∀ u ∈ qs, u.oneCell' = true) (hlen : (ps.length + qs.length) * 24 ≤ 140737488355328)
    (hw : Region.wanted ⟨dst, .call { callee := .builtin .append, args := #[s, x], argTypes := #[32, 32] }, ty, pos, after, gd⟩ (yielded ops a.tmps) = true)
    (h : ∀ v' w', Has w0 w' (rowH v' (ps ++ qs) :: F) → wpList Tryd.prog ops Q rest (a.put dst v') w') :
    wpList Tryd.prog ops Q (⟨dst, .call { callee := .builtin .append, args := #[s, x], argTypes := #[32, 32] }, ty, pos, after, gd⟩ :: rest) a w :=
  step_append S s x 32 25 (.slice none 0 0) 1 24 Tryd.underlying32 infoF rfl (by decide) v ps.length ps hs hp src qs.length qs hx hsrc h1 (by unfold maxLen; omega) hlen hw fun v' w' S' => h v' w' (by
    rw [← List.length_append] at S'
    exact S')
theorem one_heads {w : World} {ps : List (Value × List UInt8)} (h : ∀ p ∈ ps, Bs w p.1 p.2) : ∀ u ∈ ps.map (·.1), u.oneCell' = true := by
  intro u hu
  obtain ⟨p, hp, rfl⟩ := List.mem_map.1 hu
  exact (one_sl (h p hp)).1
theorem Has.allApp {w0 w : World} {F : List Res} {ps qs : List (Value × List UInt8)} (S : Has w0 w (allF ps :: allF qs :: F)) : Has w0 w (allF (ps ++ qs) :: F) := by
  have h1 := List.pairwise_cons.1 S.apart
  have h2 := List.pairwise_cons.1 h1.2
  refine ⟨S.below, ?_, ?_, List.pairwise_cons.2 ⟨fun s hs g hg => ?_, h2.2⟩⟩
  · intro r hr
    rcases List.mem_cons.1 hr with rfl | hr
    · intro p hp
      rcases List.mem_append.1 hp with hp | hp
      · exact S.holds (allF ps) (by simp) p hp
      · exact S.holds (allF qs) (by simp) p hp
    · exact S.holds r (by simp [hr])
  · intro r hr g hg
    rcases List.mem_cons.1 hr with rfl | hr
    · obtain ⟨p, hp, hg⟩ := List.mem_flatMap.1 hg
      rcases List.mem_append.1 hp with hp | hp
      · exact S.base (allF ps) (by simp) g (List.mem_flatMap.2 ⟨p, hp, hg⟩)
      · exact S.base (allF qs) (by simp) g (List.mem_flatMap.2 ⟨p, hp, hg⟩)
    · exact S.base r (by simp [hr]) g hg
  · obtain ⟨p, hp, hg⟩ := List.mem_flatMap.1 hg
    rcases List.mem_append.1 hp with hp | hp
    · exact h1.1 s (by simp [hs]) g (List.mem_flatMap.2 ⟨p, hp, hg⟩)
    · exact h2.1 s hs g (List.mem_flatMap.2 ⟨p, hp, hg⟩)
end Go.Proofs.YtfhkmmagpnojmaaDoor
