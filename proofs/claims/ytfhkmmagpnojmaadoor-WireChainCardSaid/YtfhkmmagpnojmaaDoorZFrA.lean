/- The arrays of several byte slices as one thing; Split told so. No condition but the reach. -/
import Derived.Test.YtfhkmmagpnojmaaDoorZBg
import Derived.Test.YtfhkmmagpnojmaaDoorZSplP
set_option linter.unusedSimpArgs false
set_option linter.unusedVariables false
namespace Go.Proofs.YtfhkmmagpnojmaaDoor
open Go.RowKit

/-- The arrays of all these slices. -/
def allF (ps : List (Value × List UInt8)) : Res where
  foot := ps.flatMap fun p => (row8 p.1 p.2).foot
  holds w := ∀ p ∈ ps, (row8 p.1 p.2).holds w
  live w h g hg := by
    obtain ⟨p, hp, hg⟩ := List.mem_flatMap.1 hg
    exact (row8 p.1 p.2).live w (h p hp) g hg
  keep w w' hk h := fun p hp => (row8 p.1 p.2).keep w w' (fun g hg => hk g (List.mem_flatMap.2 ⟨p, hp, hg⟩)) (h p hp)
theorem Has.toAll {w0 w : World} {ps : List (Value × List UInt8)} {F : List Res} (S : Has w0 w (frs ps ++ F)) : Has w0 w (allF ps :: F) := by
  have ha := List.pairwise_append.1 S.apart
  refine ⟨S.below, ?_, ?_, List.pairwise_cons.2 ⟨fun s hs g hg => ?_, ha.2.1⟩⟩
  · intro r hr
    rcases List.mem_cons.1 hr with rfl | hr
    · exact fun p hp => S.holds _ (List.mem_append_left _ (frs_mem hp))
    · exact S.holds r (List.mem_append_right _ hr)
  · intro r hr g hg
    rcases List.mem_cons.1 hr with rfl | hr
    · obtain ⟨p, hp, hg⟩ := List.mem_flatMap.1 hg
      exact S.base _ (List.mem_append_left _ (frs_mem hp)) g hg
    · exact S.base r (List.mem_append_right _ hr) g hg
  · obtain ⟨p, hp, hg⟩ := List.mem_flatMap.1 hg
    exact ha.2.2 _ (frs_mem hp) s hs g hg
theorem Has.piece {w0 w : World} {l F : List Res} {ps : List (Value × List UInt8)} (S : Has w0 w l) (h : Pick l (allF ps) F) (p : Value × List UInt8) (hp : p ∈ ps) : Bs w p.1 p.2 := Sl.of_own (S.get h p hp)
/-- Pieces and a rest, and an error. -/
def MadeA3 (w : World) (X : List (List UInt8) × List UInt8) (E : Int) (e : Ending) (w' : World) : Prop := ∃ v1 v2 ps, e = .returned (.tuple #[v1, v2, .int .i64 E]) ∧ ps.map (·.2) = X.1 ∧ Has w w' [rowF v1 ps, row8 v2 X.2, allF ps]
theorem MadeF3.all {w w' : World} {X : List (List UInt8) × List UInt8} {E : Int} {e : Ending} (h : MadeF3 w X E e w') : MadeA3 w X E e w' := by
  obtain ⟨v1, v2, ps, he, hp, S⟩ := h
  refine ⟨v1, v2, ps, he, hp, ?_⟩
  have S2 : Has w w' (frs ps ++ [rowF v1 ps, row8 v2 X.2]) := S.perm (by
    have := List.perm_append_comm (l₁ := [rowF v1 ps, row8 v2 X.2]) (l₂ := frs ps)
    exact this)
  exact S2.toAll.perm ((List.Perm.swap _ _ _).trans (List.Perm.cons _ (List.Perm.swap _ _ _)))
theorem split_a (v : Value) (b : List UInt8) (w0 : World) (h : Bs w0 v b) (hl : b.length ≤ 4160) : Calls Tryd.prog 30 #[v] w0 (MadeA3 w0 (splitB b) 0) :=
  (split_s v b w0 h).mono fun e w' he => by
    rw [show spX b = splitB b from if_pos hl, show spE b.length = 0 from if_pos hl] at he
    exact he.all
end Go.Proofs.YtfhkmmagpnojmaaDoor
