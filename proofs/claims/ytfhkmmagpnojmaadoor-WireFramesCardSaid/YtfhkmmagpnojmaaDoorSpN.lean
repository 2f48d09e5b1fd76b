/- Streams and pieces: counts, pieces as a row of headers. No condition. -/
import Derived.Test.YtfhkmmagpnojmaaDoorSplP
import Derived.Test.YtfhkmmagpnojmaaDoorRqM
import Derived.Test.YtfhkmmagpnojmaaDoorSmF
set_option linter.unusedSimpArgs false
set_option linter.unusedVariables false
namespace Go.Proofs.YtfhkmmagpnojmaaDoor
open Go.RowKit

/-- Each piece has two bytes or more. -/
theorem split_count (b : List UInt8) : 2 * (splitB b).1.length ≤ b.length ∧ (splitB b).1.flatten.length ≤ b.length := by
  obtain ⟨h1, h2, _⟩ := split_whole b
  have h3 : (splitB b).1.flatten.length ≤ b.length := by
    have := congrArg List.length h1
    rw [List.length_append] at this
    omega
  have key : ∀ l : List (List UInt8), (∀ f ∈ l, 2 ≤ f.length) → 2 * l.length ≤ l.flatten.length := by
    intro l
    induction l with
    | nil => intro _; simp
    | cons f l ih =>
      intro h
      have h4 := h f (by simp)
      have h5 := ih (fun g hg => h g (by simp [hg]))
      rw [List.flatten_cons, List.length_append, List.length_cons]
      omega
  have h6 := key _ (fun f hf => (h2 f hf).1)
  exact ⟨by omega, h3⟩

/-- The first pieces, put together. -/
theorem flat_take_succ (ps : List (Value × List UInt8)) (k : Nat) (p : Value × List UInt8) (hk : ps[k]? = some p) : ((ps.take (k + 1)).map (·.2)).flatten = ((ps.take k).map (·.2)).flatten ++ p.2 := by
  have e : ps.take (k + 1) = ps.take k ++ [p] := by
    rw [List.take_add_one, hk]; rfl
  rw [e, List.map_append, List.flatten_append]
  simp
theorem flat_take_le (ps : List (Value × List UInt8)) (k : Nat) : ((ps.take k).map (·.2)).flatten.length ≤ ((ps.map (·.2)).flatten).length := by
  have e : ps = ps.take k ++ ps.drop k := (List.take_append_drop k ps).symm
  have : ((ps.map (·.2)).flatten).length = ((ps.take k).map (·.2)).flatten.length + ((ps.drop k).map (·.2)).flatten.length := by
    conv => lhs; rw [e]
    rw [List.map_append, List.flatten_append, List.length_append]
  omega

theorem Has.ofH {w0 w : World} {F : List Res} {v : Value} {ps : List (Value × List UInt8)} (S : Has w0 w (rowH v (ps.map (·.1)) :: F)) : Has w0 w (rowF v ps :: F) := by
  have e : rowF v ps = rowH v (ps.map (·.1)) := by simp [rowF, rowH]
  rwa [e]
theorem Has.nilH {w0 w : World} {l : List Res} (S : Has w0 w l) : Has w0 w (rowH (.slice none 0 0) [] :: l) := S.nil_row 25 1
theorem Has.nilA {w0 w : World} {l : List Res} (S : Has w0 w l) : Has w0 w (allF [] :: l) := by
  have : Has w0 w (frs [] ++ l) := S
  exact this.toAll
theorem ps_nil {ps : List (Value × List UInt8)} (h : ps.map (·.2) = []) : ps = [] := by simpa using h
end Go.Proofs.YtfhkmmagpnojmaaDoor
