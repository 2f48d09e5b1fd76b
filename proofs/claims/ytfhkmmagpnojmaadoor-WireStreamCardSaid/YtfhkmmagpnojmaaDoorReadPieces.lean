/- How a slice of byte slices that came in reads. No condition. -/
import Derived.Test.YtfhkmmagpnojmaaDoorBd
import Derived.Test.YtfhkmmagpnojmaaDoorBa
import Derived.Test.YtfhkmmagpnojmaaDoorLaid
set_option linter.unusedSimpArgs false
set_option linter.unusedVariables false
namespace Go.Proofs.YtfhkmmagpnojmaaDoor
open Go.ChangeShapes Go.WideShapes Go.ChangeAt Go.RowKit Go.Deep

set_option maxRecDepth 100000 in
theorem open_pieces {H : Type} {enc : TypeId × Value → H} {W : World} {base base2 : Nat} {spare : Nat → Bool} {held : Bool} {v : Value} {d : DataW H} {pl : List MemPlace} (hsp : ∀ b, spare b = true)
    (hok : Value.okWide Tryd.prog W .any base2 32 v) (h : DataW.Trod enc Tryd.prog W base spare held 32 v d pl) :
    ∃ ps : List (Value × List UInt8), Sl W 1 v ps.length (ps.map (·.1)) ∧ (Light Tryd.prog 32 d → ps.length ≤ 140737488351232 ∧ ∀ z ∈ ps, Bs W z.1 z.2 ∧ z.2.length ≤ 140737488351232) := by
  obtain ⟨fuel, hf⟩ := open_slice1 Tryd.underlying32 hok h
  obtain ⟨v', xs, hv, hs, hl, hel⟩ := rd_slice (fun z : Value × List UInt8 => [z.1]) (fun d z => Bs W z.1 z.2 ∧ (Light Tryd.prog 25 d → z.2.length ≤ 140737488351232)) 1 (by decide) hsp Tryd.underlying32 kR (fun _ => rfl) (fun m cs' y hy => by
    obtain ⟨v1, ys, rfl, hb, hl⟩ := rd_bytes hsp Tryd.underlying25 Tryd.underlying5 kR kR hy
    exact ⟨(v1, ys), rfl, hb, hl⟩) hf
  obtain rfl : v = v' := by simpa using hv
  refine ⟨xs, by rw [List.map_eq_flatMap]; exact hs, fun hlt => ⟨?_, fun z hz => ?_⟩⟩
  · have := hl hlt
    have h24 : Tryd.prog.bytesOf 25 = 24 := by kernel_rfl
    rw [h24] at this
    simp only [reachBytes] at this
    omega
  · obtain ⟨d', ⟨h1, h2⟩, h3⟩ := hel z hz
    exact ⟨h1, h2 (h3 hlt)⟩
end Go.Proofs.YtfhkmmagpnojmaaDoor
