/- How a slice of requests that came in reads. No condition. -/
import Derived.Test.YtfhkmmagpnojmaaDoorBd
import Derived.Test.YtfhkmmagpnojmaaDoorReadReq
set_option linter.unusedSimpArgs false
set_option linter.unusedVariables false
namespace Go.Proofs.YtfhkmmagpnojmaaDoor
open Go.ChangeShapes Go.WideShapes Go.ChangeAt Go.RowKit Go.Deep

set_option maxRecDepth 100000 in
theorem open_reqs {H : Type} {enc : TypeId × Value → H} {W : World} {base base2 : Nat} {spare : Nat → Bool} {held : Bool} {v : Value} {d : DataW H} {pl : List MemPlace} (hsp : ∀ b, spare b = true)
    (hok : Value.okWide Tryd.prog W .any base2 63 v) (h : DataW.Trod enc Tryd.prog W base spare held 63 v d pl) :
    ∃ l : List Rq, Sl W 40 v l.length (l.flatMap rqL) ∧ (Light Tryd.prog 63 d → l.length * 72 ≤ 140737488351232) := by
  obtain ⟨fuel, hf⟩ := open_slice1 Tryd.underlying63 hok h
  obtain ⟨v', xs, hv, hs, hl, _⟩ := rd_slice rqL (fun _ _ => True) 40 (by decide) hsp Tryd.underlying63 kR rqL_length (fun m cs' y hy => by
    obtain ⟨x, hx⟩ := rd_req hy
    exact ⟨x, hx, trivial⟩) hf
  obtain rfl : v = v' := by simpa using hv
  refine ⟨xs, hs, fun hlt => ?_⟩
  have h2 := hl hlt
  have h24 : Tryd.prog.bytesOf 69 = 72 := by kernel_rfl
  rw [h24] at h2
  simpa [reachBytes] using h2
end Go.Proofs.YtfhkmmagpnojmaaDoor
