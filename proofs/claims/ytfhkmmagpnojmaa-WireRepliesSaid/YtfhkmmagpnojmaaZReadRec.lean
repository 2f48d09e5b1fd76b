/- How a slice of records that came in reads. No condition. -/
import Derived.Test.YtfhkmmagpnojmaaZBd
import Derived.Test.YtfhkmmagpnojmaaZReadTok
import Derived.Test.YtfhkmmagpnojmaaZBg
set_option linter.unusedSimpArgs false
set_option linter.unusedVariables false
namespace Go.Proofs.Ytfhkmmagpnojmaa
open Go.ChangeShapes Go.WideShapes Go.ChangeAt Go.RowKit Go.Deep

set_option maxRecDepth 100000 in
theorem rd_rec {H : Type} {enc : TypeId × Value → H} {W : World} {base : Nat} {spare : Nat → Bool} {held : Bool} {fuel : Nat} {cs' : List Value} {y : DataW H × List MemPlace} (hy : DataW.trod enc Try.prog W base spare held fuel 106 cs' = some y) : ∃ x : Rcd, cs' = rcdL x := by
  obtain ⟨hl, hfd⟩ := rd_struct Try.underlying106 hy
  have hc : Try.prog.cellsOf 106 = 35 := by kernel_rfl
  have hc0 : Try.prog.cellsOf 32 = 1 := by kernel_rfl
  have hc1 : Try.prog.cellsOf 5 = 1 := by kernel_rfl
  have hc2 : Try.prog.cellsOf 24 = 1 := by kernel_rfl
  have hc3 : Try.prog.cellsOf 34 = 32 := by kernel_rfl
  rw [hc] at hl
  obtain ⟨m0, y0, h0, _⟩ := hfd 0 _ rfl
  obtain ⟨m1, y1, h1, _⟩ := hfd 1 _ rfl
  obtain ⟨m2, y2, h2, _⟩ := hfd 2 _ rfl
  obtain ⟨m3, y3, h3, _⟩ := hfd 3 _ rfl
  simp only [List.getElem_toArray, List.getElem_cons_zero, List.getElem_cons_succ] at h0 h1 h2 h3
  rw [hc0] at h0
  rw [hc1] at h1
  rw [hc2] at h2
  rw [hc3] at h3
  obtain ⟨z0, hz0, _, hw0⟩ := DataW.trod_int Try.underlying32 h0
  obtain ⟨z1, hz1, _, hw1⟩ := DataW.trod_int Try.underlying5 h1
  obtain ⟨z2, hz2, _, hw2⟩ := DataW.trod_int Try.underlying24 h2
  obtain ⟨D, hD, hd⟩ := rd_u8s Try.underlying34 Try.underlying5 kR kR h3
  have b0 := bounds_u64 hw0
  have b1 := bounds_u8 hw1
  have b2 := bounds_i64 hw2
  refine ⟨⟨UInt64.ofNat z0.toNat, UInt8.ofNat z1.toNat, ⟨z2, b2⟩, D, hD⟩, ?_⟩
  have e2 : cs'.drop (3 + 32) = [] := List.drop_of_length_le (by omega)
  have e0 : cs' = cs'.drop 0 := rfl
  rw [e0, drop_splitT cs' 0 1, hz0, drop_splitT cs' (0 + 1) 1, hz1, drop_splitT cs' (0 + 1 + 1) 1, hz2, drop_splitT cs' (0 + 1 + 1 + 1) 32, hd, e2]
  simp only [rcdL, List.cons_append, List.nil_append, List.append_nil, List.cons.injEq, Value.int.injEq, true_and, UInt64.toNat_ofNat', UInt8.toNat_ofNat', and_true]
  omega
set_option maxRecDepth 100000 in
theorem rd_recs {H : Type} {enc : TypeId × Value → H} {W : World} {base : Nat} {spare : Nat → Bool} {held : Bool} {fuel : Nat} {cs : List Value} {d : DataW H × List MemPlace} (hsp : ∀ b, spare b = true)
    (hf : DataW.trod enc Try.prog W base spare held fuel 51 cs = some d) :
    ∃ (v : Value) (l : List Rcd), cs = [v] ∧ Sl W 35 v l.length (l.flatMap rcdL) ∧ (Light Try.prog 51 d.1 → l.length * 56 ≤ 140737488351232) := by
  obtain ⟨v', xs, hv, hs, hl, _⟩ := rd_slice rcdL (fun _ _ => True) 35 (by decide) hsp Try.underlying51 kR rcdL_length (fun m cs' y hy => by
    obtain ⟨x, hx⟩ := rd_rec hy
    exact ⟨x, hx, trivial⟩) hf
  refine ⟨v', xs, hv, hs, fun hlt => ?_⟩
  have h2 := hl hlt
  have h24 : Try.prog.bytesOf 106 = 56 := by kernel_rfl
  rw [h24] at h2
  simpa [reachBytes] using h2
end Go.Proofs.Ytfhkmmagpnojmaa
