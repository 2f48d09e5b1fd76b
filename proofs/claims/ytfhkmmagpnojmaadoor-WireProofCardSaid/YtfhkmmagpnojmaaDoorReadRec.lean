/- How a slice of records that came in reads. No condition. -/
import Derived.Test.YtfhkmmagpnojmaaDoorBd
import Derived.Test.YtfhkmmagpnojmaaDoorReadTok
import Derived.Test.YtfhkmmagpnojmaaDoorBg
set_option linter.unusedSimpArgs false
set_option linter.unusedVariables false
namespace Go.Proofs.YtfhkmmagpnojmaaDoor
open Go.ChangeShapes Go.WideShapes Go.ChangeAt Go.RowKit Go.Deep

set_option maxRecDepth 100000 in
theorem rd_rec {H : Type} {enc : TypeId × Value → H} {W : World} {base : Nat} {spare : Nat → Bool} {held : Bool} {fuel : Nat} {cs' : List Value} {y : DataW H × List MemPlace} (hy : DataW.trod enc Tryd.prog W base spare held fuel 50 cs' = some y) : ∃ x : Rcd, cs' = rcdL x := by
  obtain ⟨hl, hfd⟩ := rd_struct Tryd.underlying50 hy
  have hc : Tryd.prog.cellsOf 50 = 35 := by kernel_rfl
  have hc0 : Tryd.prog.cellsOf 23 = 1 := by kernel_rfl
  have hc1 : Tryd.prog.cellsOf 5 = 1 := by kernel_rfl
  have hc2 : Tryd.prog.cellsOf 24 = 1 := by kernel_rfl
  have hc3 : Tryd.prog.cellsOf 22 = 32 := by kernel_rfl
  rw [hc] at hl
  obtain ⟨m0, y0, h0, _⟩ := hfd 0 _ rfl
  obtain ⟨m1, y1, h1, _⟩ := hfd 1 _ rfl
  obtain ⟨m2, y2, h2, _⟩ := hfd 2 _ rfl
  obtain ⟨m3, y3, h3, _⟩ := hfd 3 _ rfl
  simp only [List.getElem_toArray, List.getElem_cons_zero, List.getElem_cons_succ] at h0 h1 h2 h3
  rw [hc0] at h0
  rw [hc1] at h1
  rw [hc2] at h2
  rw [hc3] at h3
  obtain ⟨z0, hz0, _, hw0⟩ := DataW.trod_int Tryd.underlying23 h0
  obtain ⟨z1, hz1, _, hw1⟩ := DataW.trod_int Tryd.underlying5 h1
  obtain ⟨z2, hz2, _, hw2⟩ := DataW.trod_int Tryd.underlying24 h2
  obtain ⟨D, hD, hd⟩ := rd_u8s Tryd.underlying22 Tryd.underlying5 kR kR h3
  have b0 := bounds_u64 hw0
  have b1 := bounds_u8 hw1
  have b2 := bounds_i64 hw2
  refine ⟨⟨UInt64.ofNat z0.toNat, UInt8.ofNat z1.toNat, ⟨z2, b2⟩, D, hD⟩, ?_⟩
  have e2 : cs'.drop (3 + 32) = [] := List.drop_of_length_le (by omega)
  have e0 : cs' = cs'.drop 0 := rfl
  rw [e0, drop_splitT cs' 0 1, hz0, drop_splitT cs' (0 + 1) 1, hz1, drop_splitT cs' (0 + 1 + 1) 1, hz2, drop_splitT cs' (0 + 1 + 1 + 1) 32, hd, e2]
  simp only [rcdL, List.cons_append, List.nil_append, List.append_nil, List.cons.injEq, Value.int.injEq, true_and, UInt64.toNat_ofNat', UInt8.toNat_ofNat', and_true]
  omega

set_option maxRecDepth 100000 in
theorem rd_recs {H : Type} {enc : TypeId × Value → H} {W : World} {base : Nat} {spare : Nat → Bool} {held : Bool} {fuel : Nat} {cs : List Value} {d : DataW H × List MemPlace} (hsp : ∀ b, spare b = true)
    (hf : DataW.trod enc Tryd.prog W base spare held fuel 31 cs = some d) :
    ∃ (v : Value) (l : List Rcd), cs = [v] ∧ Sl W 35 v l.length (l.flatMap rcdL) ∧ (Light Tryd.prog 31 d.1 → l.length * 56 ≤ 140737488351232) := by
  obtain ⟨v', xs, hv, hs, hl, _⟩ := rd_slice rcdL (fun _ _ => True) 35 (by decide) hsp Tryd.underlying31 kR rcdL_length (fun m cs' y hy => by
    obtain ⟨x, hx⟩ := rd_rec hy
    exact ⟨x, hx, trivial⟩) hf
  refine ⟨v', xs, hv, hs, fun hlt => ?_⟩
  have h2 := hl hlt
  have h24 : Tryd.prog.bytesOf 50 = 56 := by kernel_rfl
  rw [h24] at h2
  simpa [reachBytes] using h2

set_option maxRecDepth 100000 in
theorem open_recs {H : Type} {enc : TypeId × Value → H} {W : World} {base base2 : Nat} {spare : Nat → Bool} {held : Bool} {v : Value} {d : DataW H} {pl : List MemPlace} (hsp : ∀ b, spare b = true)
    (hok : Value.okWide Tryd.prog W .any base2 31 v) (h : DataW.Trod enc Tryd.prog W base spare held 31 v d pl) :
    ∃ l : List Rcd, Sl W 35 v l.length (l.flatMap rcdL) ∧ (Light Tryd.prog 31 d → l.length * 56 ≤ 140737488351232) := by
  obtain ⟨fuel, hf⟩ := open_slice1 Tryd.underlying31 hok h
  obtain ⟨v', xs, hv, hs, hl⟩ := rd_recs hsp hf
  obtain rfl : v = v' := by simpa using hv
  exact ⟨xs, hs, hl⟩
end Go.Proofs.YtfhkmmagpnojmaaDoor
