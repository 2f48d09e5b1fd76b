/- How a slice of notes that came in reads. No condition. -/
import Derived.Test.YtfhkmmagpnojmaaDoorZBd
import Derived.Test.YtfhkmmagpnojmaaDoorZReadTok
import Derived.Test.YtfhkmmagpnojmaaDoorZCh1
set_option linter.unusedSimpArgs false
set_option linter.unusedVariables false
namespace Go.Proofs.YtfhkmmagpnojmaaDoor
open Go.ChangeShapes Go.WideShapes Go.ChangeAt Go.RowKit Go.Deep

set_option maxRecDepth 100000 in
theorem rd_note {H : Type} {enc : TypeId × Value → H} {W : World} {base : Nat} {spare : Nat → Bool} {held : Bool} {fuel : Nat} {cs' : List Value} {y : DataW H × List MemPlace} (hsp : ∀ b, spare b = true) (hy : DataW.trod enc Tryd.prog W base spare held fuel 99 cs' = some y) :
    ∃ n : Nt, cs' = ntL n ∧ (Bs W n.hv n.b ∧ (Light Tryd.prog 99 y.1 → n.b.length ≤ 140737488351232)) := by
  obtain ⟨hl, hfd⟩ := rd_struct Tryd.underlying99 hy
  have hc : Tryd.prog.cellsOf 99 = 4 := by kernel_rfl
  have hc0 : Tryd.prog.cellsOf 23 = 1 := by kernel_rfl
  have hc1 : Tryd.prog.cellsOf 5 = 1 := by kernel_rfl
  have hc2 : Tryd.prog.cellsOf 80 = 1 := by kernel_rfl
  have hc3 : Tryd.prog.cellsOf 25 = 1 := by kernel_rfl
  rw [hc] at hl
  obtain ⟨m0, y0, h0, _⟩ := hfd 0 _ rfl
  obtain ⟨m1, y1, h1, _⟩ := hfd 1 _ rfl
  obtain ⟨m2, y2, h2, _⟩ := hfd 2 _ rfl
  obtain ⟨m3, y3, h3, lt3⟩ := hfd 3 _ rfl
  simp only [List.getElem_toArray, List.getElem_cons_zero, List.getElem_cons_succ] at h0 h1 h2 h3 lt3
  rw [hc0] at h0
  rw [hc1] at h1
  rw [hc2] at h2
  rw [hc3] at h3
  obtain ⟨z0, hz0, _, hw0⟩ := DataW.trod_int Tryd.underlying23 h0
  obtain ⟨z1, hz1, _, hw1⟩ := DataW.trod_int Tryd.underlying5 h1
  obtain ⟨z2, hz2, _, hw2⟩ := DataW.trod_int Tryd.underlying80 h2
  obtain ⟨v3, ys, hv3, hb, hlb⟩ := rd_bytes hsp Tryd.underlying25 Tryd.underlying5 kR kR h3
  have b0 := bounds_u64 hw0
  have b1 := bounds_u8 hw1
  have b2 := bounds_u16 hw2
  refine ⟨⟨UInt64.ofNat z0.toNat, UInt8.ofNat z1.toNat, UInt16.ofNat z2.toNat, v3, ys⟩, ?_, hb, fun hlt => hlb (lt3 hlt)⟩
  have e2 : cs'.drop (3 + 1) = [] := List.drop_of_length_le (by omega)
  have e0 : cs' = cs'.drop 0 := rfl
  rw [e0, drop_splitT cs' 0 1, hz0, drop_splitT cs' (0 + 1) 1, hz1, drop_splitT cs' (0 + 1 + 1) 1, hz2, drop_splitT cs' (0 + 1 + 1 + 1) 1, hv3, e2]
  simp only [ntL, List.cons_append, List.nil_append, List.append_nil, List.cons.injEq, Value.int.injEq, true_and, UInt64.toNat_ofNat', UInt8.toNat_ofNat', UInt16.toNat_ofNat', and_true]
  omega
set_option maxRecDepth 100000 in
theorem open_notes {H : Type} {enc : TypeId × Value → H} {W : World} {base base2 : Nat} {spare : Nat → Bool} {held : Bool} {v : Value} {d : DataW H} {pl : List MemPlace} (hsp : ∀ b, spare b = true)
    (hok : Value.okWide Tryd.prog W .any base2 96 v) (h : DataW.Trod enc Tryd.prog W base spare held 96 v d pl) :
    ∃ l : List Nt, Sl W 4 v l.length (l.flatMap ntL) ∧ (Light Tryd.prog 96 d → ∀ n ∈ l, Bs W n.hv n.b ∧ n.b.length ≤ 140737488351232) := by
  obtain ⟨fuel, hf⟩ := open_slice1 Tryd.underlying96 hok h
  obtain ⟨v', xs, hv, hs, hl, hel⟩ := rd_slice ntL (fun d n => Bs W n.hv n.b ∧ (Light Tryd.prog 99 d → n.b.length ≤ 140737488351232)) 4 (by decide) hsp Tryd.underlying96 kR ntL_length (fun m cs' y hy => rd_note hsp hy) hf
  obtain rfl : v = v' := by simpa using hv
  refine ⟨xs, hs, fun hlt n hn => ?_⟩
  obtain ⟨d', ⟨h1, h2⟩, h3⟩ := hel n hn
  exact ⟨h1, h2 (h3 hlt)⟩
end Go.Proofs.YtfhkmmagpnojmaaDoor
