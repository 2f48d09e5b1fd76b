/- How a token that came in reads. No condition. -/
import Derived.Test.YtfhkmmagpnojmaaZBd
import Derived.Test.YtfhkmmagpnojmaaZBa
import Derived.Test.YtfhkmmagpnojmaaZBe
set_option linter.unusedSimpArgs false
set_option linter.unusedVariables false
namespace Go.Proofs.Ytfhkmmagpnojmaa
open Go.ChangeShapes Go.WideShapes Go.ChangeAt Go.RowKit Go.Deep

theorem drop_splitT (cs : List Value) (k n : Nat) : cs.drop k = (cs.drop k).take n ++ cs.drop (k + n) := by
  rw [← List.drop_drop, List.take_append_drop]
set_option maxRecDepth 100000 in
theorem rd_tok {H : Type} {enc : TypeId × Value → H} {W : World} {base : Nat} {spare : Nat → Bool} {held : Bool} {fuel : Nat} {cs : List Value} {x : DataW H × List MemPlace} (h : DataW.trod enc Try.prog W base spare held fuel 36 cs = some x) : ∃ t : Tok, cs = tokL t := by
  obtain ⟨hl, hfd⟩ := rd_struct Try.underlying36 h
  have hc : Try.prog.cellsOf 36 = 36 := by kernel_rfl
  have hc1 : Try.prog.cellsOf 32 = 1 := by kernel_rfl
  have hc2 : Try.prog.cellsOf 5 = 1 := by kernel_rfl
  have hc3 : Try.prog.cellsOf 33 = 1 := by kernel_rfl
  have hc4 : Try.prog.cellsOf 34 = 32 := by kernel_rfl
  rw [hc] at hl
  obtain ⟨m0, y0, h0, _⟩ := hfd 0 _ rfl
  obtain ⟨m1, y1, h1, _⟩ := hfd 1 _ rfl
  obtain ⟨m2, y2, h2, _⟩ := hfd 2 _ rfl
  obtain ⟨m3, y3, h3, _⟩ := hfd 3 _ rfl
  obtain ⟨m4, y4, h4, _⟩ := hfd 4 _ rfl
  simp only [List.getElem_toArray, List.getElem_cons_zero, List.getElem_cons_succ] at h0 h1 h2 h3 h4
  rw [hc2] at h0 h1
  rw [hc1] at h2
  rw [hc3] at h3
  rw [hc4] at h4
  obtain ⟨z0, hz0, _, hw0⟩ := DataW.trod_int Try.underlying5 h0
  obtain ⟨z1, hz1, _, hw1⟩ := DataW.trod_int Try.underlying5 h1
  obtain ⟨z2, hz2, _, hw2⟩ := DataW.trod_int Try.underlying32 h2
  obtain ⟨z3, hz3, _, hw3⟩ := DataW.trod_int Try.underlying33 h3
  obtain ⟨D, hD, hd⟩ := rd_u8s Try.underlying34 Try.underlying5 kR kR h4
  have b0 := bounds_u8 hw0
  have b1 := bounds_u8 hw1
  have b2 := bounds_u64 hw2
  have b3 := bounds_u32 hw3
  refine ⟨⟨UInt8.ofNat z0.toNat, UInt8.ofNat z1.toNat, UInt64.ofNat z2.toNat, UInt32.ofNat z3.toNat, D, hD⟩, ?_⟩
  have e2 : cs.drop (4 + 32) = [] := List.drop_of_length_le (by omega)
  have e0 : cs = cs.drop 0 := rfl
  rw [e0, drop_splitT cs 0 1, hz0, drop_splitT cs (0 + 1) 1, hz1, drop_splitT cs (0 + 1 + 1) 1, hz2, drop_splitT cs (0 + 1 + 1 + 1) 1, hz3, drop_splitT cs (0 + 1 + 1 + 1 + 1) 32, hd, e2]
  simp only [tokL, List.cons_append, List.nil_append, List.append_nil, List.cons.injEq, Value.int.injEq, true_and, UInt64.toNat_ofNat', UInt8.toNat_ofNat', UInt32.toNat_ofNat', and_true]
  omega
end Go.Proofs.Ytfhkmmagpnojmaa
