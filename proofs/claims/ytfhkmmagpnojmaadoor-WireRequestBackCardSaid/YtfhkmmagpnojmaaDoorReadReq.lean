/- How a request that came in reads. No condition. -/
import Derived.Test.YtfhkmmagpnojmaaDoorReadTok
import Derived.Test.YtfhkmmagpnojmaaDoorBg
set_option linter.unusedSimpArgs false
set_option linter.unusedVariables false
namespace Go.Proofs.YtfhkmmagpnojmaaDoor
open Go.ChangeShapes Go.WideShapes Go.ChangeAt Go.RowKit Go.Deep

set_option maxRecDepth 100000 in
theorem rd_req {H : Type} {enc : TypeId × Value → H} {W : World} {base : Nat} {spare : Nat → Bool} {held : Bool} {fuel : Nat} {cs : List Value} {x : DataW H × List MemPlace} (h : DataW.trod enc Tryd.prog W base spare held fuel 69 cs = some x) : ∃ r : Rq, cs = rqL r := by
  obtain ⟨hl, hfd⟩ := rd_struct Tryd.underlying69 h
  have hc : Tryd.prog.cellsOf 69 = 40 := by kernel_rfl
  have hc1 : Tryd.prog.cellsOf 67 = 36 := by kernel_rfl
  have hc2 : Tryd.prog.cellsOf 5 = 1 := by kernel_rfl
  have hc3 : Tryd.prog.cellsOf 38 = 1 := by kernel_rfl
  rw [hc] at hl
  obtain ⟨m0, y0, h0, _⟩ := hfd 0 _ rfl
  obtain ⟨m1, y1, h1, _⟩ := hfd 1 _ rfl
  obtain ⟨m2, y2, h2, _⟩ := hfd 2 _ rfl
  obtain ⟨m3, y3, h3, _⟩ := hfd 3 _ rfl
  obtain ⟨m4, y4, h4, _⟩ := hfd 4 _ rfl
  simp only [List.getElem_toArray, List.getElem_cons_zero, List.getElem_cons_succ] at h0 h1 h2 h3 h4
  rw [hc2] at h0 h2 h3
  rw [hc1] at h1
  rw [hc3] at h4
  obtain ⟨z0, hz0, _, hw0⟩ := DataW.trod_int Tryd.underlying5 h0
  obtain ⟨t, ht⟩ := rd_tok h1
  obtain ⟨z2, hz2, _, hw2⟩ := DataW.trod_int Tryd.underlying5 h2
  obtain ⟨z3, hz3, _, hw3⟩ := DataW.trod_int Tryd.underlying5 h3
  obtain ⟨z4, hz4, _, hw4⟩ := DataW.trod_int Tryd.underlying38 h4
  have b0 := bounds_u8 hw0
  have b2 := bounds_u8 hw2
  have b3 := bounds_u8 hw3
  have b4 := bounds_u32 hw4
  refine ⟨⟨UInt8.ofNat z0.toNat, t, UInt8.ofNat z2.toNat, UInt8.ofNat z3.toNat, UInt32.ofNat z4.toNat⟩, ?_⟩
  have e2 : cs.drop (39 + 1) = [] := List.drop_of_length_le (by omega)
  have e0 : cs = cs.drop 0 := rfl
  rw [e0, drop_splitT cs 0 1, hz0, drop_splitT cs (0 + 1) 36, ht, drop_splitT cs (0 + 1 + 36) 1, hz2, drop_splitT cs (0 + 1 + 36 + 1) 1, hz3, drop_splitT cs (0 + 1 + 36 + 1 + 1) 1, hz4, e2]
  simp only [rqL, List.cons_append, List.nil_append, List.append_nil, List.append_assoc, UInt64.toNat_ofNat', UInt8.toNat_ofNat', UInt32.toNat_ofNat']
  congr 2
  · omega
  · rw [show ((z2.toNat % 2 ^ 8 : Nat) : Int) = z2 by omega, show ((z3.toNat % 2 ^ 8 : Nat) : Int) = z3 by omega, show ((z4.toNat % 2 ^ 32 : Nat) : Int) = z4 by omega]

set_option maxRecDepth 100000 in
theorem open_req {H : Type} {enc : TypeId × Value → H} {W : World} {base base2 : Nat} {spare : Nat → Bool} {held : Bool} {v : Value} {d : DataW H} {pl : List MemPlace}
    (hok : Value.okWide Tryd.prog W .any base2 69 v) (h : DataW.Trod enc Tryd.prog W base spare held 69 v d pl) : ∃ r : Rq, v = .agg (rqL r).toArray := by
  obtain ⟨cs, fuel, rfl, hf⟩ := open_cells Tryd.underlying69 hok h
  obtain ⟨r, rfl⟩ := rd_req hf
  exact ⟨r, rfl⟩
end Go.Proofs.YtfhkmmagpnojmaaDoor
