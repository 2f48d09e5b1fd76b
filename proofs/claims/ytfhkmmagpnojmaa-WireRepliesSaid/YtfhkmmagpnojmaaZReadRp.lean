/- How a reply that came in reads. No condition. -/
import Derived.Test.YtfhkmmagpnojmaaZBd
import Derived.Test.YtfhkmmagpnojmaaZReadRec
import Derived.Test.YtfhkmmagpnojmaaZBg
set_option linter.unusedSimpArgs false
set_option linter.unusedVariables false
namespace Go.Proofs.Ytfhkmmagpnojmaa
open Go.ChangeShapes Go.WideShapes Go.ChangeAt Go.RowKit Go.Deep

set_option maxRecDepth 100000 in
theorem rd_sg {H : Type} {enc : TypeId × Value → H} {W : World} {base : Nat} {spare : Nat → Bool} {held : Bool} {fuel : Nat} {cs' : List Value} {y : DataW H × List MemPlace} (hy : DataW.trod enc Try.prog W base spare held fuel 101 cs' = some y) : ∃ x : Sgt, cs' = sgtL x := by
  obtain ⟨hl, hfd⟩ := rd_struct Try.underlying101 hy
  have hc : Try.prog.cellsOf 101 = 3 := by kernel_rfl
  have hc0 : Try.prog.cellsOf 3 = 1 := by kernel_rfl
  have hc1 : Try.prog.cellsOf 5 = 1 := by kernel_rfl
  rw [hc] at hl
  obtain ⟨m0, y0, h0, _⟩ := hfd 0 _ rfl
  obtain ⟨m1, y1, h1, _⟩ := hfd 1 _ rfl
  obtain ⟨m2, y2, h2, _⟩ := hfd 2 _ rfl
  simp only [List.getElem_toArray, List.getElem_cons_zero, List.getElem_cons_succ] at h0 h1 h2
  rw [hc0] at h0 h2
  rw [hc1] at h1
  obtain ⟨z0, hz0, _, hw0⟩ := DataW.trod_int Try.underlying3 h0
  obtain ⟨z1, hz1, _, hw1⟩ := DataW.trod_int Try.underlying5 h1
  obtain ⟨z2, hz2, _, hw2⟩ := DataW.trod_int Try.underlying3 h2
  have b0 := bounds_i64 hw0
  have b1 := bounds_u8 hw1
  have b2 := bounds_i64 hw2
  refine ⟨⟨⟨z0, b0⟩, UInt8.ofNat z1.toNat, ⟨z2, b2⟩⟩, ?_⟩
  have e2 : cs'.drop (2 + 1) = [] := List.drop_of_length_le (by omega)
  have e0 : cs' = cs'.drop 0 := rfl
  rw [e0, drop_splitT cs' 0 1, hz0, drop_splitT cs' (0 + 1) 1, hz1, drop_splitT cs' (0 + 1 + 1) 1, hz2, e2]
  simp only [sgtL, List.cons_append, List.nil_append, List.append_nil, List.cons.injEq, Value.int.injEq, true_and, UInt8.toNat_ofNat', and_true]
  omega
set_option maxRecDepth 100000 in
theorem rd_sgs {H : Type} {enc : TypeId × Value → H} {W : World} {base : Nat} {spare : Nat → Bool} {held : Bool} {fuel : Nat} {cs : List Value} {d : DataW H × List MemPlace} (hsp : ∀ b, spare b = true)
    (hf : DataW.trod enc Try.prog W base spare held fuel 50 cs = some d) :
    ∃ (v : Value) (l : List Sgt), cs = [v] ∧ Sl W 3 v l.length (l.flatMap sgtL) ∧ (Light Try.prog 50 d.1 → l.length * 24 ≤ 140737488351232) := by
  obtain ⟨v', xs, hv, hs, hl, _⟩ := rd_slice sgtL (fun _ _ => True) 3 (by decide) hsp Try.underlying50 kR sgtL_length (fun m cs' y hy => by
    obtain ⟨x, hx⟩ := rd_sg hy
    exact ⟨x, hx, trivial⟩) hf
  refine ⟨v', xs, hv, hs, fun hlt => ?_⟩
  have h2 := hl hlt
  have h24 : Try.prog.bytesOf 101 = 24 := by kernel_rfl
  rw [h24] at h2
  simpa [reachBytes] using h2
set_option maxRecDepth 100000 in
theorem open_rp {H : Type} {enc : TypeId × Value → H} {W : World} {base base2 : Nat} {spare : Nat → Bool} {held : Bool} {v : Value} {d : DataW H} {pl : List MemPlace} (hsp : ∀ b, spare b = true)
    (hok : Value.okWide Try.prog W .any base2 53 v) (h : DataW.Trod enc Try.prog W base spare held 53 v d pl) :
    ∃ (r : Rp) (vr vc : Value), v = .agg (rpL r vr vc).toArray ∧ Sl W 3 vr r.robots.length (r.robots.flatMap sgtL) ∧ Sl W 35 vc r.records.length (r.records.flatMap rcdL) ∧ (Light Try.prog 53 d → r.robots.length * 24 ≤ 140737488351232 ∧ r.records.length * 56 ≤ 140737488351232) := by
  obtain ⟨cs, fuel, rfl, hf⟩ := open_cells Try.underlying53 hok h
  obtain ⟨hl, hfd⟩ := rd_struct Try.underlying53 hf
  have hc : Try.prog.cellsOf 53 = 46 := by kernel_rfl
  have c8 : Try.prog.cellsOf 5 = 1 := by kernel_rfl
  have ce : Try.prog.cellsOf 24 = 1 := by kernel_rfl
  have c64 : Try.prog.cellsOf 32 = 1 := by kernel_rfl
  have c32 : Try.prog.cellsOf 33 = 1 := by kernel_rfl
  have ci : Try.prog.cellsOf 3 = 1 := by kernel_rfl
  have cs1 : Try.prog.cellsOf 50 = 1 := by kernel_rfl
  have cr1 : Try.prog.cellsOf 51 = 1 := by kernel_rfl
  have ct : Try.prog.cellsOf 36 = 36 := by kernel_rfl
  rw [hc] at hl
  obtain ⟨m0, y0, h0, _⟩ := hfd 0 _ rfl
  obtain ⟨m1, y1, h1, _⟩ := hfd 1 _ rfl
  obtain ⟨m2, y2, h2, _⟩ := hfd 2 _ rfl
  obtain ⟨m3, y3, h3, _⟩ := hfd 3 _ rfl
  obtain ⟨m4, y4, h4, _⟩ := hfd 4 _ rfl
  obtain ⟨m5, y5, h5, _⟩ := hfd 5 _ rfl
  obtain ⟨m6, y6, h6, lt6⟩ := hfd 6 _ rfl
  obtain ⟨m7, y7, h7, _⟩ := hfd 7 _ rfl
  obtain ⟨m8, y8, h8, _⟩ := hfd 8 _ rfl
  obtain ⟨m9, y9, h9, lt9⟩ := hfd 9 _ rfl
  obtain ⟨m10, y10, h10, _⟩ := hfd 10 _ rfl
  simp only [List.getElem_toArray, List.getElem_cons_zero, List.getElem_cons_succ] at h0 h1 h2 h3 h4 h5 h6 h7 h8 h9 h10 lt6 lt9
  rw [c8] at h0 h4
  rw [ce] at h1
  rw [c64] at h2 h5
  rw [ci] at h3 h7
  rw [cs1] at h6
  rw [c32] at h8
  rw [cr1] at h9
  rw [ct] at h10
  obtain ⟨z0, hz0, _, hw0⟩ := DataW.trod_int Try.underlying5 h0
  obtain ⟨z1, hz1, _, hw1⟩ := DataW.trod_int Try.underlying24 h1
  obtain ⟨z2, hz2, _, hw2⟩ := DataW.trod_int Try.underlying32 h2
  obtain ⟨z3, hz3, _, hw3⟩ := DataW.trod_int Try.underlying3 h3
  obtain ⟨z4, hz4, _, hw4⟩ := DataW.trod_int Try.underlying5 h4
  obtain ⟨z5, hz5, _, hw5⟩ := DataW.trod_int Try.underlying32 h5
  obtain ⟨vr, l, hvr, hs, hwt⟩ := rd_sgs hsp h6
  obtain ⟨z7, hz7, _, hw7⟩ := DataW.trod_int Try.underlying3 h7
  obtain ⟨z8, hz8, _, hw8⟩ := DataW.trod_int Try.underlying33 h8
  obtain ⟨vc, m, hvc, hr, hwt2⟩ := rd_recs hsp h9
  obtain ⟨tk, htk⟩ := rd_tok h10
  have b0 := bounds_u8 hw0
  have b1 := bounds_i64 hw1
  have b2 := bounds_u64 hw2
  have b3 := bounds_i64 hw3
  have b4 := bounds_u8 hw4
  have b5 := bounds_u64 hw5
  have b7 := bounds_i64 hw7
  have b8 := bounds_u32 hw8
  refine ⟨⟨UInt8.ofNat z0.toNat, ⟨z1, b1⟩, UInt64.ofNat z2.toNat, ⟨z3, b3⟩, UInt8.ofNat z4.toNat, UInt64.ofNat z5.toNat, l, ⟨z7, b7⟩, UInt32.ofNat z8.toNat, m, tk⟩, vr, vc, ?_, hs, hr, fun hlt => ⟨hwt (lt6 hlt), hwt2 (lt9 hlt)⟩⟩
  have e2 : cs.drop (10 + 36) = [] := List.drop_of_length_le (by omega)
  have e0 : cs = cs.drop 0 := rfl
  rw [e0, drop_splitT cs 0 1, hz0, drop_splitT cs (0 + 1) 1, hz1, drop_splitT cs (0 + 1 + 1) 1, hz2, drop_splitT cs (0 + 1 + 1 + 1) 1, hz3, drop_splitT cs (0 + 1 + 1 + 1 + 1) 1, hz4, drop_splitT cs (0 + 1 + 1 + 1 + 1 + 1) 1, hz5, drop_splitT cs (0 + 1 + 1 + 1 + 1 + 1 + 1) 1, hvr, drop_splitT cs (0 + 1 + 1 + 1 + 1 + 1 + 1 + 1) 1, hz7, drop_splitT cs (0 + 1 + 1 + 1 + 1 + 1 + 1 + 1 + 1) 1, hz8, drop_splitT cs (0 + 1 + 1 + 1 + 1 + 1 + 1 + 1 + 1 + 1) 1, hvc, drop_splitT cs (0 + 1 + 1 + 1 + 1 + 1 + 1 + 1 + 1 + 1 + 1) 36, htk, e2]
  simp only [rpL, List.cons_append, List.nil_append, List.append_nil, UInt64.toNat_ofNat', UInt8.toNat_ofNat', UInt32.toNat_ofNat', Value.agg.injEq, List.cons.injEq, Value.int.injEq, true_and, and_true, Array.mk.injEq]
  refine ⟨by omega, by omega, by omega, by omega, by omega⟩
end Go.Proofs.Ytfhkmmagpnojmaa
