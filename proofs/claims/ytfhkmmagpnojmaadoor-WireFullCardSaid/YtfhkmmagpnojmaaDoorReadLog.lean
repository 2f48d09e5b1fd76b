/- How a log that came in reads. No condition. -/
import Derived.Test.YtfhkmmagpnojmaaDoorBd
import Derived.Test.YtfhkmmagpnojmaaDoorReadRec
import Derived.Test.YtfhkmmagpnojmaaDoorLgP
set_option linter.unusedSimpArgs false
set_option linter.unusedVariables false
namespace Go.Proofs.YtfhkmmagpnojmaaDoor
open Go.ChangeShapes Go.WideShapes Go.ChangeAt Go.RowKit Go.Deep

set_option maxRecDepth 100000 in
theorem open_log {H : Type} {enc : TypeId × Value → H} {W : World} {base base2 : Nat} {spare : Nat → Bool} {held : Bool} {v : Value} {d : DataW H} {pl : List MemPlace} (hsp : ∀ b, spare b = true)
    (hok : Value.okWide Tryd.prog W .any base2 40 v) (h : DataW.Trod enc Tryd.prog W base spare held 40 v d pl) :
    ∃ (g : Lg) (rv : Value), v = .agg (lgL g rv).toArray ∧ Sl W 35 rv g.recs.length (g.recs.flatMap rcdL) ∧ (Light Tryd.prog 40 d → g.recs.length * 56 ≤ 140737488351232) := by
  obtain ⟨cs, fuel, rfl, hf⟩ := open_cells Tryd.underlying40 hok h
  obtain ⟨hl, hfd⟩ := rd_struct Tryd.underlying40 hf
  have hc : Tryd.prog.cellsOf 40 = 34 := by kernel_rfl
  have hc0 : Tryd.prog.cellsOf 38 = 1 := by kernel_rfl
  have hc1 : Tryd.prog.cellsOf 22 = 32 := by kernel_rfl
  have hc2 : Tryd.prog.cellsOf 31 = 1 := by kernel_rfl
  rw [hc] at hl
  obtain ⟨m0, y0, h0, _⟩ := hfd 0 _ rfl
  obtain ⟨m1, y1, h1, _⟩ := hfd 1 _ rfl
  obtain ⟨m2, y2, h2, lt2⟩ := hfd 2 _ rfl
  simp only [List.getElem_toArray, List.getElem_cons_zero, List.getElem_cons_succ] at h0 h1 h2 lt2
  rw [hc0] at h0
  rw [hc1] at h1
  rw [hc2] at h2
  obtain ⟨z0, hz0, _, hw0⟩ := DataW.trod_int Tryd.underlying38 h0
  obtain ⟨D, hD, hd⟩ := rd_u8s Tryd.underlying22 Tryd.underlying5 kR kR h1
  obtain ⟨rv, l, hrv, hs, hw⟩ := rd_recs hsp h2
  have b0 := bounds_u32 hw0
  refine ⟨⟨UInt32.ofNat z0.toNat, D, l, hD⟩, rv, ?_, hs, fun hlt => hw (lt2 hlt)⟩
  have e2 : cs.drop (33 + 1) = [] := List.drop_of_length_le (by omega)
  have e0 : cs = cs.drop 0 := rfl
  rw [e0, drop_splitT cs 0 1, hz0, drop_splitT cs (0 + 1) 32, hd, drop_splitT cs (0 + 1 + 32) 1, hrv, e2]
  simp only [lgL, List.cons_append, List.nil_append, List.append_nil, Value.agg.injEq, List.cons.injEq, Value.int.injEq, true_and, UInt32.toNat_ofNat', and_true, Array.mk.injEq]
  omega
end Go.Proofs.YtfhkmmagpnojmaaDoor
