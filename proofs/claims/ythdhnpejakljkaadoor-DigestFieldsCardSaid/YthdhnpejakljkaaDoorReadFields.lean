/- How a slice of fields that came in reads. No condition. -/
import Derived.Test.YthdhnpejakljkaaDoorReadHash
import Derived.Test.YthdhnpejakljkaaDoorFields
set_option linter.unusedSimpArgs false
set_option linter.unusedVariables false
namespace Go.Proofs.YthdhnpejakljkaaDoor
open Go.ChangeShapes Go.WideShapes Go.ChangeAt Go.RowKit Go.Deep

set_option maxRecDepth 100000 in
theorem open_fields {H : Type} {enc : TypeId × Value → H} {W : World} {base base2 : Nat} {spare : Nat → Bool} {held : Bool} {v : Value} {d : DataW H} {pl : List MemPlace} (hsp : ∀ b, spare b = true)
    (hok : Value.okWide Tryd.prog W .any base2 67 v) (h : DataW.Trod enc Tryd.prog W base spare held 67 v d pl) :
    ∃ l : List Fld, Sl W 2 v l.length (l.flatMap fldL) := by
  obtain ⟨fuel, hf⟩ := open_slice1 Tryd.underlying67 hok h
  obtain ⟨v', xs, hv, hs, _⟩ := rd_slice fldL (fun _ _ => True) 2 (by decide) hsp Tryd.underlying67 (by kernel_rfl) fldL_length (fun m cs' y hy => by
    obtain ⟨hl, hfd⟩ := rd_struct Tryd.underlying71 hy
    have hc : Tryd.prog.cellsOf 71 = 2 := by kernel_rfl
    have hc1 : Tryd.prog.cellsOf 28 = 1 := by kernel_rfl
    have hc2 : Tryd.prog.cellsOf 5 = 1 := by kernel_rfl
    rw [hc] at hl
    obtain ⟨m0, y0, h0, _⟩ := hfd 0 _ rfl
    obtain ⟨m1, y1, h1, _⟩ := hfd 1 _ rfl
    simp only [List.getElem_toArray, List.getElem_cons_zero, List.getElem_cons_succ] at h0 h1
    rw [hc1] at h0
    rw [hc2] at h1
    obtain ⟨z0, hz0, _, hw0⟩ := DataW.trod_int Tryd.underlying28 h0
    obtain ⟨z1, hz1, _, hw1⟩ := DataW.trod_int Tryd.underlying5 h1
    have b0 := bounds_u64 hw0
    have b1 := bounds_u8 hw1
    refine ⟨(UInt64.ofNat z0.toNat, UInt8.ofNat z1.toNat), ?_, trivial⟩
    have e2 : cs'.drop (1 + 1) = [] := List.drop_of_length_le (by omega)
    have e0 : cs' = cs'.drop 0 := rfl
    rw [e0, drop_split cs' 0 1, hz0, drop_split cs' (0 + 1) 1, hz1, e2]
    simp only [fldL, List.cons_append, List.nil_append, List.cons.injEq, Value.int.injEq, true_and, UInt64.toNat_ofNat', UInt8.toNat_ofNat', and_true]
    omega) hf
  obtain rfl : v = v' := by simpa using hv
  exact ⟨xs, hs⟩
end Go.Proofs.YthdhnpejakljkaaDoor
