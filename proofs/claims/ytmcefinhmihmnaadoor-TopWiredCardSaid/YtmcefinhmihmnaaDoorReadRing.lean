/- How a ring that came in reads. No condition. -/
import Derived.Test.YtmcefinhmihmnaaDoorBd
import Derived.Test.YtmcefinhmihmnaaDoorBa
import Derived.Test.YtmcefinhmihmnaaDoorBf
set_option linter.unusedSimpArgs false
set_option linter.unusedVariables false
namespace Go.Proofs.YtmcefinhmihmnaaDoor
open Go.ChangeShapes Go.WideShapes Go.ChangeAt Go.RowKit Go.Deep

theorem drop_splitR (cs : List Value) (k n : Nat) : cs.drop k = (cs.drop k).take n ++ cs.drop (k + n) := by
  rw [← List.drop_drop, List.take_append_drop]

set_option maxRecDepth 100000 in
theorem open_ring {H : Type} {enc : TypeId × Value → H} {W : World} {base base2 : Nat} {spare : Nat → Bool} {held : Bool} {v : Value} {d : DataW H} {pl : List MemPlace} (hsp : ∀ b, spare b = true)
    (hok : Value.okWide Tryd.prog W .any base2 22 v) (h : DataW.Trod enc Tryd.prog W base spare held 22 v d pl) :
    ∃ l : List Mnt, Rg W v l ∧ (Light Tryd.prog 22 d → l.length * 24 ≤ 140737488351232) := by
  obtain ⟨fuel, hf⟩ := open_slice1 Tryd.underlying22 hok h
  obtain ⟨v', xs, hv, hs, hl, _⟩ := rd_slice mintL (fun _ _ => True) 3 (by decide) hsp Tryd.underlying22 kR mintL_length (fun m cs' y hy => by
    obtain ⟨hl, hfd⟩ := rd_struct Tryd.underlying44 hy
    have hc : Tryd.prog.cellsOf 44 = 3 := by kernel_rfl
    have hc1 : Tryd.prog.cellsOf 25 = 1 := by kernel_rfl
    have hc2 : Tryd.prog.cellsOf 5 = 1 := by kernel_rfl
    have hc3 : Tryd.prog.cellsOf 4 = 1 := by kernel_rfl
    rw [hc] at hl
    obtain ⟨m0, y0, h0, _⟩ := hfd 0 _ rfl
    obtain ⟨m1, y1, h1, _⟩ := hfd 1 _ rfl
    obtain ⟨m2, y2, h2, _⟩ := hfd 2 _ rfl
    simp only [List.getElem_toArray, List.getElem_cons_zero, List.getElem_cons_succ] at h0 h1 h2
    rw [hc2] at h0
    rw [hc1] at h1
    rw [hc3] at h2
    obtain ⟨z0, hz0, _, hw0⟩ := DataW.trod_int Tryd.underlying5 h0
    obtain ⟨z1, hz1, _, hw1⟩ := DataW.trod_int Tryd.underlying25 h1
    obtain ⟨z2, hz2, _⟩ := DataW.trod_bool Tryd.underlying4 h2
    have b0 := bounds_u8 hw0
    have b1 := bounds_u64 hw1
    refine ⟨⟨UInt8.ofNat z0.toNat, UInt64.ofNat z1.toNat, z2⟩, ?_, trivial⟩
    have e2 : cs'.drop (2 + 1) = [] := List.drop_of_length_le (by omega)
    have e0 : cs' = cs'.drop 0 := rfl
    rw [e0, drop_splitR cs' 0 1, hz0, drop_splitR cs' (0 + 1) 1, hz1, drop_splitR cs' (0 + 1 + 1) 1, hz2, e2]
    simp only [mintL, List.cons_append, List.nil_append, List.cons.injEq, Value.int.injEq, true_and, UInt64.toNat_ofNat', UInt8.toNat_ofNat', and_true]
    omega) hf
  obtain rfl : v = v' := by simpa using hv
  refine ⟨xs, hs, fun hlt => ?_⟩
  have h2 := hl hlt
  have h24 : Tryd.prog.bytesOf 44 = 24 := by kernel_rfl
  rw [h24] at h2
  simpa [reachBytes] using h2
end Go.Proofs.YtmcefinhmihmnaaDoor
