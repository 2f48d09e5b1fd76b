/- How a hash that came in reads. No condition. -/
import Derived.Test.YthdhnpejakljkaaDoorRead
import Derived.Test.YthdhnpejakljkaaDoorStart
import Derived.Test.YthdhnpejakljkaaDoorLaid
set_option linter.unusedSimpArgs false
set_option linter.unusedVariables false
namespace Go.Proofs.YthdhnpejakljkaaDoor
open Go.ChangeShapes Go.WideShapes Go.ChangeAt Go.RowKit Go.Deep

theorem drop_split (cs : List Value) (k n : Nat) : cs.drop k = (cs.drop k).take n ++ cs.drop (k + n) := by
  rw [← List.drop_drop, List.take_append_drop]

set_option maxRecDepth 100000 in
theorem open_hash {H : Type} {enc : TypeId × Value → H} {W : World} {base base2 : Nat} {spare : Nat → Bool} {held : Bool} {v : Value} {d : DataW H} {ps : List MemPlace} (hsp : ∀ b, spare b = true)
    (hok : Value.okWide Tryd.prog W .any base2 30 v) (h : DataW.Trod enc Tryd.prog W base spare held 30 v d ps) :
    ∃ (s : St) (t : Value) (ts : List UInt8) (n : Nat), v = .agg (cellsH s t n) ∧ Bs W t ts ∧ n < 18446744073709551616 ∧ (Light Tryd.prog 30 d → ts.length ≤ 140737488351232) := by
  obtain ⟨cs, fuel, rfl, hf⟩ := open_cells Tryd.underlying30 hok h
  obtain ⟨hl, hfd⟩ := rd_struct Tryd.underlying30 hf
  have hc : Tryd.prog.cellsOf 30 = 10 := by kernel_rfl
  have hc8 : Tryd.prog.cellsOf 23 = 8 := by kernel_rfl
  have hc1 : Tryd.prog.cellsOf 27 = 1 := by kernel_rfl
  have hc2 : Tryd.prog.cellsOf 28 = 1 := by kernel_rfl
  rw [hc] at hl
  obtain ⟨m0, y0, h0, _⟩ := hfd 0 _ rfl
  obtain ⟨m1, y1, h1, l1⟩ := hfd 1 _ rfl
  obtain ⟨m2, y2, h2, _⟩ := hfd 2 _ rfl
  simp only [List.getElem_toArray, List.getElem_cons_zero, List.getElem_cons_succ] at h0 h1 h2 l1
  rw [hc8] at h0
  rw [hc1] at h1
  rw [hc2] at h2
  obtain ⟨xs, hxl, hx⟩ := rd_arr (α := UInt32) U32 Tryd.underlying23 (by kernel_rfl) (by kernel_rfl) (fun m cs' y hy => by
    obtain ⟨z, rfl, _, hw⟩ := DataW.trod_int Tryd.underlying22 hy
    have := bounds_u32 hw
    refine ⟨UInt32.ofNat z.toNat, ?_⟩
    simp only [U32, List.cons.injEq, Value.int.injEq, true_and, UInt32.toNat_ofNat', and_true]
    omega) h0
  obtain ⟨t, ts, ht, hts, htl⟩ := rd_bytes hsp Tryd.underlying27 Tryd.underlying5 (by kernel_rfl) (by kernel_rfl) h1
  obtain ⟨z, hz, _, hw⟩ := DataW.trod_int Tryd.underlying28 h2
  have hb := bounds_u64 hw
  obtain ⟨n, rfl⟩ := Int.eq_ofNat_of_zero_le hb.1
  refine ⟨St.of xs, t, ts, n, ?_, hts, by omega, fun hlt => htl (l1 hlt)⟩
  have e : cs = xs.map U32 ++ ([t] ++ ([.int .u64 (n : Int)] ++ [])) := by
    have e3 : cs.drop (9 + 1) = [] := List.drop_of_length_le (by omega)
    have e0 : cs = cs.drop 0 := rfl
    rw [e0, drop_split cs 0 8, hx, drop_split cs (0 + 8) 1, ht, drop_split cs (0 + 8 + 1) 1, hz, e3]
  rw [e]
  congr 1
  match xs, hxl with
  | [_, _, _, _, _, _, _, _], _ => rfl
end Go.Proofs.YthdhnpejakljkaaDoor
