/- What the rows' lists of variables give where the permissions stand on them, and a world that meets them. No condition. -/
import Derived.Test.YtmcefinhmihmnaaDoorBd
import Derived.Test.YtmcefinhmihmnaaDoorLaid
import Derived.Test.YtmcefinhmihmnaaDoorPerm
import Derived.LaidMore
set_option linter.unusedSimpArgs false
set_option linter.unusedVariables false
namespace Go.Proofs.YtmcefinhmihmnaaDoor
open Go.ChangeShapes Go.WideShapes Go.ChangeAt Go.RowKit

namespace Laid
theorem gPerm : Tryd.prog.globalNamed "dunnage/auth.permissions" = some 0 := by kernel_rfl
theorem gPermType : (Tryd.prog.globals[0]?).map (·.type) = some 86 := by kernel_rfl

def bytesD (bs : List UInt8) : DataW Unit := .slice (bs.map fun b => .lit (.int .u8 (b.toNat : Int))) []

theorem bytes_of_laid {P : Program} {W : World} {t e : TypeId} {fuel : Nat} {cell : Value} {bs : List UInt8} {p : List MemPlace} (ht : P.underlying t = some (.slice e)) (he : P.underlying e = some (.int .u8)) (hc : P.cellsOf e = 1)
    (h : DataW.trod (fun _ => ()) P W 0 (fun _ => true) false fuel t [cell] = some (bytesD bs, p)) : Bs W cell bs := by
  obtain ⟨a, cap, hcs, hcap, hel⟩ := open_row ht hc h
  have hcap2 : cap = bs.length ∧ cap ≤ maxLen := by
    rcases DataW.trod_slice ht h with ⟨_, hx⟩ | ⟨a', len, cap', elems, rest, n, _, hcs', hx, _, hl, hm, hlen, _, hsp, _⟩
    · simp [bytesD] at hx
    · rw [hcs] at hcs'
      simp only [List.cons.injEq, Value.slice.injEq, and_true] at hcs'
      obtain ⟨_, h2, rfl⟩ := hcs'
      simp only [bytesD, Prod.mk.injEq, DataW.slice.injEq] at hx
      have hr : rest.length = 0 := by have := congrArg List.length hx.1.2; simpa using this.symm
      have := (hsp rfl).1
      simp at h2
      exact ⟨by omega, hm⟩
  simp only [List.length_map, List.cons.injEq, and_true] at hcs hcap
  subst hcs
  obtain ⟨rfl, hm⟩ := hcap2
  have hcell : ∀ (i : Nat) (b : UInt8), bs[i]? = some b → W.cell? (a.add i) = some (by8 b) := by
    intro i b hb
    obtain ⟨v, n, q, h1, h2⟩ := hel i (.lit (.int .u8 (b.toNat : Int))) (by rw [List.getElem?_map, hb]; rfl)
    obtain ⟨z, hz, hx, _⟩ := DataW.trod_int he h2
    simp only [List.cons.injEq, and_true] at hz
    simp only [Prod.mk.injEq, DataW.lit.injEq, Lit.int.injEq, true_and] at hx
    rw [h1, hz, ← hx.1]
    try rfl
  match bs, hm, hcell with
  | [], _, _ => exact Bs.mk0 _ _
  | b :: r, hm, hcell =>
    have h0 := hcell 0 b rfl
    have hs := World.cell?_spot h0
    obtain ⟨k, off, sp⟩ := a
    have hsp : sp = none := by simpa [Addr.add] using hs
    subst hsp
    exact Bs.mk (Nat.le_refl _) hm fun i hi => by
      have h := hcell i _ (List.getElem?_eq_getElem hi)
      rw [show (⟨k, off, none⟩ : Addr).add i = ⟨k, off + i, none⟩ by simp [Addr.add]] at h
      exact h

theorem perm_eq : (Rows.laid_dunnage_auth_permissions : DataW Unit) = .agg [bytesD (permL 0), bytesD (permL 1), bytesD (permL 2), bytesD (permL 3)] := by kernel_rfl

theorem perm_of_laid {W : World} {rest : List (String × DataW Unit)} (h : laidMet Tryd.prog (("dunnage/auth.permissions", Rows.laid_dunnage_auth_permissions) :: rest) W) : PT W := by
  rw [perm_eq] at h
  obtain ⟨ps, ⟨g', t', cs, fuel, p, q, hg', ht', hvar, hd, _, _⟩, _⟩ := h
  obtain rfl := Option.some.inj (gPerm.symm.trans hg')
  obtain rfl := Option.some.inj (gPermType.symm.trans ht')
  have hce : Tryd.prog.cellsOf 23 = 1 := by kernel_rfl
  have hct : Tryd.prog.cellsOf 86 = 4 := by kernel_rfl
  obtain ⟨xs, m, _, hx, hl, hxl, hi⟩ := DataW.trod_array Tryd.underlying86 hd
  rw [hct] at hl
  simp only [Prod.mk.injEq, DataW.agg.injEq] at hx
  unfold World.var? at hvar
  rw [gPerm] at hvar
  simp only [Option.bind_some] at hvar
  cases hq : W.heap[0]? with
  | none => rw [hq] at hvar; cases hvar
  | some o =>
    rw [hq] at hvar
    cases o with
    | cells cs' t f =>
      simp only [Option.some.injEq] at hvar
      subst hvar
      refine ⟨fun i => cs'.toList.getD i undef, fun i h4 => ?_⟩
      have hlt : i < cs'.toList.length := by omega
      have hci : cs'.toList[i]? = some (cs'.toList.getD i undef) := by rw [List.getD_eq_getElem?_getD, List.getElem?_eq_getElem hlt]; rfl
      refine ⟨?_, ?_⟩
      · rw [cell_of_row W _ i _ t f hq, ← Array.getElem?_toList]
        exact hci
      · have h1 := hi i h4
        rw [hce, Nat.mul_one] at h1
        have h2 : (cs'.toList.drop i).take 1 = [cs'.toList.getD i undef] := by
          rw [List.drop_eq_getElem_cons hlt, List.take_succ_cons, List.take_zero, List.getD_eq_getElem?_getD, List.getElem?_eq_getElem hlt]; rfl
        rw [h2] at h1
        have hxi : xs[i]? = some (xs[i]'(by omega)) := List.getElem?_eq_getElem (by omega)
        rw [hxi] at h1
        have hd1 : (xs[i]'(by omega)).1 = bytesD (permL i) := by
          have h3 : (xs.map (·.1))[i]? = some (xs[i]'(by omega)).1 := by rw [List.getElem?_map, hxi]; rfl
          rw [← hx.1] at h3
          obtain rfl | rfl | rfl | rfl : i = 0 ∨ i = 1 ∨ i = 2 ∨ i = 3 := by omega
          all_goals exact (Option.some.inj h3).symm
        have h5 : xs[i]'(by omega) = (bytesD (permL i), (xs[i]'(by omega)).2) := by rw [← hd1]
        rw [h5] at h1
        exact bytes_of_laid Tryd.underlying23 Tryd.underlying5 kR h1
    | _ => cases hvar

def list_auth : List (String × DataW Unit) := [("dunnage/digest.constants", Rows.laid_dunnage_digest_constants), ("dunnage/auth.permissions", Rows.laid_dunnage_auth_permissions)]

theorem table_auth {W : World} (h : laidMetH Tryd.prog list_auth W) : KT W ∧ PT W := by
  have h1 : laidMet Tryd.prog [("dunnage/digest.constants", Rows.laid_dunnage_digest_constants), ("dunnage/auth.permissions", Rows.laid_dunnage_auth_permissions)] W := h
  constructor
  · rw [tab_eq] at h1
    have h2 := Lib.tabIs_of_head gTab gTabType Tryd.underlying123 Tryd.underlying31 cellsE cellsT h1
    unfold Lib.TabIs at h2
    rw [kInts_eq] at h2
    exact KT.of_var h2
  · obtain ⟨ps, ⟨g', t', cs, fuel, p, q, _, _, _, _, hq, rfl⟩, hnd, hrows⟩ := h1
    exact perm_of_laid ⟨q, hq, List.Nodup.sublist (List.sublist_append_right _ _) hnd, fun b off hm => hrows b off (List.mem_append_right _ hm)⟩

noncomputable def heap_auth (h : Array Obj) : Array Obj :=
  ((h.modify 1 fun
      | .cells _ t frozen => .cells (kTab.map U32).toArray t frozen
      | o => o).modify 0 fun
      | .cells _ t frozen => .cells #[.slice (some ⟨h.size, 0, none⟩) 0 0, .slice (some ⟨h.size + 1, 0, none⟩) 3 3, .slice (some ⟨h.size + 2, 0, none⟩) 5 5, .slice (some ⟨h.size + 3, 0, none⟩) 6 6] t frozen
      | o => o) ++ #[.cells #[] 5, .cells (arr8 (permL 1)) 5, .cells (arr8 (permL 2)) 5, .cells (arr8 (permL 3)) 5]

noncomputable def world_auth (os : Os) : World :=
  { World.holding Tryd.prog os ⟨#[], #[], []⟩ with heap := heap_auth (World.holding Tryd.prog os ⟨#[], #[], []⟩).heap }
end Laid
end Go.Proofs.YtmcefinhmihmnaaDoor
