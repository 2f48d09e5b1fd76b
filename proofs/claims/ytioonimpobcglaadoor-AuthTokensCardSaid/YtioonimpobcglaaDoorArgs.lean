/- How an argument that came in reads, as the walks of this seat want it: bytes (with the form's own reach), numbers. No condition. -/
import Derived.Test.YtioonimpobcglaaDoorOwn
import Derived.ProofKit
import Derived.OpenShut
import Derived.ShutString
import Derived.ChangeOld
import Derived.SizedLaws
set_option linter.unusedSimpArgs false
set_option linter.unusedVariables false
namespace Go.Proofs.YtioonimpobcglaaDoor
open Go.ChangeShapes Go.WideShapes Go.ChangeAt Go.RowKit

def reach : Nat := 140737488351232

theorem toBytes (zs : List Int) (h : ∀ n ∈ zs, (Lit.int .u8 n).wf = true) : zs.map (Value.int .u8) = (zs.map fun n => UInt8.ofNat n.toNat).map by8 := by
  rw [List.map_map]
  apply List.map_congr_left
  intro n hn
  have := bounds_u8 (h n hn)
  simp only [Function.comp, by8, Value.int.injEq, true_and, UInt8.toNat_ofNat']
  omega

theorem open_bytes {H : Type} {enc : TypeId × Value → H} {P : Program} {W : World} {base base2 : Nat} {held : Bool} {t e : TypeId} {v : Value} {d : DataW H} {ps : List MemPlace}
    (ht : P.underlying t = some (.slice e)) (he : P.underlying e = some (.int .u8)) (hc : P.cellsOf e = 1) (hby : P.bytesOf e = 1) (hok : Value.okWide P W .any base2 t v) (h : DataW.Trod enc P W base (fun _ => true) held t v d ps) :
    ∃ xs : List UInt8, Bs W v xs ∧ ∀ (ts : List TypeId) (ds : List (DataW H)) (j : Nat), (DataW.weightsEach P ts ds).all (· ≤ reachBytes) = true → ts[j]? = some t → ds[j]? = some d → xs.length ≤ reach := by
  obtain ⟨a0, len0, cap0, rfl⟩ := okWide_slice ht hok
  obtain ⟨fuel, hf⟩ := h
  rcases open_ints ht he hc hf with ⟨hcs, _⟩ | ⟨x, l, c, zs, hcs, _, hl, hm, hz, hd, hcell, hwz⟩
  · simp [Value.cells] at hcs
    obtain ⟨rfl, rfl, rfl⟩ := hcs
    exact ⟨[], Bs.mk0 _ _, fun _ _ _ _ _ _ => by simp⟩
  · simp [Value.cells] at hcs
    obtain ⟨rfl, rfl, rfl⟩ := hcs
    simp only [Prod.mk.injEq] at hd
    have hlen : len0 ≤ zs.length := by rw [hz]; split <;> omega
    have hwz' : ∀ n ∈ zs.take len0, (Lit.int .u8 n).wf = true := fun n hn => hwz n (List.mem_of_mem_take hn)
    refine ⟨(zs.take len0).map fun n => UInt8.ofNat n.toNat, ?_, ?_⟩
    · have e1 : ((zs.take len0).map fun n => UInt8.ofNat n.toNat).length = len0 := by simp; omega
      unfold Bs
      rw [e1, ← toBytes _ hwz']
      refine ⟨by simp; omega, ?_⟩
      by_cases h0 : len0 = 0 ∧ cap0 = 0
      · exact .inl ⟨some x, by rw [h0.1, h0.2], h0.1⟩
      · have hzc : zs.length = cap0 := by simpa using hz
        have hsp := World.cell?_spot (hcell 0 (by omega))
        obtain ⟨b, off, sp⟩ := x
        have hsp' : sp = none := by simpa [Addr.add] using hsp
        subst hsp'
        refine .inr ⟨b, off, cap0, rfl, hl, hm, fun i hi => ?_⟩
        have hi' : i < len0 := by simp at hi; omega
        have := hcell i (by omega)
        have hadd : (⟨b, off, none⟩ : Addr).add i = ⟨b, off + i, none⟩ := by unfold Addr.add; split <;> simp_all
        rw [hadd] at this
        rw [this]
        have hiz : i < zs.length := by omega
        simp [List.getD, hiz]
    · intro ts ds j hw htj hdj
      have hd1 : d = .slice (lits .u8 (zs.take len0)) (lits .u8 (zs.drop len0)) := hd.1
      rw [hd1] at hdj
      have := sized_slice hw htj hdj ht
      rw [hby] at this
      simp only [lits, List.length_map, List.length_take, List.length_drop, reachBytes] at this
      simp only [List.length_map, List.length_take, reach]
      omega
end Go.Proofs.YtioonimpobcglaaDoor
