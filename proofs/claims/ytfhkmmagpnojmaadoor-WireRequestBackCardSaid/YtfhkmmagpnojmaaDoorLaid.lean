/- What the rows' lists of variables give, a world that meets them, and how arrays that came in read. No condition. -/
import Derived.Test.YtfhkmmagpnojmaaDoorRows
import Derived.Test.YtfhkmmagpnojmaaDoorBb
import Derived.Test.YtfhkmmagpnojmaaDoorBa
import Derived.Deep.DeepHandedRow
import Derived.Lib.LaidTab
import Derived.SevenTiedAt
set_option linter.unusedSimpArgs false
set_option linter.unusedVariables false
namespace Go.Proofs.YtfhkmmagpnojmaaDoor
open Go.ChangeShapes Go.WideShapes Go.ChangeAt Go.RowKit

namespace Laid
theorem gTab : Tryd.prog.globalNamed "dunnage/digest.constants" = some 0 := by kernel_rfl
theorem gTabType : (Tryd.prog.globals[0]?).map (·.type) = some 178 := by kernel_rfl
theorem cellsT : Tryd.prog.cellsOf 178 = 64 := by kernel_rfl
theorem cellsE : Tryd.prog.cellsOf 38 = 1 := by kernel_rfl

def kInts : List Int := kTab.map fun x => (x.toNat : Int)
theorem kInts_eq : kInts.map (fun z => Value.int .u32 z) = kTab.map U32 := by
  unfold kInts
  rw [List.map_map]
  rfl

theorem tab_eq : (Rows.laid_dunnage_digest_constants : DataW Unit) = Lib.tabData .u32 kInts := by kernel_rfl

def list_digest : List (String × DataW Unit) := [("dunnage/digest.constants", Rows.laid_dunnage_digest_constants)]

theorem table_digest {W : World} (h : laidMetH Tryd.prog list_digest W) : KT W := by
  have h1 : laidMet Tryd.prog [("dunnage/digest.constants", Rows.laid_dunnage_digest_constants)] W := h
  rw [tab_eq] at h1
  have h2 := Lib.tabIs_of_head (rest := []) gTab gTabType Tryd.underlying178 Tryd.underlying38 cellsE cellsT h1
  unfold Lib.TabIs at h2
  rw [kInts_eq] at h2
  exact KT.of_var h2

noncomputable def world_digest (os : Os) : World :=
  { World.holding Tryd.prog os ⟨#[], #[], []⟩ with heap := (World.holding Tryd.prog os ⟨#[], #[], []⟩).heap.modify 0 fun
      | .cells _ t frozen => .cells (kTab.map U32).toArray t frozen
      | o => o }
end Laid

theorem okWide_array {P : Program} {w : World} {r : Reach} {base n : Nat} {t e : TypeId} {v : Value} (ht : P.underlying t = some (.array n e)) (h : Value.okWide P w r base t v) : ∃ cs, v = .agg cs ∧ cs.size = P.cellsOf t := by
  unfold Value.okWide at h
  rw [ht] at h
  obtain ⟨cs, rfl, hs, _⟩ := h
  exact ⟨cs, rfl, hs⟩

theorem open_arr {H : Type} {enc : TypeId × Value → H} {P : Program} {W : World} {base base2 n : Nat} {sp : Nat → Bool} {held : Bool} {t e : TypeId} {k : IntKind} {v : Value} {d : DataW H} {ps : List MemPlace}
    (ht : P.underlying t = some (.array n e)) (he : P.underlying e = some (.int k)) (hce : P.cellsOf e = 1) (hct : P.cellsOf t = n) (hok : Value.okWide P W .any base2 t v) (h : DataW.Trod enc P W base sp held t v d ps) :
    ∃ zs : List Int, zs.length = n ∧ v = .agg (zs.map (Value.int k)).toArray ∧ ∀ z ∈ zs, (Lit.int k z).wf = true := by
  obtain ⟨cs, rfl, hs⟩ := okWide_array ht hok
  obtain ⟨fuel, hf⟩ := h
  have hf' : DataW.trod enc P W base sp held fuel t cs.toList = some (d, ps) := by simpa [Value.cells] using hf
  obtain ⟨xs, m, _, _, hl, hx, hi⟩ := DataW.trod_array ht hf'
  rw [hct] at hl
  have each : ∀ i, i < n → ∃ z, cs.toList[i]? = some (.int k z) ∧ (Lit.int k z).wf = true := fun i hin => by
    have h1 := hi i hin
    rw [hce] at h1
    have hxi : xs[i]? = some (xs[i]'(by omega)) := List.getElem?_eq_getElem (by omega)
    rw [hxi] at h1
    obtain ⟨z, hz, _, hw⟩ := DataW.trod_int he h1
    refine ⟨z, ?_, hw⟩
    have := congrArg (·[0]?) hz
    simpa [List.getElem?_take, List.getElem?_drop] using this
  refine ⟨cs.toList.map (fun v => match v with | .int _ z => z | _ => 0), by simpa using hl, ?_, ?_⟩
  · congr 1
    apply Array.ext'
    apply List.ext_getElem?
    intro i
    simp only [List.map_map, List.getElem?_map]
    by_cases hin : i < n
    · obtain ⟨z, hz, _⟩ := each i hin
      simp [hz]
    · rw [List.getElem?_eq_none (by omega)]
      simp
  · intro z hz
    obtain ⟨v, hv, rfl⟩ := List.mem_map.1 hz
    obtain ⟨i, hi'⟩ := List.getElem?_of_mem hv
    have hin : i < n := by
      rcases Nat.lt_or_ge i n with h | h
      · exact h
      · rw [List.getElem?_eq_none (by omega)] at hi'; cases hi'
    obtain ⟨z', hz', hw⟩ := each i hin
    rw [hi'] at hz'
    obtain rfl := Option.some.inj hz'
    exact hw

theorem open_barr {H : Type} {enc : TypeId × Value → H} {P : Program} {W : World} {base base2 n : Nat} {sp : Nat → Bool} {held : Bool} {t e : TypeId} {v : Value} {d : DataW H} {ps : List MemPlace}
    (ht : P.underlying t = some (.array n e)) (he : P.underlying e = some (.int .u8)) (hce : P.cellsOf e = 1) (hct : P.cellsOf t = n) (hok : Value.okWide P W .any base2 t v) (h : DataW.Trod enc P W base sp held t v d ps) :
    ∃ xs : List UInt8, xs.length = n ∧ v = .agg (xs.map by8).toArray := by
  obtain ⟨zs, hl, rfl, hw⟩ := open_arr ht he hce hct hok h
  exact ⟨zs.map fun n => UInt8.ofNat n.toNat, by simpa using hl, by rw [toBytes zs hw]⟩

theorem open_words {H : Type} {enc : TypeId × Value → H} {P : Program} {W : World} {base base2 n : Nat} {sp : Nat → Bool} {held : Bool} {t e : TypeId} {v : Value} {d : DataW H} {ps : List MemPlace}
    (ht : P.underlying t = some (.array n e)) (he : P.underlying e = some (.int .u32)) (hce : P.cellsOf e = 1) (hct : P.cellsOf t = n) (hok : Value.okWide P W .any base2 t v) (h : DataW.Trod enc P W base sp held t v d ps) :
    ∃ xs : List UInt32, xs.length = n ∧ v = .agg (xs.map U32).toArray := by
  obtain ⟨zs, hl, rfl, hw⟩ := open_arr ht he hce hct hok h
  refine ⟨zs.map fun n => UInt32.ofNat n.toNat, by simpa using hl, ?_⟩
  rw [List.map_map]
  congr 2
  apply List.map_congr_left
  intro z hz
  have := bounds_u32 (hw z hz)
  simp only [Function.comp, U32, Value.int.injEq, true_and, UInt32.toNat_ofNat']
  omega

theorem words_state (xs : List UInt32) (h : xs.length = 8) : (xs.map U32).toArray = #[U32 (St.of xs).a, U32 (St.of xs).b, U32 (St.of xs).c, U32 (St.of xs).d, U32 (St.of xs).e, U32 (St.of xs).f, U32 (St.of xs).g, U32 (St.of xs).h] := by
  match xs, h with
  | [_, _, _, _, _, _, _, _], _ => rfl
end Go.Proofs.YtfhkmmagpnojmaaDoor
