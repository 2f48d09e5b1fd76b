/- What the rows' lists of variables give, a world that meets them, and how arrays that came in read. No condition. -/
import Derived.Test.YtfhkmmagpnojmaaDoorRows
import Derived.Test.YtfhkmmagpnojmaaDoorZBb
import Derived.Test.YtfhkmmagpnojmaaDoorZBa
import Derived.Deep.DeepHandedRow
import Derived.Lib.LaidTab
import Derived.SevenTiedAt
set_option linter.unusedSimpArgs false
set_option linter.unusedVariables false
namespace Go.Proofs.YtfhkmmagpnojmaaDoor
open Go.ChangeShapes Go.WideShapes Go.ChangeAt Go.RowKit

namespace Laid
theorem gTab : Tryd.prog.globalNamed "dunnage/digest.constants" = some 0 := by kernel_rfl
theorem gTabType : (Tryd.prog.globals[0]?).map (·.type) = some 178 := by kernel_rfl
theorem cellsT : Tryd.prog.cellsOf 178 = 64 := by kernel_rfl
theorem cellsE : Tryd.prog.cellsOf 38 = 1 := by kernel_rfl
def kInts : List Int := kTab.map fun x => (x.toNat : Int)
theorem kInts_eq : kInts.map (fun z => Value.int .u32 z) = kTab.map U32 := by
  unfold kInts
  rw [List.map_map]
  rfl
theorem tab_eq : (Rows.laid_dunnage_digest_constants : DataW Unit) = Lib.tabData .u32 kInts := by kernel_rfl
def list_digest : List (String × DataW Unit) := [("dunnage/digest.constants", Rows.laid_dunnage_digest_constants)]
theorem table_digest {W : World} (h : laidMetH Tryd.prog list_digest W) : KT W := by
  have h1 : laidMet Tryd.prog [("dunnage/digest.constants", Rows.laid_dunnage_digest_constants)] W := h
  rw [tab_eq] at h1
  have h2 := Lib.tabIs_of_head (rest := []) gTab gTabType Tryd.underlying178 Tryd.underlying38 cellsE cellsT h1
  unfold Lib.TabIs at h2
  rw [kInts_eq] at h2
  exact KT.of_var h2
noncomputable def world_digest (os : Os) : World :=
  { World.holding Tryd.prog os ⟨#[], #[], []⟩ with heap := (World.holding Tryd.prog os ⟨#[], #[], []⟩).heap.modify 0 fun
      | .cells _ t frozen => .cells (kTab.map U32).toArray t frozen
      | o => o }
end Laid

end Go.Proofs.YtfhkmmagpnojmaaDoor
