/- DigestTexts holds for every input: the program's Hex and ParseHex return what the specification's do. No condition. -/
import Derived.Test.YthdhnpejakljkaaArgs
import Derived.Test.YthdhnpejakljkaaParse
namespace Go.Proofs.Ythdhnpejakljkaa
open Go.ChangeShapes Go.WideShapes Go.ChangeAt Go.RowKit

set_option maxRecDepth 20000 in
set_option maxHeartbeats 1000000 in
theorem digestTexts_walk (v : Value) (xs : List UInt8) (s : ByteArray) (w : World) (hv : Bs w v xs) :
    Calls Try.prog 3 #[v, .string s] w fun e w' => e = .returned (.bool true) ∧ Below w.heap.size w w' := by
  have HV := Lib.hid hv; clear hv
  go_enter Try.func3, Try.ntmps3
  go_wp2_with (first | (go_at_call 5; refine (hexAll_any _ xs _ HV.out).mono ?_; rintro e w1 ⟨rfl, hb1⟩; have HB1 := Lib.hid hb1; clear hb1) | (go_at_call 6; refine (hexed_any _ xs _ (HV.out.below HB1.out)).mono ?_; rintro e w2 ⟨rfl, hb2⟩; have HB2 := Lib.hid hb2; clear hb2) | fail)
  go_wp2_with (first | (go_at_call 7; refine (parse_any _ s.data.toList _ rfl).mono ?_; rintro e w3 ⟨v3, rfl, ho3, hb3⟩; have HO3 := Lib.hid ho3; have HB3 := Lib.hid hb3; clear ho3 hb3) | (go_at_call 8; refine (parsed_any _ s.data.toList _ rfl).mono ?_; rintro e w4 ⟨v4, rfl, ho4, hb4⟩; have HB4 := Lib.hid hb4; have hc3 := Bs.conv ((Sl.of_own HO3.out).below HB4.out : Bs w4 v3 (parseR s.data.toList)) 22 9 5 Try.underlying22 Try.underlying5 Try.underlying9; have hc4 := Bs.conv (Sl.of_own ho4 : Bs w4 v4 (parseR s.data.toList)) 22 9 5 Try.underlying22 Try.underlying5 Try.underlying9; clear ho4 hb4) | fail)
  go_ret
  have b1 := HB1.out
  have b2 := b1.trans (HB2.out.mono b1.size)
  have b3 := b2.trans (HB3.out.mono b2.size)
  exact ⟨rfl, b3.trans (HB4.out.mono b3.size)⟩
end Go.Proofs.Ythdhnpejakljkaa
