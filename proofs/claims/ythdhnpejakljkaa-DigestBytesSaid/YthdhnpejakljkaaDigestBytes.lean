/- DigestBytes holds for every input: the program's PutUint, TakeUint and TakeBytes return what the specification's do, and the bytes that came in stay. No condition. -/
import Derived.Test.YthdhnpejakljkaaArgs
import Derived.Test.YthdhnpejakljkaaRefBytes
import Derived.Laws.BytesArg
namespace Go.Proofs.Ythdhnpejakljkaa
open Go.ChangeShapes Go.WideShapes Go.ChangeAt Go.RowKit

/-- A string's bytes. -/
def strB (xs : List UInt8) : ByteArray := ⟨xs.toArray⟩

theorem Bs.conv {P : Program} {w : World} {v : Value} {xs : List UInt8} (h : Bs w v xs) (src dst e : TypeId) (hs : P.underlying src = some (.slice e)) (he : P.underlying e = some (.int .u8)) (hd : P.underlying dst = some .string) :
    (convert src dst v).run P w = .ok (.string (strB xs)) w := by
  rcases h.cases with ⟨a, rfl, rfl⟩ | ⟨b, off, cap, rfl, hl, hm, hc⟩
  · rw [run_convert_bytes_string w src dst e a 0 0 hs he hd]
    cases a <;> (simp [Conv.bytesToString, strB, loadCells, loadCellsFrom, ByteArray.empty, ByteArray.emptyWithCapacity]; rfl)
  · have := run_convert_bytes_arg (P := P) w src e hs he b off xs.length cap (xs.map fun x => (x.toNat : Int)) (by simp) (fun i hi => by rw [hc i hi]; simp [List.getD, hi]) dst hd
    rw [this]
    congr 2
    simp [strOfNums, strB, Function.comp_def]

theorem own_shape {w : World} {base e size : Nat} {v : Value} {n : Nat} {xs : List Value} (h : w.ownsRow base e size v n xs) :
    (v = .slice none 0 0 ∧ n = 0) ∨ ∃ g cap, v = .slice (some ⟨g, 0, none⟩) n cap ∧ w.ownsRow base e size (.slice (some ⟨g, 0, none⟩) n cap) n xs := by
  rcases h.2 with hn | ⟨g, cap, cur, hv, r⟩
  · exact .inl hn
  · exact .inr ⟨g, cap, hv, by rw [← hv]; exact h⟩

set_option maxRecDepth 20000 in
set_option maxHeartbeats 1000000 in
theorem digestBytes_walk (v : Value) (xs : List UInt8) (n : Nat) (s p m : Int) (w : World) (hv : Bs w v xs) (hl : xs.length ≤ reach) (hn : n < 18446744073709551616)
    (hs : -9223372036854775808 ≤ s ∧ s ≤ 9223372036854775807) (hp : -9223372036854775808 ≤ p ∧ p ≤ 9223372036854775807) (hm : -9223372036854775808 ≤ m ∧ m ≤ 9223372036854775807) :
    Calls Try.prog 4 #[v, .int .u64 (n : Int), .int .i64 s, .int .i64 p, .int .i64 m] w fun e w' => e = .returned (.bool true) ∧ Below w.heap.size w w' := by
  unfold reach at hl
  have HN := Lib.hid hn; clear hn
  have hv' := Sl.below hv ((Below.refl w.heap.size w).alloc (Nat.le_refl _) (.cells #[] 5))
  have HV := Lib.hid hv; have HV1 := Lib.hid hv'; clear hv hv'
  go_enter Try.func4, Try.ntmps4
  go_wp2_with (at_builtin; refine wpList_append_grew _ rfl (.tmp 21) (.tmp 22) 22 rfl w.heap.size 5 (.int .u8 0) 1 1 Try.underlying22 Try.infoB rfl (by decide) _ _ _ rfl (empty_own w) _ _ _ rfl HV1.out (oneCell_u8 _) ?c1 ?c2 ?c3 ?_)
  case c1 => unfold maxLen; omega
  case c2 => omega
  case c3 => simp
  intro v1 w1 hown1 hgrow1
  have hb1 := ((Below.refl w.heap.size w).alloc (Nat.le_refl _) (.cells #[] 5)).trans (hgrow1.belowOwn (empty_own w) (Nat.le_refl _) (by simp))
  have ho1 := own_eq (n' := xs.length) (xs' := xs.map by8) hown1 (by omega) (by simp)
  have hs1 : Bs w1 v1 xs := Sl.of_own ho1
  have hv1 : Bs w1 v xs := Sl.below HV.out hb1
  have HB1 := Lib.hid hb1; have HS1 := Lib.hid hs1; have HV2 := Lib.hid hv1; clear hown1 hgrow1 hb1 ho1 hs1 hv1 HV1 HV
  go_wp2_with (first | (go_at_call 9; refine (putUint_any _ xs n s _ HS1.out (by omega) HN.out hs).mono ?_; rintro e w2 ⟨v2, rfl, ho2, hb2⟩; have HO2 := Lib.hid ho2; have HB2 := Lib.hid hb2; clear ho2 hb2) | (go_at_call 10; refine (refPutUint_any _ xs n s _ (HV2.out.below HB2.out) (by omega) HN.out hs).mono ?_; rintro e w3 ⟨v3, rfl, ho3, hb3⟩; have HO3 := Lib.hid ho3; have HB3 := Lib.hid hb3; have hc2 := Bs.conv ((Sl.of_own HO2.out).below HB3.out : Bs w3 v2 (putR xs n s)) 22 9 5 Try.underlying22 Try.underlying5 Try.underlying9; have hc3 := Bs.conv (Sl.of_own HO3.out : Bs w3 v3 (putR xs n s)) 22 9 5 Try.underlying22 Try.underlying5 Try.underlying9; clear ho3 hb3) | fail)
  have hb03 := (HB1.out.trans (HB2.out.mono HB1.out.size)).trans (HB3.out.mono (Nat.le_trans HB1.out.size HB2.out.size))
  have hq1 := (HS1.out.below HB2.out).below HB3.out
  have hqv := (HV2.out.below HB2.out).below HB3.out
  have HB03 := Lib.hid hb03; have HQ1 := Lib.hid hq1; have HQV := Lib.hid hqv; clear hc2 hc3 hb03 hq1 hqv HB1 HB2 HB3 HS1 HV2 HO2 HO3
  go_wp2_with (first | (go_at_call 11; refine (takeUint_any _ xs p s _ HQ1.out (by omega) hp hs).mono ?_; rintro e w4 ⟨rfl, hb4⟩; have HB4 := Lib.hid hb4; clear hb4) | (go_at_call 12; refine (refTakeUint_any _ xs p s _ (HQV.out.below HB4.out) (by omega) hp hs).mono ?_; rintro e w5 ⟨rfl, hb5⟩; have HB5 := Lib.hid hb5; clear hb5) | fail)
  have hb05 := (HB03.out.trans (HB4.out.mono HB03.out.size)).trans (HB5.out.mono (Nat.le_trans HB03.out.size HB4.out.size))
  have hr1 := (HQ1.out.below HB4.out).below HB5.out
  have hrv := (HQV.out.below HB4.out).below HB5.out
  have HB05 := Lib.hid hb05; have HR1 := Lib.hid hr1; have HRV := Lib.hid hrv; clear hb05 hr1 hrv HB03 HB4 HB5 HQ1 HQV
  go_wp2_with (first | (go_at_call 13; refine (takeBytes_any _ xs p m _ HR1.out (by omega) hp hm).mono ?_; rintro e w6 ⟨v6, rfl, ho6, hb6⟩; have HO6 := Lib.hid ho6; have HB6 := Lib.hid hb6; clear ho6 hb6) | (go_at_call 14; refine (refTakeBytes_any _ xs p m _ (HRV.out.below HB6.out) (by omega) hp hm).mono ?_; rintro e w7 ⟨v7, rfl, ho7, hb7⟩; have HO7 := Lib.hid ho7; have HB7 := Lib.hid hb7; have hc6 := Bs.conv ((Sl.of_own HO6.out).below HB7.out : Bs w7 v6 (takeR xs p m)) 22 9 5 Try.underlying22 Try.underlying5 Try.underlying9; have hc7 := Bs.conv (Sl.of_own HO7.out : Bs w7 v7 (takeR xs p m)) 22 9 5 Try.underlying22 Try.underlying5 Try.underlying9; clear ho7 hb7) | fail)
  have hb57 := HB6.out.trans (HB7.out.mono HB6.out.size)
  have hex := own_shape (HO6.out.kept (row := none) ⟨HB7.out.os, HB7.out.tape, HB7.out.output, HB7.out.size, fun k hk _ => HB7.out.block k hk⟩ (by cases hv : v6.ownBlock <;> simp))
  have HB57 := Lib.hid hb57; have HEX := Lib.hid hex; clear hc6 hc7 hb57 hex HO6 HO7 HB6 HB7
  generalize takeR xs p m = ys at *
  rcases HEX.out with ⟨hv6, hL⟩ | ⟨g, cap, hv6, hown6⟩
  · rw [hv6]
    have hb5r := HB57.out
    have hc1 := Bs.conv (HR1.out.below hb5r) 22 9 5 Try.underlying22 Try.underlying5 Try.underlying9
    have hcv := Bs.conv (HRV.out.below hb5r) 22 9 5 Try.underlying22 Try.underlying5 Try.underlying9
    clear hb5r HEX hL hv6
    refine wp_loop_rounds 1 ?_
    rw [rounds_succ]
    go_wp2
    go_ret
    exact ⟨rfl, HB05.out.trans (HB57.out.mono HB05.out.size)⟩
  · rw [hv6]
    have HW := Lib.hid hown6; clear hown6 HEX hv6
    have hyl : ys.length ≤ 9223372036854775807 := by
      have := HW.out.2
      rcases this with ⟨h, _⟩ | ⟨_, cap', _, h, _, _, h1, h2, _⟩
      · simp at h
      · simp only [Value.slice.injEq] at h; unfold maxLen at h2; omega
    go_loopw [20] (fun i wr => ∃ (k : Nat) (zs : List Int), k ≤ ys.length ∧ i = .int .i64 (k : Int) ∧ zs.length = ys.length ∧ wr.ownsRow w5.heap.size 5 1 (.slice (some ⟨g, 0, none⟩) ys.length cap) ys.length (zs.map (Value.int .u8)) ∧ Below w5.heap.size w7 wr) (fun i _ => ys.length - (intOf i).toNat)
    case atStart => exact ⟨0, ys.map fun x => (x.toNat : Int), Nat.zero_le _, rfl, by simp, by simpa [Function.comp_def] using HW.out, Below.refl _ _⟩
    case round =>
      obtain ⟨k, zs, hk, rfl, hzl, hownr, hbr⟩ := hrel
      by_cases hlt : k < ys.length
      · have hcell := hownr.cellAt k (by omega)
        have hfro := hownr.frozenAt k
        obtain ⟨z, hz⟩ : ∃ z, zs[k]? = some z := ⟨_, List.getElem?_eq_getElem (by omega)⟩
        rw [List.getElem?_map, hz] at hcell
        simp only [Option.map_some] at hcell
        clear hz
        have HZ := Lib.hid hzl; have HOR := Lib.hid hownr; have HBR := Lib.hid hbr; clear hzl hownr hbr
        go_wp2
        go_roundw
        case rel =>
          have hst := HOR.out.stored k (.int .u8 (bits .xor .u8 z 1))
          refine ⟨k + 1, zs.set k (bits .xor .u8 z 1), by omega, by go_num, by simp [HZ.out], ?_, HBR.out.setCell ?_ _⟩
          · rw [List.map_set]; exact hst.1
          · exact (HOR.out.lt g rfl).1
        case measure => simp [intOf]; omega
      · have hb5r := HB57.out.trans hbr
        have hc1 := Bs.conv (HR1.out.below hb5r) 22 9 5 Try.underlying22 Try.underlying5 Try.underlying9
        have hcv := Bs.conv (HRV.out.below hb5r) 22 9 5 Try.underlying22 Try.underlying5 Try.underlying9
        have HBR := Lib.hid hb5r; clear hb5r hbr hownr
        go_wp2
        go_ret
        exact ⟨rfl, HB05.out.trans (HBR.out.mono HB05.out.size)⟩
end Go.Proofs.Ythdhnpejakljkaa
