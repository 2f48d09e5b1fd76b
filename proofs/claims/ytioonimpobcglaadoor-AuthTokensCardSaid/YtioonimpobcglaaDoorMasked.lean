/- A key, extended to a block, each byte xor c: what digest.masked and dunnageref01.mixed return, in new memory. No condition but that the key is not longer than a block. -/
import Derived.Test.YtioonimpobcglaaDoorBlocks
import Derived.Test.YtioonimpobcglaaDoorRow2
import Derived.Laws.CopyOwn
import Derived.Laws.BitsAllLaws
set_option linter.unusedSimpArgs false
set_option linter.unusedVariables false
namespace Go.Proofs.YtioonimpobcglaaDoor
open Go.RowKit

/-- The key, extended, each byte xor c. -/
def maskB (key : List UInt8) (c : UInt8) : List UInt8 := (key ++ List.replicate (64 - key.length) 0).map (· ^^^ c)

theorem maskB_length (key : List UInt8) (c : UInt8) (h : key.length ≤ 64) : (maskB key c).length = 64 := by simp [maskB]; omega

theorem maskB_get (key : List UInt8) (c : UInt8) (i : Nat) (hi : i < 64) (h : key.length ≤ 64) : (maskB key c)[i]? = some ((if i < key.length then key.getD i 0 else 0) ^^^ c) := by
  unfold maskB
  rw [List.getElem?_map]
  by_cases hk : i < key.length
  · rw [List.getElem?_append_left hk, if_pos hk, List.getElem?_eq_getElem hk]
    simp [List.getD, hk]
  · rw [List.getElem?_append_right (by omega), if_neg hk, List.getElem?_replicate, if_pos (by omega)]
    rfl

theorem xor8 (x y : UInt8) : bits .xor .u8 (x.toNat : Int) (y.toNat : Int) = ((x ^^^ y).toNat : Int) := by
  rw [u8_xor_nat _ _ x.toNat_lt y.toNat_lt, UInt8.toNat_xor]

/-- The extended key. -/
def extB (key : List UInt8) : List UInt8 := key ++ List.replicate (64 - key.length) 0
theorem extB_length (key : List UInt8) (h : key.length ≤ 64) : (extB key).length = 64 := by simp [extB]; omega
theorem maskB_ext (key : List UInt8) (c : UInt8) : maskB key c = (extB key).map (· ^^^ c) := rfl

/-- A list whose first k elements have been turned. -/
def turned (f : UInt8 → UInt8) (xs : List UInt8) (k : Nat) : Array Value := (((xs.take k).map f ++ xs.drop k).map by8).toArray
theorem turned_zero (f : UInt8 → UInt8) (xs : List UInt8) : turned f xs 0 = (xs.map by8).toArray := by simp [turned]
theorem turned_all (f : UInt8 → UInt8) (xs : List UInt8) : turned f xs xs.length = ((xs.map f).map by8).toArray := by simp [turned]
theorem turned_size (f : UInt8 → UInt8) (xs : List UInt8) (k : Nat) : (turned f xs k).size = xs.length := by simp [turned]; omega
theorem turned_get (f : UInt8 → UInt8) (xs : List UInt8) (k : Nat) (h : k < xs.length) : (turned f xs k)[k]? = some (by8 xs[k]) := by
  unfold turned
  rw [List.getElem?_toArray, List.getElem?_map, List.getElem?_append_right (by simp; omega), List.length_map, List.length_take, Nat.min_eq_left (by omega), Nat.sub_self, List.getElem?_drop, Nat.add_zero, List.getElem?_eq_getElem h]
  rfl
theorem turned_set (f : UInt8 → UInt8) (xs : List UInt8) (k : Nat) (h : k < xs.length) : (turned f xs k).setIfInBounds k (by8 (f xs[k])) = turned f xs (k + 1) := by
  apply Array.ext'
  unfold turned
  rw [Array.toList_setIfInBounds]
  simp only [List.map_append]
  rw [List.set_append_right _ _ (by simp; omega)]
  have hl : ((xs.take k).map f).length = k := by simp; omega
  rw [List.length_map, hl, Nat.sub_self, List.drop_eq_getElem_cons h, List.take_succ_eq_append_getElem h]
  simp only [List.map_cons, List.set_cons_zero, List.map_append, List.map_nil, List.append_assoc, List.cons_append, List.nil_append]

theorem copied (key : List UInt8) (h : key.length ≤ 64) : (splice ((List.replicate 64 (0 : UInt8)).map by8) 0 (key.map by8)) = (extB key).map by8 := by
  unfold splice extB
  simp only [List.take_zero, List.nil_append, Nat.zero_add, List.length_map, List.map_append, List.map_replicate, List.drop_replicate]

set_option maxRecDepth 20000 in
set_option maxHeartbeats 1000000 in
theorem masked_any (v : Value) (key : List UInt8) (c : UInt8) (w : World) (hv : Bs w v key) (hl : key.length ≤ 64) :
    Calls Tryd.prog 65 #[v, .int .u8 (c.toNat : Int)] w (Fresh w (maskB key c)) := by
  obtain ⟨a1, cc1, rfl, k1, k2⟩ := Sl.shape hv
  unfold maxLen at k2
  have hmk : ∀ w', (Instr.makeSlice 22 (.int .i64 64) (.int .i64 64)).run Tryd.prog w' = .ok (.slice (some ⟨w'.heap.size, 0, none⟩) 64 64) (w'.alloc (.cells ((List.replicate 64 (0 : UInt8)).map by8).toArray 5)) := fun w' => by kernel_rfl
  have hzl : ((List.replicate 64 (0 : UInt8)).map by8).length = 64 := by simp
  have hel := extB_length key hl
  have hcp := copied key hl
  obtain ⟨X, hX⟩ : ∃ X, X = extB key := ⟨_, rfl⟩
  have hme := maskB_ext key c
  rw [← hX] at hel hcp hme
  have hsrc : 0 < (key.map by8).length → ∃ ad, a1 = some ad ∧ ∀ j u, (key.map by8)[j]? = some u → (w.alloc (.cells ((List.replicate 64 (0 : UInt8)).map by8).toArray 5)).cell? (ad.add j) = some u := fun hpos => by
    have hv2 := hv.below (below1 w (.cells ((List.replicate 64 (0 : UInt8)).map by8).toArray 5))
    cases a1 with
    | none => have := (Sl.empty hv2).1; simp at hpos; omega
    | some ad => exact ⟨ad, rfl, fun j u hj => Sl.cellsAt hv2 j u hj⟩
  have hc1 : (key.map by8).length = Nat.min key.length 64 := by rw [List.length_map]; exact (Nat.min_eq_left hl).symm
  have hc3 : 0 + (key.map by8).length ≤ ((List.replicate 64 (0 : UInt8)).map by8).length := by rw [hzl, List.length_map]; omega
  obtain ⟨Z, hZ⟩ : ∃ Z, Z = (List.replicate 64 (0 : UInt8)).map by8 := ⟨_, rfl⟩
  rw [← hZ] at hcp hsrc hc3
  simp only [← hZ] at hmk
  clear hZ hzl
  have HEL := Lib.hid hel; have HCP := Lib.hid hcp; have HME := Lib.hid hme; have HSRC := Lib.hid hsrc; have HC1 := Lib.hid hc1; have HC3 := Lib.hid hc3; clear hel hcp hme hsrc hc1 hc3
  clear hX hv
  go_enter Tryd.func65, Tryd.ntmps65
  go_wp2_with (refine wpList_copy_splice rfl (.tmp 8) (.tmp 9) 22 22 rfl 5 Tryd.underlying22 (by kernel_rfl) (some ⟨w.heap.size, 0, none⟩) a1 64 64 key.length cc1 rfl rfl w.heap.size 0 Z 5 (heap_new _ _ _) (key.map by8) HC1.out (fun h => ⟨rfl, HSRC.out h⟩) HC3.out (oneCell_u8 _) w.heap.size w (below1 _ _) (Nat.le_refl _) ?_)
  intro w2 hh2 hb2
  have hh := hh2.out
  rw [HCP.out, ← turned_zero (· ^^^ c)] at hh
  have hHH := hh
  have HHH := Lib.hid hHH; have HB2 := Lib.hid hb2; clear hHH hb2
  clear hh hh2 HCP HC1 HC3 HSRC
  go_wp2_with fail
  go_loopw [13] (fun t wr => ∃ k : Nat, k ≤ 64 ∧ t = .int .i64 (k : Int) ∧ wr.heap[w.heap.size]? = some (.cells (turned (· ^^^ c) X k) 5 (0, 0)) ∧ Below w.heap.size w wr) (fun t _ => 64 - (intOf t).toNat)
  case atStart => exact ⟨0, by omega, rfl, HHH.out, HB2.out⟩
  case round =>
    obtain ⟨k, hk, rfl, hh, hb⟩ := hrel
    by_cases hlt : k < 64
    · have hx : k < X.length := by rw [HEL.out]; exact hlt
      have hc := (cell_row hh k).trans (turned_get (· ^^^ c) X k hx)
      have hf := frozen_row hh k
      have hs := turned_set (· ^^^ c) X k hx
      have hq : (wr.setCell ⟨w.heap.size, k, none⟩ (by8 (X[k] ^^^ c))).heap[w.heap.size]? = some (.cells ((turned (· ^^^ c) X k).setIfInBounds k (by8 (X[k] ^^^ c))) 5 (0, 0)) := heap_setCell_same _ _ _ _ _ _ hh
      rw [hs] at hq
      have hxo := xor8 X[k] c
      obtain ⟨y, hy⟩ : ∃ y, y = X[k] := ⟨_, rfl⟩
      rw [← hy] at hc hxo hq
      have l0 : (k : Int) < 64 := by omega
      have HQ := Lib.hid hq; have HB := Lib.hid hb; clear hq hb
      clear hy hs hh hx
      go_wp2
      go_roundw
      case rel => exact ⟨k + 1, by omega, by go_num, HQ.out, HB.out.setCell (Nat.le_refl _) _⟩
      case measure => simp [intOf]; omega
    · obtain rfl : k = 64 := by omega
      have ht : turned (· ^^^ c) X 64 = ((maskB key c).map by8).toArray := by rw [HME.out, ← HEL.out, turned_all]
      rw [ht] at hh
      have ho : wr.ownsRow w.heap.size 5 1 (.slice (some ⟨w.heap.size, 0, none⟩) 64 64) (maskB key c).length ((maskB key c).map by8) := by
        have hl2 := maskB_length key c hl
        refine ⟨by simp, .inr ⟨w.heap.size, 64, _, by rw [hl2], Nat.le_refl _, hh, by omega, by decide, by simp [hl2], by rw [Nat.mul_one]; exact List.take_of_length_le (by simp)⟩⟩
      have HO := Lib.hid ho; have HB := Lib.hid hb; clear ho hb
      clear hh ht
      go_wp2
      go_ret
      exact ⟨_, rfl, HO.out, HB.out⟩

theorem extB_get (key : List UInt8) (i : Nat) (hi : i < 64) (h : key.length ≤ 64) : ∃ h2 : i < (extB key).length, (extB key)[i]'h2 = if i < key.length then key.getD i 0 else 0 := by
  refine ⟨by rw [extB_length key h]; exact hi, ?_⟩
  unfold extB
  by_cases hk : i < key.length
  · rw [List.getElem_append_left hk, if_pos hk]
    simp [List.getD, hk]
  · rw [List.getElem_append_right (by omega), if_neg hk, List.getElem_replicate]

set_option maxRecDepth 20000 in
set_option maxHeartbeats 1000000 in
theorem refMixed_any (v : Value) (key : List UInt8) (c : UInt8) (w : World) (hv : Bs w v key) (hl : key.length ≤ 64) :
    Calls Tryd.prog 79 #[v, .int .u8 (c.toNat : Int)] w (Fresh w (maskB key c)) := by
  obtain ⟨a1, cc1, rfl, k1, k2⟩ := Sl.shape hv
  unfold maxLen at k2
  have HV := Lib.hid hv; clear hv
  go_enter Tryd.func79, Tryd.ntmps79
  go_wp2
  go_loopw [5, 6] (fun b t wr => ∃ k : Nat, k ≤ 64 ∧ t = .int .i64 (k : Int) ∧ wr.ownsRow w.heap.size 5 1 b k (((maskB key c).take k).map by8) ∧ Below w.heap.size w wr) (fun _ t _ => 64 - (intOf t).toNat)
  case atStart => exact ⟨0, by omega, rfl, World.ownsRow_nil _ _ _ _, Below.refl _ _⟩
  case round =>
    obtain ⟨k, hk, rfl, ho, hb⟩ := hrel
    have hsz := hb.size
    by_cases hlt : k < 64
    · obtain ⟨h2, hg⟩ := extB_get key k hlt hl
      have hml : k < (maskB key c).length := by rw [maskB_length key c hl]; exact hlt
      have hmk : (maskB key c)[k] = (extB key)[k] ^^^ c := by simp only [maskB_ext, List.getElem_map]
      have htk := take_succ8 (maskB key c) k hml
      rw [hmk, hg] at htk
      have hlen : ((maskB key c).take k).length = k := by simp; omega
      have l0 : (k : Int) < 64 := by omega
      have HO := Lib.hid ho; have HB := Lib.hid hb; clear ho hb hmk hml
      by_cases hkl : k < key.length
      · rw [if_pos hkl] at htk
        have hxo := xor8 (key.getD k 0) c
        obtain ⟨y, hy⟩ : ∃ y, y = key.getD k 0 := ⟨_, rfl⟩
        obtain ⟨b, off, rfl, hcell⟩ : ∃ b off, a1 = some ⟨b, off, none⟩ ∧ wr.cell? ⟨b, off + k, none⟩ = some (by8 y) := by
          rcases (HV.out.below HB.out).cases with ⟨a, ha, h0⟩ | ⟨b, off, cap, hv, h1, h2, hc⟩
          · rw [h0] at hkl; simp at hkl
          · simp only [Value.slice.injEq] at hv
            obtain ⟨rfl, _, rfl⟩ := hv
            exact ⟨b, off, rfl, by rw [hc k hkl, hy]; simp [List.getD, hkl]⟩
        rw [← hy] at htk hxo
        obtain ⟨z, hz⟩ : ∃ z, z = y ^^^ c := ⟨_, rfl⟩
        rw [← hz] at htk hxo
        have l1 : (k : Int) < key.length := by omega
        have HTK := Lib.hid htk; have HLEN := Lib.hid hlen; clear htk hlen
        clear hy hz hg h2
        go_wp2_with (at_builtin; refine wpList_append_grew _ rfl (.tmp 20) (.tmp 24) 22 rfl w.heap.size 5 (.int .u8 0) 1 1 Tryd.underlying22 Tryd.infoB rfl (by decide) _ _ _ rfl (HO.out.alloc _) _ 1 [by8 z] rfl (Sl.one _ _ _) ?c1 ?c2 ?c3 ?c4 ?_)
        case c1 => intro u hu; simp at hu; subst hu; rfl
        case c2 => unfold maxLen; omega
        case c3 => omega
        case c4 => simp; omega
        intro v' w4 hown4 hgrow4
        have hb4 := (HB.out.alloc hsz _).trans (hgrow4.belowOwn (HO.out.alloc _) (Nat.le_refl _) (by simp; omega))
        have ho4 := own_eq (n' := k + 1) (xs' := ((maskB key c).take (k + 1)).map by8) hown4 rfl (by rw [HTK.out]; simp)
        have HO4 := Lib.hid ho4; have HB4 := Lib.hid hb4; clear ho4 hb4
        clear hown4 hgrow4
        go_wp2
        go_roundw
        case rel => exact ⟨k + 1, by omega, by go_num, HO4.out, HB4.out⟩
        case measure => simp [intOf]; omega
      · rw [if_neg hkl] at htk
        have hxo := xor8 0 c
        obtain ⟨z, hz⟩ : ∃ z, z = 0 ^^^ c := ⟨_, rfl⟩
        rw [← hz] at htk hxo
        have hxo2 : bits .xor .u8 0 (c.toNat : Int) = (z.toNat : Int) := hxo
        have l1 : ¬ (k : Int) < key.length := by omega
        have HTK := Lib.hid htk; have HLEN := Lib.hid hlen; clear htk hlen
        clear hz hg h2 hxo
        go_wp2_with (at_builtin; refine wpList_append_grew _ rfl (.tmp 20) (.tmp 24) 22 rfl w.heap.size 5 (.int .u8 0) 1 1 Tryd.underlying22 Tryd.infoB rfl (by decide) _ _ _ rfl (HO.out.alloc _) _ 1 [by8 z] rfl (Sl.one _ _ _) ?d1 ?d2 ?d3 ?d4 ?_)
        case d1 => first | rfl | (intro u hu; simp at hu; subst hu; rfl)
        case d2 => unfold maxLen; omega
        case d3 => omega
        case d4 => first | omega | (simp; omega)
        intro v' w4 hown4 hgrow4
        have hb4 := (HB.out.alloc hsz _).trans (hgrow4.belowOwn (HO.out.alloc _) (Nat.le_refl _) (by simp; omega))
        have ho4 := own_eq (n' := k + 1) (xs' := ((maskB key c).take (k + 1)).map by8) hown4 rfl (by rw [HTK.out]; simp)
        have HO4 := Lib.hid ho4; have HB4 := Lib.hid hb4; clear ho4 hb4
        clear hown4 hgrow4
        go_wp2
        go_roundw
        case rel => exact ⟨k + 1, by omega, by go_num, HO4.out, HB4.out⟩
        case measure => simp [intOf]; omega
    · obtain rfl : k = 64 := by omega
      have hml := maskB_length key c hl
      have ho2 := own_eq (n' := (maskB key c).length) (xs' := (maskB key c).map by8) ho hml (by rw [List.take_of_length_le (by omega)])
      have HO2 := Lib.hid ho2; have HB := Lib.hid hb; clear ho2 hb
      clear ho hml
      go_wp2
      go_ret
      exact ⟨_, rfl, HO2.out, HB.out⟩
end Go.Proofs.YtioonimpobcglaaDoor
