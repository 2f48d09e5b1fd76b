/- Permits of the program (which reads a table) and of the specification. No condition but the table of permissions. -/
import Derived.Test.YtmcefinhmihmnaaDoorBd
import Derived.Test.YtmcefinhmihmnaaDoorBe
set_option linter.unusedSimpArgs false
set_option linter.unusedVariables false
namespace Go.Proofs.YtmcefinhmihmnaaDoor
open Go.RowKit

/-- The kinds that a role permits. -/
def permL (role : Nat) : List UInt8 := if role = 1 then [3, 4, 5] else if role = 2 then [3, 4, 5, 1, 2] else if role = 3 then [3, 4, 5, 1, 2, 6] else []
def prmB (role kind : Nat) : Bool := decide (role < 4) && (permL role).any fun c => decide (c.toNat = kind)

/-- The table of permissions lies where the program has laid it. -/
def PT (w : World) : Prop := ∃ s : Nat → Value, ∀ i, i < 4 → w.cell? ⟨0, i, none⟩ = some (s i) ∧ Bs w (s i) (permL i)

theorem Has.pt {w0 w : World} {l : List Res} (S : Has w0 w l) (h : PT w0) : PT w := by
  obtain ⟨s, hs⟩ := h
  exact ⟨s, fun i hi => ⟨S.old_cell (hs i hi).1, S.oldB (hs i hi).2⟩⟩

/-- The index of a byte, or -1. -/
def idxB (xs : List UInt8) (c : Nat) : Int := match xs.findIdx? (fun x => decide (x.toNat = c)) with | some k => k | none => -1

set_option maxRecDepth 100000 in
set_option maxHeartbeats 2000000 in
theorem index_s (v : Value) (xs : List UInt8) (c : Nat) (w0 : World) (h : Bs w0 v xs) (hc : c < 256) : Calls Tryd.prog 47 #[v, .int .u8 (c : Int)] w0 fun e w' => e = .returned (.int .i64 (idxB xs c)) ∧ Has w0 w' [] := by
  have S := Has.start w0
  obtain ⟨a0, c0, rfl, k1, k2⟩ := Sl.shape h
  unfold maxLen at k2
  obtain ⟨E, hE⟩ : ∃ E, E = idxB xs c := ⟨_, rfl⟩
  rw [← hE]
  have H := Lib.hid h; have HE := Lib.hid hE; clear h hE
  go_enter Tryd.func47, Tryd.ntmps47
  go_wp2_with (first | ((with_reducible refine iO _ (.load 5 _) ?_); refine step_load1 5 _ _ _ rfl (cL) _ Tryd.underlying5 rfl rfl ?_) | fail)
  go_loopw [8] (fun t wr => ∃ (k : Nat), k ≤ xs.length ∧ t = .int .i64 (k : Int) ∧ (∀ j (x : UInt8), j < k → xs[j]? = some x → x.toNat ≠ c) ∧ Has w0 wr []) (fun t _ => xs.length - (intOf t).toNat)
  case atStart => exact ⟨0, Nat.zero_le _, rfl, fun j x hj => by omega, S.nil⟩
  case round =>
    obtain ⟨k, hk, rfl, hno, S⟩ := hrel
    have HN := Lib.hid hno
    clear hno
    by_cases hlt : k < xs.length
    · have hki : (k : Int) < xs.length := by omega
      obtain ⟨x, hx⟩ : ∃ x, xs[k]? = some x := ⟨_, List.getElem?_eq_getElem hlt⟩
      obtain ⟨b, off, rfl, hcell⟩ := H.out.atA (by omega)
      have hxc := hcell k (by8 x) (by rw [List.getElem?_map, hx]; rfl)
      by_cases hxe : x.toNat = c
      · have hi : ((c : Int) == (x.toNat : Int)) = true := by rw [beq_iff_eq]; omega
        have hres : E = (k : Int) := by
          rw [HE.out]
          unfold idxB
          have : xs.findIdx? (fun x => decide (x.toNat = c)) = some k := by
            rw [List.findIdx?_eq_some_iff_getElem]
            refine ⟨hlt, ?_, fun j hj => ?_⟩
            · rw [List.getElem?_eq_getElem hlt] at hx
              rw [Option.some.inj hx]
              simpa using hxe
            · simpa using HN.out j _ hj (List.getElem?_eq_getElem (by omega))
          rw [this]
        subst hres
        have HXC := Lib.hid hxc; clear hxc
        clear hx hxe hcell
        go_wp2_with (first | ((with_reducible refine iO _ (.load 5 _) ?_); refine step_load1 5 _ _ _ rfl (cL) _ Tryd.underlying5 rfl rfl ?_) | fail)
        go_ret
        exact ⟨rfl, S.nil⟩
      · have hi : ((c : Int) == (x.toNat : Int)) = false := by rw [beq_eq_false_iff_ne]; omega
        have HX := Lib.hid (And.intro hx hxe)
        have HXC := Lib.hid hxc; clear hxc
        clear hx hxe hcell
        go_wp2_with (first | ((with_reducible refine iO _ (.load 5 _) ?_); refine step_load1 5 _ _ _ rfl (cL) _ Tryd.underlying5 rfl rfl ?_) | fail)
        go_roundw
        case rel =>
          refine ⟨k + 1, by omega, by go_num, fun j y hj hy => ?_, S.nil⟩
          by_cases hjk : j = k
          · subst hjk
            rw [HX.out.1] at hy
            obtain rfl := Option.some.inj hy
            exact HX.out.2
          · exact HN.out j y (by omega) hy
        case measure => simp [intOf]; omega
    · obtain rfl : k = xs.length := by omega
      have hres : E = -1 := by
        rw [HE.out]
        unfold idxB
        have : xs.findIdx? (fun x => decide (x.toNat = c)) = none := by
          rw [List.findIdx?_eq_none_iff]
          intro x hx
          obtain ⟨j, hj⟩ := List.getElem?_of_mem hx
          simpa using HN.out j x (List.getElem?_eq_some_iff.1 hj).1 hj
        rw [this]
      subst hres
      go_wp2_with (first | ((with_reducible refine iO _ (.load 5 _) ?_); refine step_load1 5 _ _ _ rfl (cL) _ Tryd.underlying5 rfl rfl ?_) | fail)
      go_ret
      exact ⟨rfl, S.nil⟩

theorem idxB_nonneg (xs : List UInt8) (c : Nat) : decide (0 ≤ idxB xs c) = xs.any fun x => decide (x.toNat = c) := by
  unfold idxB
  cases h : xs.findIdx? (fun x => decide (x.toNat = c)) with
  | none =>
    rw [List.findIdx?_eq_none_iff] at h
    have : (xs.any fun x => decide (x.toNat = c)) = false := by rw [List.any_eq_false]; intro x hx; simpa using h x hx
    rw [this]
    rfl
  | some k =>
    obtain ⟨hk, h1, _⟩ := List.findIdx?_eq_some_iff_getElem.1 h
    have : (xs.any fun x => decide (x.toNat = c)) = true := by rw [List.any_eq_true]; exact ⟨_, List.getElem_mem hk, h1⟩
    rw [this]
    simp

set_option maxRecDepth 100000 in
set_option maxHeartbeats 1000000 in
theorem contains_s (v : Value) (xs : List UInt8) (c : Nat) (w0 : World) (h : Bs w0 v xs) (hc : c < 256) : Calls Tryd.prog 39 #[v, .int .u8 (c : Int)] w0 fun e w' => e = .returned (.bool (xs.any fun x => decide (x.toNat = c))) ∧ Has w0 w' [] := by
  have S := Has.start w0
  obtain ⟨a0, c0, rfl, k1, k2⟩ := Sl.shape h
  have p1 := fun w h => index_s (.slice a0 xs.length c0) xs c w h hc
  rw [← idxB_nonneg]
  generalize idxB xs c = I at p1
  have H := Lib.hid h; have P1 := Lib.hid p1; clear h p1
  go_enter Tryd.func39, Tryd.ntmps39
  go_wp2_with (first | (go_at_call 47; (with_reducible refine (P1.out _ (S.oldB H.out)).mono ?_); rintro e w1 ⟨rfl, T⟩; replace S := S.call T; clear T; (try simp only [z4, z5] at S)) | fail)
  go_ret
  exact ⟨rfl, S.nil⟩

set_option maxRecDepth 100000 in
set_option maxHeartbeats 1000000 in
theorem permits_s (role kind : Nat) (w0 : World) (hP : PT w0) (hr : role < 256) (hk : kind < 256) : Calls Tryd.prog 10 #[.int .u8 (role : Int), .int .u8 (kind : Int)] w0 fun e w' => e = .returned (.bool (prmB role kind)) ∧ Has w0 w' [] := by
  have S := Has.start w0
  by_cases h4 : role < 4
  · obtain ⟨s, hs⟩ := hP
    obtain ⟨h1, h2⟩ := hs role h4
    have hB : prmB role kind = (permL role).any fun x => decide (x.toNat = kind) := by unfold prmB; rw [decide_eq_true h4, Bool.true_and]
    rw [hB]
    have p1 := fun w h => contains_s (s role) (permL role) kind w h hk
    generalize (permL role).any (fun x => decide (x.toNat = kind)) = B at p1
    have i1 : (role : Int) < 4 := by omega
    generalize s role = sv at *
    clear hs hB
    have H1 := Lib.hid h1; have H2 := Lib.hid h2; have P1 := Lib.hid p1; clear h1 h2 p1
    go_enter Tryd.func10, Tryd.ntmps10
    go_wp2_with (first | ((with_reducible refine iO _ (.load 23 _) ?_); refine step_load1 23 _ _ _ rfl (cL) _ Tryd.underlying23 rfl gw ?_) | (go_at_call 39; (with_reducible refine (P1.out _ (S.oldB H2.out)).mono ?_); rintro e w1 ⟨rfl, T⟩; replace S := S.call T; clear T; (try simp only [z4, z5] at S)) | fail)
    go_ret
    exact ⟨rfl, S.nil⟩
  · have hB : prmB role kind = false := by unfold prmB; rw [decide_eq_false h4, Bool.false_and]
    rw [hB]
    have i1 : ¬ (role : Int) < 4 := by omega
    clear hB
    have HP := Lib.hid hP; clear hP
    go_enter Tryd.func10, Tryd.ntmps10
    go_wp2_with (first | ((with_reducible refine iO _ (.load 23 _) ?_); refine step_load1 23 _ _ _ rfl (cL) _ Tryd.underlying23 rfl gw ?_) | fail)
    go_ret
    exact ⟨rfl, S.nil⟩

theorem prmB_eq (role kind : Nat) : prmB role kind = decide ((role = 1 ∧ (kind = 3 ∨ kind = 4 ∨ kind = 5)) ∨ (role = 2 ∧ (kind = 3 ∨ kind = 4 ∨ kind = 5 ∨ kind = 1 ∨ kind = 2)) ∨ (role = 3 ∧ (kind = 3 ∨ kind = 4 ∨ kind = 5 ∨ kind = 1 ∨ kind = 2 ∨ kind = 6))) := by
  unfold prmB permL
  rw [Bool.eq_iff_iff]
  by_cases h1 : role = 1
  · subst h1; simp; omega
  · by_cases h2 : role = 2
    · subst h2; simp; omega
    · by_cases h3 : role = 3
      · subst h3; simp; omega
      · simp [h1, h2, h3]

end Go.Proofs.YtmcefinhmihmnaaDoor
