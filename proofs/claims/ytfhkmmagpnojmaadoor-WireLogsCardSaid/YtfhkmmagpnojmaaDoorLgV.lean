/- The reference's records from a number on. No condition. -/
import Derived.Test.YtfhkmmagpnojmaaDoorBd
import Derived.Test.YtfhkmmagpnojmaaDoorLgU
set_option linter.unusedSimpArgs false
set_option linter.unusedVariables false
namespace Go.Proofs.YtfhkmmagpnojmaaDoor
open Go.RowKit

theorem drop_take_more (l : List Rcd) (s k : Nat) (x : Rcd) (h : l[k]? = some x) (hs : s ≤ k) : (l.take (k + 1)).drop s = (l.take k).drop s ++ [x] := by
  obtain ⟨hk, rfl⟩ := List.getElem?_eq_some_iff.1 h
  rw [List.take_succ_eq_append_getElem hk, List.drop_append_of_le_length (by rw [List.length_take]; omega)]
theorem drop_take_none (l : List Rcd) (s k : Nat) (hs : k < s) : (l.take (k + 1)).drop s = (l.take k).drop s := by
  rw [List.drop_of_length_le (by rw [List.length_take]; omega), List.drop_of_length_le (by rw [List.length_take]; omega)]

set_option maxRecDepth 100000 in
set_option maxHeartbeats 8000000 in
theorem refSince_s (g : Lg) (rv : Value) (first : UInt32) (w0 : World) (hr : Sl w0 35 rv g.recs.length (g.recs.flatMap rcdL)) (hv : lgV g = true) :
    Calls Tryd.prog 55 #[.agg (lgL g rv).toArray, .int .u32 (first.toNat : Int)] w0 (MadeRc w0 (sinceR g first)) := by
  have S := (Has.start w0).nilRc
  obtain ⟨a0, c0, rfl, k1, k2⟩ := Sl.shape hr
  unfold maxLen at k2
  have q0 := lgL_0 g (.slice a0 g.recs.length c0)
  have q33 := lgL_33 g (.slice a0 g.recs.length c0)
  have hn := (lgV_parts g hv).1
  rw [sinceR_ok g first hv]
  have hcl := g.cnt.toNat_lt
  have hfl := first.toNat_lt
  obtain ⟨l, hl⟩ : ∃ l, l = g.recs := ⟨_, rfl⟩
  rw [← hl] at hr q0 q33 hn k1 ⊢
  obtain ⟨C, hC⟩ : ∃ C, C = g.cnt.toNat := ⟨_, rfl⟩
  rw [← hC] at q0 hcl hn ⊢
  obtain ⟨F, hF⟩ : ∃ F, F = first.toNat := ⟨_, rfl⟩
  rw [← hF] at hfl ⊢
  obtain ⟨s, hs⟩ : ∃ s, s = skipN C l.length F := ⟨_, rfl⟩
  rw [← hs]
  obtain ⟨n, hnn⟩ : ∃ n, n = l.length := ⟨_, rfl⟩
  rw [← hnn] at hr q0 q33 hn k1 hs ⊢
  obtain ⟨B, hB⟩ : ∃ B, B = C - n := ⟨_, rfl⟩
  have e1 : (C : Int) % 18446744073709551616 = (C : Int) := by omega
  have e2 : IntKind.u64.wrap ((C : Int) - (n : Int)) = (B : Int) := by rw [IntKind.wrap_u64]; omega
  have e3 : (n : Int) % 18446744073709551616 = (n : Int) := by omega
  have e4 : (F : Int) % 18446744073709551616 = (F : Int) := by omega
  have hst : ∀ k, k < n → (s ≤ k ↔ F ≤ B + k) := fun k hk => by rw [hs]; unfold skipN; omega
  have hn32 : n ≤ 32 := by omega
  have hBl : B < 4294967296 := by omega
  have HR := Lib.hid hr; have Q0 := Lib.hid q0; have Q33 := Lib.hid q33; have HN := Lib.hid hn; have HST := Lib.hid hst; have HS := Lib.hid hs; have HB := Lib.hid hB; have HNN := Lib.hid hnn; have HN32 := Lib.hid hn32; have HBL := Lib.hid hBl; have HCL := Lib.hid hcl; have HFL := Lib.hid hfl; clear hr q0 q33 hn hst hs hB hnn hn32 hBl hcl hfl
  clear hl hC hF hv
  go_enter Tryd.func55, Tryd.ntmps55
  go_wp2_with (first | ((with_reducible refine iD 2 (.box 40 (.tmp 0)) ?_); refine step_boxA (dst := some 2) S 40 (.tmp 0) _ rfl rfl ?_; clear S; intro g2 w S) | ((with_reducible refine iO _ (.load 31 _) ?_); refine step_load1 31 _ _ _ rfl (cL) _ Tryd.underlying31 rfl rfl ?_) | ((with_reducible refine iO _ (.load 38 _) ?_); refine step_load1 38 _ _ _ rfl (cL) _ Tryd.underlying38 rfl rfl ?_) | ((with_reducible refine iO _ (.load 50 _) ?_); first | (refine step_loadR 50 _ _ _ rfl _ (S.old_range hy) _ Tryd.underlying50 rfl 35 kR lN _ rfl rfl ?_) | (refine step_loadP S 50 _ _ _ rfl _ _ _ pk 35 _ pT lN _ Tryd.underlying50 rfl kR rfl ?_)) | fail)
  go_loopw [5, 6] (fun v u wr => ∃ (k : Nat), k ≤ n ∧ u = .int .i64 (k : Int) ∧ Has w0 wr [rowRc v ((l.take k).drop s), blk g2 (.cells (lgL g (.slice a0 n c0)).toArray 40 (0, 0))]) (fun _ u _ => n - (intOf u).toNat)
  case atStart => exact ⟨0, Nat.zero_le _, rfl, by rw [List.take_zero, List.drop_nil]; exact S.sub (by repeat (first | exact Sub.nil _ | refine Sub.cons pk ?_))⟩
  case round =>
    clear S
    obtain ⟨k, hk, rfl, S⟩ := hrel
    by_cases hlt : k < n
    · have hlt2 : k < l.length := by rw [← HNN.out]; exact hlt
      have hx : l[k]? = some l[k] := List.getElem?_eq_getElem hlt2
      have hrr := HR.out
      obtain ⟨b, off, rfl, hcell⟩ := hrr.atA (by omega)
      have hrg := hrr.elem rcdL_length (by decide) k _ hx
      have hst := HST.out k hlt
      have hm1 := fun h => drop_take_more l s k _ hx h
      have hm2 := fun h => drop_take_none l s k h
      obtain ⟨x, hxe⟩ : ∃ x, x = l[k] := ⟨_, rfl⟩
      rw [← hxe] at hrg hm1
      have hki : (k : Int) < (n : Int) := by omega
      have hki2 : (k : Int) < 9223372036854775807 := by omega
      have h32 := HN32.out
      have hBl := HBL.out
      have hlen : (((l.take k).drop s).length + [x].length) * 56 ≤ 140737488355328 := by simp; omega
      obtain ⟨A, hA⟩ : ∃ A, A = (l.take k).drop s := ⟨_, rfl⟩
      rw [← hA] at S hm1 hm2 hlen
      have e5 : IntKind.u64.wrap ((B : Int) + (k : Int)) = (B : Int) + (k : Int) := by rw [IntKind.wrap_u64]; omega
      have e6 : (k : Int) % 18446744073709551616 = (k : Int) := by omega
      have e7 : IntKind.u64.wrap (k : Int) = (k : Int) := by rw [IntKind.wrap_u64]; omega
      by_cases hsk : s ≤ k
      · have i1 : (F : Int) ≤ (B : Int) + (k : Int) := by have := hst.1 hsk; omega
        have hmore := hm1 hsk
        clear hx hrr hcell hxe hm1 hm2 hst hA hsk h32 hBl
        have HRG := Lib.hid hrg; have HLEN := Lib.hid hlen; have HMORE := Lib.hid hmore; clear hrg hlen hmore
        go_wp2_with (first | ((with_reducible refine iD 36 (.buildSlice 31 1 _) ?_); refine step_buildRc1 S (.tmp 35) x rfl gw ?_; clear S; intro v36 w S) | (at_builtin; refine step_appendRc S (.tmp 30) (.tmp 36) _ A rfl pk v36 [x] rfl (S.sl (v := v36) pk) HLEN.out gw ?_; clear S; intro v37 w S) | ((with_reducible refine iD 2 (.box 40 (.tmp 0)) ?_); refine step_boxA (dst := some 2) S 40 (.tmp 0) _ rfl rfl ?_; clear S; intro g2 w S) | ((with_reducible refine iO _ (.load 31 _) ?_); refine step_load1 31 _ _ _ rfl (cL) _ Tryd.underlying31 rfl rfl ?_) | ((with_reducible refine iO _ (.load 38 _) ?_); refine step_load1 38 _ _ _ rfl (cL) _ Tryd.underlying38 rfl rfl ?_) | ((with_reducible refine iO _ (.load 50 _) ?_); first | (refine step_loadR 50 _ _ _ rfl _ (S.old_range hy) _ Tryd.underlying50 rfl 35 kR lN _ rfl rfl ?_) | (refine step_loadP S 50 _ _ _ rfl _ _ _ pk 35 _ pT lN _ Tryd.underlying50 rfl kR rfl ?_)) | fail)
        go_roundw
        case rel => exact ⟨k + 1, by omega, by go_num, by rw [HMORE.out]; exact S.sub (by repeat (first | exact Sub.nil _ | refine Sub.cons pk ?_))⟩
        case measure => simp [intOf]; omega
      · have i1 : ¬ (F : Int) ≤ (B : Int) + (k : Int) := by intro h; exact hsk (hst.2 (by omega))
        have hmore := hm2 (by omega)
        clear hx hrr hcell hxe hm1 hm2 hst hA hsk h32 hBl
        have HRG := Lib.hid hrg; have HLEN := Lib.hid hlen; have HMORE := Lib.hid hmore; clear hrg hlen hmore
        go_wp2_with (first | ((with_reducible refine iD 2 (.box 40 (.tmp 0)) ?_); refine step_boxA (dst := some 2) S 40 (.tmp 0) _ rfl rfl ?_; clear S; intro g2 w S) | ((with_reducible refine iO _ (.load 31 _) ?_); refine step_load1 31 _ _ _ rfl (cL) _ Tryd.underlying31 rfl rfl ?_) | ((with_reducible refine iO _ (.load 38 _) ?_); refine step_load1 38 _ _ _ rfl (cL) _ Tryd.underlying38 rfl rfl ?_) | ((with_reducible refine iO _ (.load 50 _) ?_); first | (refine step_loadR 50 _ _ _ rfl _ (S.old_range hy) _ Tryd.underlying50 rfl 35 kR lN _ rfl rfl ?_) | (refine step_loadP S 50 _ _ _ rfl _ _ _ pk 35 _ pT lN _ Tryd.underlying50 rfl kR rfl ?_)) | fail)
        go_roundw
        case rel => exact ⟨k + 1, by omega, by go_num, by rw [HMORE.out]; exact S.sub (by repeat (first | exact Sub.nil _ | refine Sub.cons pk ?_))⟩
        case measure => simp [intOf]; omega
    · obtain rfl : k = n := by omega
      have hki : ¬ (k : Int) < (k : Int) := by omega
      rw [List.take_of_length_le (by rw [← HNN.out]; exact Nat.le_refl _)] at S
      obtain ⟨A, hA⟩ : ∃ A, A = l.drop s := ⟨_, rfl⟩
      rw [← hA] at S
      have HA := Lib.hid hA; clear hA
      go_wp2_with (first | ((with_reducible refine iD 2 (.box 40 (.tmp 0)) ?_); refine step_boxA (dst := some 2) S 40 (.tmp 0) _ rfl rfl ?_; clear S; intro g2 w S) | ((with_reducible refine iO _ (.load 31 _) ?_); refine step_load1 31 _ _ _ rfl (cL) _ Tryd.underlying31 rfl rfl ?_) | ((with_reducible refine iO _ (.load 38 _) ?_); refine step_load1 38 _ _ _ rfl (cL) _ Tryd.underlying38 rfl rfl ?_) | ((with_reducible refine iO _ (.load 50 _) ?_); first | (refine step_loadR 50 _ _ _ rfl _ (S.old_range hy) _ Tryd.underlying50 rfl 35 kR lN _ rfl rfl ?_) | (refine step_loadP S 50 _ _ _ rfl _ _ _ pk 35 _ pT lN _ Tryd.underlying50 rfl kR rfl ?_)) | fail)
      go_ret
      exact ⟨_, rfl, by rw [← HA.out]; exact S.sub (by repeat (first | exact Sub.nil _ | refine Sub.cons pk ?_))⟩

set_option maxRecDepth 100000 in
set_option maxHeartbeats 4000000 in
theorem refRecordsSince_s (g : Lg) (rv : Value) (first : UInt32) (w0 : World) (hr : Sl w0 35 rv g.recs.length (g.recs.flatMap rcdL)) :
    Calls Tryd.prog 27 #[.agg (lgL g rv).toArray, .int .u32 (first.toNat : Int)] w0 (MadeRcE w0 (sinceR g first) (lgE g)) := by
  have S := Has.start w0
  obtain ⟨a0, c0, rfl, k1, k2⟩ := Sl.shape hr
  have pv := fun w h => refValidLog_s g (.slice a0 g.recs.length c0) w h
  cases hv : lgV g with
  | false =>
    rw [sinceR_bad g first hv, show lgE g = 8 from if_neg (by rw [hv]; decide)]
    rw [hv] at pv
    have PV := Lib.hid pv; have HR := Lib.hid hr; clear pv hr
    clear hv
    go_enter Tryd.func27, Tryd.ntmps27
    go_wp2_with (first | ((with_reducible refine iD 2 (.box 40 (.tmp 0)) ?_); refine step_boxA (dst := some 2) S 40 (.tmp 0) _ rfl rfl ?_; clear S; intro g2 w S) | ((with_reducible refine iO _ (.load 40 _) ?_); first | (refine step_load S 40 _ _ rfl _ _ _ pk _ Tryd.underlying40 rfl 34 kR lN rfl ?_) | (refine step_loadO 40 _ _ rfl _ _ _ (S.old_heap (Hid.out (by assumption))) _ Tryd.underlying40 rfl 34 kR lN rfl ?_) | (refine step_loadR 40 _ _ _ rfl _ (S.old_range hy) _ Tryd.underlying40 rfl 34 kR lN _ rfl rfl ?_)) | (go_at_call 45; (with_reducible refine (PV.out _ (S.old HR.out)).mono ?_); rintro e w1 ⟨rfl, T⟩; replace S := S.call T; clear T; (try simp only [z4, z5] at S)) | fail)
    go_ret2
    exact ⟨_, rfl, S.nil.nilRc⟩
  | true =>
    rw [show lgE g = 0 from if_pos hv]
    have ps := fun w h => refSince_s g (.slice a0 g.recs.length c0) first w h hv
    rw [hv] at pv
    obtain ⟨L, hL⟩ : ∃ L, L = sinceR g first := ⟨_, rfl⟩
    rw [← hL] at ps ⊢
    have PV := Lib.hid pv; have PS := Lib.hid ps; have HR := Lib.hid hr; clear pv ps hr
    clear hv hL
    go_enter Tryd.func27, Tryd.ntmps27
    go_wp2_with (first | ((with_reducible refine iD 2 (.box 40 (.tmp 0)) ?_); refine step_boxA (dst := some 2) S 40 (.tmp 0) _ rfl rfl ?_; clear S; intro g2 w S) | ((with_reducible refine iO _ (.load 40 _) ?_); first | (refine step_load S 40 _ _ rfl _ _ _ pk _ Tryd.underlying40 rfl 34 kR lN rfl ?_) | (refine step_loadO 40 _ _ rfl _ _ _ (S.old_heap (Hid.out (by assumption))) _ Tryd.underlying40 rfl 34 kR lN rfl ?_) | (refine step_loadR 40 _ _ _ rfl _ (S.old_range hy) _ Tryd.underlying40 rfl 34 kR lN _ rfl rfl ?_)) | (go_at_call 45; (with_reducible refine (PV.out _ (S.old HR.out)).mono ?_); rintro e w1 ⟨rfl, T⟩; replace S := S.call T; clear T; (try simp only [z4, z5] at S)) | (go_at_call 55; (with_reducible refine (PS.out _ (S.old HR.out)).mono ?_); rintro e w1 ⟨v11, rfl, T⟩; replace S := S.call T; clear T; (try simp only [z4, z5] at S)) | fail)
    go_ret2
    exact ⟨_, rfl, S.sub (by repeat (first | exact Sub.nil _ | refine Sub.cons pk ?_))⟩
end Go.Proofs.YtfhkmmagpnojmaaDoor
