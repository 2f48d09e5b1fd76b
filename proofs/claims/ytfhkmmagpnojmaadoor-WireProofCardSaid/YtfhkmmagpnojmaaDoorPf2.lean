/- WireProof's walk. No condition but the table of constants and the reach. -/
import Derived.Test.YtfhkmmagpnojmaaDoorBd
import Derived.Test.YtfhkmmagpnojmaaDoorPf1
import Derived.Test.YtfhkmmagpnojmaaDoorAlv7
import Derived.Test.YtfhkmmagpnojmaaDoorLnkR
set_option linter.unusedSimpArgs false
set_option linter.unusedVariables false
namespace Go.Proofs.YtfhkmmagpnojmaaDoor
open Go.RowKit

set_option maxRecDepth 100000 in
set_option maxHeartbeats 8000000 in
theorem wireProof_walk (prev : List UInt8) (rv fv : Value) (l : List Rcd) (ps : List (Value × List UInt8)) (w0 : World) (hp : prev.length = 32) (hr : Sl w0 35 rv l.length (l.flatMap rcdL)) (hf : Fr w0 fv ps) (hK : KT w0) (hfl : ∀ p ∈ ps, p.2.length ≤ 140737488351232) :
    Calls Tryd.prog 12 #[.agg (arr8 prev), rv, fv] w0 fun e w' => e = .returned (.bool true) ∧ Has w0 w' [] := by
  have S := Has.start w0
  obtain ⟨a0, c0, rfl, k1, k2⟩ := Sl.shape hr
  obtain ⟨a1, c1, rfl, k3, k4⟩ := Sl.shape hf.1
  unfold maxLen at k2 k4
  have pa := fun w h => alive_s w h
  have p1 := fun w h1 h2 h3 => verify_s prev (.slice a0 l.length c0) (.slice a1 ps.length c1) l ps w hp h1 h2 h3
  by_cases h32 : 32 < l.length
  · rw [show vfR prev l (ps.map (·.2)) = (0, 4) from if_pos h32] at p1
    have i1 : 32 < (l.length : Int) := by omega
    have P1 := Lib.hid p1; have PA := Lib.hid pa; have HR := Lib.hid hr; have HF := Lib.hid hf; have HK := Lib.hid hK; clear p1 pa hr hf hK
    clear h32
    go_enter Tryd.func12, Tryd.ntmps12
    go_wp2_with (first | ((with_reducible refine iD 3 (.box 22 (.tmp 0)) ?_); refine step_boxA (dst := some 3) S 22 (.tmp 0) _ rfl gw ?_; clear S; intro g3 w S) | (go_at_call 29; (with_reducible refine (PA.out _ kT).mono ?_); rintro e w1 ⟨rfl, T⟩; replace S := S.call T; clear T; (try simp only [z4, z5] at S)) | ((with_reducible refine iO _ (.load 22 _) ?_); first | (refine step_load S 22 _ _ rfl _ _ _ pk _ Tryd.underlying22 rfl 32 kR lN gw ?_) | (refine step_loadO 22 _ _ rfl _ _ _ (S.old_heap (Hid.out (by assumption))) _ Tryd.underlying22 rfl 32 kR lN gw ?_) | (refine step_loadR 22 _ _ _ rfl _ (S.old_range hy) _ Tryd.underlying22 rfl 32 kR lN _ rfl gw ?_)) | (go_at_call 18; (with_reducible refine (P1.out _ (S.old HR.out) (S.oldF HF.out) kT).mono ?_); rintro e w1 ⟨rfl, T⟩; replace S := S.call T; clear T; (try simp only [z4, z5] at S)) | ((with_reducible refine iO _ (.load 50 _) ?_); first | (refine step_loadR 50 _ _ _ rfl _ (S.old_range hy) _ Tryd.underlying50 rfl 35 kR lN _ rfl gw ?_) | (refine step_loadP S 50 _ _ _ rfl _ _ _ pk 35 _ pT lN _ Tryd.underlying50 rfl kR gw ?_)) | ((with_reducible refine iO _ (.load 25 _) ?_); refine step_load1 25 _ _ _ rfl (cL) _ Tryd.underlying25 rfl gw ?_) | ((with_reducible refine iO _ (.load 23 _) ?_); refine step_load1 23 _ _ _ rfl (cL) _ Tryd.underlying23 rfl gw ?_) | ((with_reducible refine iO _ (.load 5 _) ?_); refine step_load1 5 _ _ _ rfl (cL) _ Tryd.underlying5 rfl gw ?_) | ((with_reducible refine iO _ (.load 24 _) ?_); refine step_load1 24 _ _ _ rfl (cL) _ Tryd.underlying24 rfl gw ?_) | ((with_reducible refine iD 13 (.alloc 22) ?_); refine step_alloc (dst := some 13) S 22 (.agg (arr8 (List.replicate 32 0))) (arr8 (List.replicate 32 0)) kR rfl gw ?_; clear S; intro g13 w S) | ((with_reducible refine iO none (.store 22 (.tmp 13) (.tmp 120)) ?_); refine step_store S 22 (.tmp 13) (.tmp 120) _ _ rfl rfl _ _ pk 32 kR lN lN on1 gw ?_; clear S; intro w S) | ((with_reducible refine iO _ (.load 22 _) ?_); first | (refine step_loadR 22 _ _ _ rfl _ (S.old_range hy) _ Tryd.underlying22 rfl 32 kR lN _ rfl gw ?_) | (refine step_loadP S 22 _ _ _ rfl _ _ _ pk 32 _ pT lN _ Tryd.underlying22 rfl kR gw ?_)) | ((with_reducible refine iO none (.store 22 (.tmp 3) (.tmp 141)) ?_); refine step_store S 22 (.tmp 3) (.tmp 141) _ _ rfl rfl _ _ pk 32 kR lN lN on1 gw ?_; clear S; intro w S) | fail)
    go_ret
    exact ⟨rfl, S.nil⟩
  have i1 : ¬ 32 < (l.length : Int) := by omega
  by_cases hl : (ps.map (·.2)).length ≠ l.length
  · rw [show vfR prev l (ps.map (·.2)) = (0, 2) by unfold vfR; rw [if_neg h32, if_pos hl]] at p1
    have i2 : ((l.length : Int) != (ps.length : Int)) = true := by
      rw [List.length_map] at hl
      rw [bne_iff_ne]; omega
    have P1 := Lib.hid p1; have PA := Lib.hid pa; have HR := Lib.hid hr; have HF := Lib.hid hf; have HK := Lib.hid hK; clear p1 pa hr hf hK
    clear h32 hl
    go_enter Tryd.func12, Tryd.ntmps12
    go_wp2_with (first | ((with_reducible refine iD 3 (.box 22 (.tmp 0)) ?_); refine step_boxA (dst := some 3) S 22 (.tmp 0) _ rfl gw ?_; clear S; intro g3 w S) | (go_at_call 29; (with_reducible refine (PA.out _ kT).mono ?_); rintro e w1 ⟨rfl, T⟩; replace S := S.call T; clear T; (try simp only [z4, z5] at S)) | ((with_reducible refine iO _ (.load 22 _) ?_); first | (refine step_load S 22 _ _ rfl _ _ _ pk _ Tryd.underlying22 rfl 32 kR lN gw ?_) | (refine step_loadO 22 _ _ rfl _ _ _ (S.old_heap (Hid.out (by assumption))) _ Tryd.underlying22 rfl 32 kR lN gw ?_) | (refine step_loadR 22 _ _ _ rfl _ (S.old_range hy) _ Tryd.underlying22 rfl 32 kR lN _ rfl gw ?_)) | (go_at_call 18; (with_reducible refine (P1.out _ (S.old HR.out) (S.oldF HF.out) kT).mono ?_); rintro e w1 ⟨rfl, T⟩; replace S := S.call T; clear T; (try simp only [z4, z5] at S)) | ((with_reducible refine iO _ (.load 50 _) ?_); first | (refine step_loadR 50 _ _ _ rfl _ (S.old_range hy) _ Tryd.underlying50 rfl 35 kR lN _ rfl gw ?_) | (refine step_loadP S 50 _ _ _ rfl _ _ _ pk 35 _ pT lN _ Tryd.underlying50 rfl kR gw ?_)) | ((with_reducible refine iO _ (.load 25 _) ?_); refine step_load1 25 _ _ _ rfl (cL) _ Tryd.underlying25 rfl gw ?_) | ((with_reducible refine iO _ (.load 23 _) ?_); refine step_load1 23 _ _ _ rfl (cL) _ Tryd.underlying23 rfl gw ?_) | ((with_reducible refine iO _ (.load 5 _) ?_); refine step_load1 5 _ _ _ rfl (cL) _ Tryd.underlying5 rfl gw ?_) | ((with_reducible refine iO _ (.load 24 _) ?_); refine step_load1 24 _ _ _ rfl (cL) _ Tryd.underlying24 rfl gw ?_) | ((with_reducible refine iD 13 (.alloc 22) ?_); refine step_alloc (dst := some 13) S 22 (.agg (arr8 (List.replicate 32 0))) (arr8 (List.replicate 32 0)) kR rfl gw ?_; clear S; intro g13 w S) | ((with_reducible refine iO none (.store 22 (.tmp 13) (.tmp 120)) ?_); refine step_store S 22 (.tmp 13) (.tmp 120) _ _ rfl rfl _ _ pk 32 kR lN lN on1 gw ?_; clear S; intro w S) | ((with_reducible refine iO _ (.load 22 _) ?_); first | (refine step_loadR 22 _ _ _ rfl _ (S.old_range hy) _ Tryd.underlying22 rfl 32 kR lN _ rfl gw ?_) | (refine step_loadP S 22 _ _ _ rfl _ _ _ pk 32 _ pT lN _ Tryd.underlying22 rfl kR gw ?_)) | ((with_reducible refine iO none (.store 22 (.tmp 3) (.tmp 141)) ?_); refine step_store S 22 (.tmp 3) (.tmp 141) _ _ rfl rfl _ _ pk 32 kR lN lN on1 gw ?_; clear S; intro w S) | fail)
    go_ret
    exact ⟨rfl, S.nil⟩
  have hle : (ps.map (·.2)).length = l.length := by omega
  have hle2 : ps.length = l.length := by rw [← hle, List.length_map]
  have i2 : ((l.length : Int) != (ps.length : Int)) = false := by rw [bne_eq_false_iff_eq]; omega
  have vf := vfAll prev l (ps.map (·.2)) (by omega) hle
  obtain ⟨N, hN⟩ : ∃ N, N = (vfR prev l (ps.map (·.2))).1 := ⟨_, rfl⟩
  obtain ⟨E, hE⟩ : ∃ E, E = (vfR prev l (ps.map (·.2))).2 := ⟨_, rfl⟩
  rw [← hN, ← hE] at p1 vf
  have pv := fun x w => refValidRecord_s x w
  have P1 := Lib.hid p1; have PA := Lib.hid pa; have HR := Lib.hid hr; have HF := Lib.hid hf; have HK := Lib.hid hK; have VF := Lib.hid vf; have PV := Lib.hid pv; have HLE2 := Lib.hid hle2; have HP := Lib.hid hp; have HFL := Lib.hid hfl; clear p1 pa hr hf hK vf pv hle2 hp hfl
  clear hN hE h32 hl hle
  go_enter Tryd.func12, Tryd.ntmps12
  go_wp2_with (first | ((with_reducible refine iD 3 (.box 22 (.tmp 0)) ?_); refine step_boxA (dst := some 3) S 22 (.tmp 0) _ rfl gw ?_; clear S; intro g3 w S) | (go_at_call 29; (with_reducible refine (PA.out _ kT).mono ?_); rintro e w1 ⟨rfl, T⟩; replace S := S.call T; clear T; (try simp only [z4, z5] at S)) | ((with_reducible refine iO _ (.load 22 _) ?_); first | (refine step_load S 22 _ _ rfl _ _ _ pk _ Tryd.underlying22 rfl 32 kR lN gw ?_) | (refine step_loadO 22 _ _ rfl _ _ _ (S.old_heap (Hid.out (by assumption))) _ Tryd.underlying22 rfl 32 kR lN gw ?_) | (refine step_loadR 22 _ _ _ rfl _ (S.old_range hy) _ Tryd.underlying22 rfl 32 kR lN _ rfl gw ?_)) | (go_at_call 18; (with_reducible refine (P1.out _ (S.old HR.out) (S.oldF HF.out) kT).mono ?_); rintro e w1 ⟨rfl, T⟩; replace S := S.call T; clear T; (try simp only [z4, z5] at S)) | ((with_reducible refine iO _ (.load 50 _) ?_); first | (refine step_loadR 50 _ _ _ rfl _ (S.old_range hy) _ Tryd.underlying50 rfl 35 kR lN _ rfl gw ?_) | (refine step_loadP S 50 _ _ _ rfl _ _ _ pk 35 _ pT lN _ Tryd.underlying50 rfl kR gw ?_)) | ((with_reducible refine iO _ (.load 25 _) ?_); refine step_load1 25 _ _ _ rfl (cL) _ Tryd.underlying25 rfl gw ?_) | ((with_reducible refine iO _ (.load 23 _) ?_); refine step_load1 23 _ _ _ rfl (cL) _ Tryd.underlying23 rfl gw ?_) | ((with_reducible refine iO _ (.load 5 _) ?_); refine step_load1 5 _ _ _ rfl (cL) _ Tryd.underlying5 rfl gw ?_) | ((with_reducible refine iO _ (.load 24 _) ?_); refine step_load1 24 _ _ _ rfl (cL) _ Tryd.underlying24 rfl gw ?_) | ((with_reducible refine iD 13 (.alloc 22) ?_); refine step_alloc (dst := some 13) S 22 (.agg (arr8 (List.replicate 32 0))) (arr8 (List.replicate 32 0)) kR rfl gw ?_; clear S; intro g13 w S) | ((with_reducible refine iO none (.store 22 (.tmp 13) (.tmp 120)) ?_); refine step_store S 22 (.tmp 13) (.tmp 120) _ _ rfl rfl _ _ pk 32 kR lN lN on1 gw ?_; clear S; intro w S) | ((with_reducible refine iO _ (.load 22 _) ?_); first | (refine step_loadR 22 _ _ _ rfl _ (S.old_range hy) _ Tryd.underlying22 rfl 32 kR lN _ rfl gw ?_) | (refine step_loadP S 22 _ _ _ rfl _ _ _ pk 32 _ pT lN _ Tryd.underlying22 rfl kR gw ?_)) | ((with_reducible refine iO none (.store 22 (.tmp 3) (.tmp 141)) ?_); refine step_store S 22 (.tmp 3) (.tmp 141) _ _ rfl rfl _ _ pk 32 kR lN lN on1 gw ?_; clear S; intro w S) | fail)
  go_loopw [10] (fun u wr => ∃ (k : Nat), k ≤ l.length ∧ u = .int .i64 (k : Int) ∧ (∀ i x, i < k → l[i]? = some x → rcdV x = true) ∧ Has w0 wr [blk g3 (.cells (arr8 prev) 22 (0, 0))]) (fun u _ => l.length - (intOf u).toNat)
  case atStart => exact ⟨0, Nat.zero_le _, rfl, fun _ _ h => absurd h (Nat.not_lt_zero _), S.sub (by repeat (first | exact Sub.nil _ | refine Sub.cons pk ?_))⟩
  case round =>
    clear S
    obtain ⟨k, hk, rfl, hval, S⟩ := hrel
    by_cases hlt : k < l.length
    · have hx : l[k]? = some l[k] := List.getElem?_eq_getElem hlt
      obtain ⟨b, off, rfl, hcell⟩ := HR.out.atA (by omega)
      have hrg := HR.out.elem rcdL_length (by decide) k _ hx
      obtain ⟨x, hxe⟩ : ∃ x, x = l[k] := ⟨_, rfl⟩
      rw [← hxe] at hrg hx
      have hki : (k : Int) < (l.length : Int) := by omega
      have hki2 : (k : Int) < 9223372036854775807 := by omega
      have hE8 := VF.out.bad x (List.mem_of_getElem? hx)
      have pvx := PV.out x
      cases hv : rcdV x
      · rw [hv] at pvx
        have hE8 := hE8 hv
        subst hE8
        have HRG := Lib.hid hrg; have HVAL := Lib.hid hval; have PVX := Lib.hid pvx; have HX := Lib.hid hx; clear hrg hval pvx hx
        clear hcell hxe hv
        go_wp2_with (first | ((with_reducible refine iD 3 (.box 22 (.tmp 0)) ?_); refine step_boxA (dst := some 3) S 22 (.tmp 0) _ rfl gw ?_; clear S; intro g3 w S) | ((with_reducible refine iO _ (.load 22 _) ?_); first | (refine step_load S 22 _ _ rfl _ _ _ pk _ Tryd.underlying22 rfl 32 kR lN gw ?_) | (refine step_loadO 22 _ _ rfl _ _ _ (S.old_heap (Hid.out (by assumption))) _ Tryd.underlying22 rfl 32 kR lN gw ?_) | (refine step_loadR 22 _ _ _ rfl _ (S.old_range hy) _ Tryd.underlying22 rfl 32 kR lN _ rfl gw ?_)) | ((with_reducible refine iO _ (.load 50 _) ?_); first | (refine step_loadR 50 _ _ _ rfl _ (S.old_range hy) _ Tryd.underlying50 rfl 35 kR lN _ rfl gw ?_) | (refine step_loadP S 50 _ _ _ rfl _ _ _ pk 35 _ pT lN _ Tryd.underlying50 rfl kR gw ?_)) | (go_at_call 44; (with_reducible refine (PVX.out _).mono ?_); rintro e w1 ⟨rfl, T⟩; replace S := S.call T; clear T; (try simp only [z4, z5] at S)) | ((with_reducible refine iO _ (.load 25 _) ?_); refine step_load1 25 _ _ _ rfl (cL) _ Tryd.underlying25 rfl gw ?_) | ((with_reducible refine iO _ (.load 23 _) ?_); refine step_load1 23 _ _ _ rfl (cL) _ Tryd.underlying23 rfl gw ?_) | ((with_reducible refine iO _ (.load 5 _) ?_); refine step_load1 5 _ _ _ rfl (cL) _ Tryd.underlying5 rfl gw ?_) | ((with_reducible refine iO _ (.load 24 _) ?_); refine step_load1 24 _ _ _ rfl (cL) _ Tryd.underlying24 rfl gw ?_) | ((with_reducible refine iD 13 (.alloc 22) ?_); refine step_alloc (dst := some 13) S 22 (.agg (arr8 (List.replicate 32 0))) (arr8 (List.replicate 32 0)) kR rfl gw ?_; clear S; intro g13 w S) | ((with_reducible refine iO none (.store 22 (.tmp 13) (.tmp 120)) ?_); refine step_store S 22 (.tmp 13) (.tmp 120) _ _ rfl rfl _ _ pk 32 kR lN lN on1 gw ?_; clear S; intro w S) | ((with_reducible refine iO _ (.load 22 _) ?_); first | (refine step_loadR 22 _ _ _ rfl _ (S.old_range hy) _ Tryd.underlying22 rfl 32 kR lN _ rfl gw ?_) | (refine step_loadP S 22 _ _ _ rfl _ _ _ pk 32 _ pT lN _ Tryd.underlying22 rfl kR gw ?_)) | ((with_reducible refine iO none (.store 22 (.tmp 3) (.tmp 141)) ?_); refine step_store S 22 (.tmp 3) (.tmp 141) _ _ rfl rfl _ _ pk 32 kR lN lN on1 gw ?_; clear S; intro w S) | fail)
        go_ret
        exact ⟨rfl, S.nil⟩
      · rw [hv] at pvx
        have HRG := Lib.hid hrg; have HVAL := Lib.hid hval; have PVX := Lib.hid pvx; have HX := Lib.hid hx; have HV := Lib.hid hv; clear hrg hval pvx hx hv
        clear hcell hxe hE8
        go_wp2_with (first | ((with_reducible refine iD 3 (.box 22 (.tmp 0)) ?_); refine step_boxA (dst := some 3) S 22 (.tmp 0) _ rfl gw ?_; clear S; intro g3 w S) | ((with_reducible refine iO _ (.load 22 _) ?_); first | (refine step_load S 22 _ _ rfl _ _ _ pk _ Tryd.underlying22 rfl 32 kR lN gw ?_) | (refine step_loadO 22 _ _ rfl _ _ _ (S.old_heap (Hid.out (by assumption))) _ Tryd.underlying22 rfl 32 kR lN gw ?_) | (refine step_loadR 22 _ _ _ rfl _ (S.old_range hy) _ Tryd.underlying22 rfl 32 kR lN _ rfl gw ?_)) | ((with_reducible refine iO _ (.load 50 _) ?_); first | (refine step_loadR 50 _ _ _ rfl _ (S.old_range hy) _ Tryd.underlying50 rfl 35 kR lN _ rfl gw ?_) | (refine step_loadP S 50 _ _ _ rfl _ _ _ pk 35 _ pT lN _ Tryd.underlying50 rfl kR gw ?_)) | (go_at_call 44; (with_reducible refine (PVX.out _).mono ?_); rintro e w1 ⟨rfl, T⟩; replace S := S.call T; clear T; (try simp only [z4, z5] at S)) | ((with_reducible refine iO _ (.load 25 _) ?_); refine step_load1 25 _ _ _ rfl (cL) _ Tryd.underlying25 rfl gw ?_) | ((with_reducible refine iO _ (.load 23 _) ?_); refine step_load1 23 _ _ _ rfl (cL) _ Tryd.underlying23 rfl gw ?_) | ((with_reducible refine iO _ (.load 5 _) ?_); refine step_load1 5 _ _ _ rfl (cL) _ Tryd.underlying5 rfl gw ?_) | ((with_reducible refine iO _ (.load 24 _) ?_); refine step_load1 24 _ _ _ rfl (cL) _ Tryd.underlying24 rfl gw ?_) | ((with_reducible refine iD 13 (.alloc 22) ?_); refine step_alloc (dst := some 13) S 22 (.agg (arr8 (List.replicate 32 0))) (arr8 (List.replicate 32 0)) kR rfl gw ?_; clear S; intro g13 w S) | ((with_reducible refine iO none (.store 22 (.tmp 13) (.tmp 120)) ?_); refine step_store S 22 (.tmp 13) (.tmp 120) _ _ rfl rfl _ _ pk 32 kR lN lN on1 gw ?_; clear S; intro w S) | ((with_reducible refine iO _ (.load 22 _) ?_); first | (refine step_loadR 22 _ _ _ rfl _ (S.old_range hy) _ Tryd.underlying22 rfl 32 kR lN _ rfl gw ?_) | (refine step_loadP S 22 _ _ _ rfl _ _ _ pk 32 _ pT lN _ Tryd.underlying22 rfl kR gw ?_)) | ((with_reducible refine iO none (.store 22 (.tmp 3) (.tmp 141)) ?_); refine step_store S 22 (.tmp 3) (.tmp 141) _ _ rfl rfl _ _ pk 32 kR lN lN on1 gw ?_; clear S; intro w S) | fail)
        go_roundw
        case rel => exact ⟨k + 1, by omega, by go_num, fun i y hi hy => by
          by_cases h : i < k
          · exact HVAL.out i y h hy
          · obtain rfl : i = k := by omega
            rw [HX.out] at hy
            obtain rfl := Option.some.inj hy
            exact HV.out, S⟩
        case measure => simp [intOf]; omega
    · obtain rfl : k = l.length := by omega
      have hki : ¬ (l.length : Int) < (l.length : Int) := by omega
      have hall : ∀ x ∈ l, rcdV x = true := fun x hx => by
        obtain ⟨i, hi, rfl⟩ := List.getElem_of_mem hx
        exact hval i _ hi (List.getElem?_eq_getElem hi)
      clear hval
      have HALL := Lib.hid hall; clear hall
      go_wp2_with (first | ((with_reducible refine iD 3 (.box 22 (.tmp 0)) ?_); refine step_boxA (dst := some 3) S 22 (.tmp 0) _ rfl gw ?_; clear S; intro g3 w S) | ((with_reducible refine iO _ (.load 22 _) ?_); first | (refine step_load S 22 _ _ rfl _ _ _ pk _ Tryd.underlying22 rfl 32 kR lN gw ?_) | (refine step_loadO 22 _ _ rfl _ _ _ (S.old_heap (Hid.out (by assumption))) _ Tryd.underlying22 rfl 32 kR lN gw ?_) | (refine step_loadR 22 _ _ _ rfl _ (S.old_range hy) _ Tryd.underlying22 rfl 32 kR lN _ rfl gw ?_)) | ((with_reducible refine iO _ (.load 50 _) ?_); first | (refine step_loadR 50 _ _ _ rfl _ (S.old_range hy) _ Tryd.underlying50 rfl 35 kR lN _ rfl gw ?_) | (refine step_loadP S 50 _ _ _ rfl _ _ _ pk 35 _ pT lN _ Tryd.underlying50 rfl kR gw ?_)) | ((with_reducible refine iO _ (.load 25 _) ?_); refine step_load1 25 _ _ _ rfl (cL) _ Tryd.underlying25 rfl gw ?_) | ((with_reducible refine iO _ (.load 23 _) ?_); refine step_load1 23 _ _ _ rfl (cL) _ Tryd.underlying23 rfl gw ?_) | ((with_reducible refine iO _ (.load 5 _) ?_); refine step_load1 5 _ _ _ rfl (cL) _ Tryd.underlying5 rfl gw ?_) | ((with_reducible refine iO _ (.load 24 _) ?_); refine step_load1 24 _ _ _ rfl (cL) _ Tryd.underlying24 rfl gw ?_) | ((with_reducible refine iD 13 (.alloc 22) ?_); refine step_alloc (dst := some 13) S 22 (.agg (arr8 (List.replicate 32 0))) (arr8 (List.replicate 32 0)) kR rfl gw ?_; clear S; intro g13 w S) | ((with_reducible refine iO none (.store 22 (.tmp 13) (.tmp 120)) ?_); refine step_store S 22 (.tmp 13) (.tmp 120) _ _ rfl rfl _ _ pk 32 kR lN lN on1 gw ?_; clear S; intro w S) | ((with_reducible refine iO _ (.load 22 _) ?_); first | (refine step_loadR 22 _ _ _ rfl _ (S.old_range hy) _ Tryd.underlying22 rfl 32 kR lN _ rfl gw ?_) | (refine step_loadP S 22 _ _ _ rfl _ _ _ pk 32 _ pT lN _ Tryd.underlying22 rfl kR gw ?_)) | ((with_reducible refine iO none (.store 22 (.tmp 3) (.tmp 141)) ?_); refine step_store S 22 (.tmp 3) (.tmp 141) _ _ rfl rfl _ _ pk 32 kR lN lN on1 gw ?_; clear S; intro w S) | fail)
      go_loopw [11] (fun u wr => ∃ (k : Nat), k ≤ l.length ∧ u = .int .i64 (k : Int) ∧ (∀ i p, i < k → ps[i]? = some p → p.2.length ≤ 64) ∧ Has w0 wr [blk g3 (.cells (arr8 prev) 22 (0, 0))]) (fun u _ => l.length - (intOf u).toNat)
      case atStart => exact ⟨0, Nat.zero_le _, rfl, fun _ _ h => absurd h (Nat.not_lt_zero _), S⟩
      case round =>
        clear S
        obtain ⟨k, hk, rfl, hsh, S⟩ := hrel
        by_cases hlt : k < l.length
        · have hkp : k < ps.length := by rw [HLE2.out]; exact hlt
          obtain ⟨b, off, rfl, hcell⟩ := HF.out.1.atA (by omega)
          obtain ⟨p, hpe⟩ : ∃ p, ps[k]? = some p := ⟨_, List.getElem?_eq_getElem hkp⟩
          have hpm := List.mem_of_getElem? hpe
          have hcp := hcell k p.1 (by rw [List.getElem?_map, hpe]; rfl)
          have hbp := HF.out.2 p hpm
          have hki : (k : Int) < (l.length : Int) := by omega
          have hkp2 : (k : Int) < (ps.length : Int) := by omega
          have hki2 : (k : Int) < 9223372036854775807 := by omega
          have hE4 := VF.out.long HALL.out p.2 (List.mem_map_of_mem hpm)
          obtain ⟨p1, p2⟩ := p
          dsimp only at hcp hbp hE4
          obtain ⟨ap, cp, rfl, _, _⟩ := Sl.shape hbp
          by_cases h64 : 64 < p2.length
          · have hE4 := hE4 h64
            subst hE4
            have i3 : 64 < (p2.length : Int) := by omega
            have HCP := Lib.hid hcp; have HSH := Lib.hid hsh; clear hcp hsh
            clear hcell hpe hpm hbp h64
            go_wp2_with (first | ((with_reducible refine iD 3 (.box 22 (.tmp 0)) ?_); refine step_boxA (dst := some 3) S 22 (.tmp 0) _ rfl gw ?_; clear S; intro g3 w S) | ((with_reducible refine iO _ (.load 22 _) ?_); first | (refine step_load S 22 _ _ rfl _ _ _ pk _ Tryd.underlying22 rfl 32 kR lN gw ?_) | (refine step_loadO 22 _ _ rfl _ _ _ (S.old_heap (Hid.out (by assumption))) _ Tryd.underlying22 rfl 32 kR lN gw ?_) | (refine step_loadR 22 _ _ _ rfl _ (S.old_range hy) _ Tryd.underlying22 rfl 32 kR lN _ rfl gw ?_)) | ((with_reducible refine iO _ (.load 50 _) ?_); first | (refine step_loadR 50 _ _ _ rfl _ (S.old_range hy) _ Tryd.underlying50 rfl 35 kR lN _ rfl gw ?_) | (refine step_loadP S 50 _ _ _ rfl _ _ _ pk 35 _ pT lN _ Tryd.underlying50 rfl kR gw ?_)) | ((with_reducible refine iO _ (.load 25 _) ?_); refine step_load1 25 _ _ _ rfl (cL) _ Tryd.underlying25 rfl gw ?_) | ((with_reducible refine iO _ (.load 23 _) ?_); refine step_load1 23 _ _ _ rfl (cL) _ Tryd.underlying23 rfl gw ?_) | ((with_reducible refine iO _ (.load 5 _) ?_); refine step_load1 5 _ _ _ rfl (cL) _ Tryd.underlying5 rfl gw ?_) | ((with_reducible refine iO _ (.load 24 _) ?_); refine step_load1 24 _ _ _ rfl (cL) _ Tryd.underlying24 rfl gw ?_) | ((with_reducible refine iD 13 (.alloc 22) ?_); refine step_alloc (dst := some 13) S 22 (.agg (arr8 (List.replicate 32 0))) (arr8 (List.replicate 32 0)) kR rfl gw ?_; clear S; intro g13 w S) | ((with_reducible refine iO none (.store 22 (.tmp 13) (.tmp 120)) ?_); refine step_store S 22 (.tmp 13) (.tmp 120) _ _ rfl rfl _ _ pk 32 kR lN lN on1 gw ?_; clear S; intro w S) | ((with_reducible refine iO _ (.load 22 _) ?_); first | (refine step_loadR 22 _ _ _ rfl _ (S.old_range hy) _ Tryd.underlying22 rfl 32 kR lN _ rfl gw ?_) | (refine step_loadP S 22 _ _ _ rfl _ _ _ pk 32 _ pT lN _ Tryd.underlying22 rfl kR gw ?_)) | ((with_reducible refine iO none (.store 22 (.tmp 3) (.tmp 141)) ?_); refine step_store S 22 (.tmp 3) (.tmp 141) _ _ rfl rfl _ _ pk 32 kR lN lN on1 gw ?_; clear S; intro w S) | fail)
            go_ret
            exact ⟨rfl, S.nil⟩
          · have i3 : ¬ 64 < (p2.length : Int) := by omega
            have HCP := Lib.hid hcp; have HSH := Lib.hid hsh; have HPE := Lib.hid hpe; have H64 := Lib.hid h64; clear hcp hsh hpe h64
            clear hcell hpm hbp hE4
            go_wp2_with (first | ((with_reducible refine iD 3 (.box 22 (.tmp 0)) ?_); refine step_boxA (dst := some 3) S 22 (.tmp 0) _ rfl gw ?_; clear S; intro g3 w S) | ((with_reducible refine iO _ (.load 22 _) ?_); first | (refine step_load S 22 _ _ rfl _ _ _ pk _ Tryd.underlying22 rfl 32 kR lN gw ?_) | (refine step_loadO 22 _ _ rfl _ _ _ (S.old_heap (Hid.out (by assumption))) _ Tryd.underlying22 rfl 32 kR lN gw ?_) | (refine step_loadR 22 _ _ _ rfl _ (S.old_range hy) _ Tryd.underlying22 rfl 32 kR lN _ rfl gw ?_)) | ((with_reducible refine iO _ (.load 50 _) ?_); first | (refine step_loadR 50 _ _ _ rfl _ (S.old_range hy) _ Tryd.underlying50 rfl 35 kR lN _ rfl gw ?_) | (refine step_loadP S 50 _ _ _ rfl _ _ _ pk 35 _ pT lN _ Tryd.underlying50 rfl kR gw ?_)) | ((with_reducible refine iO _ (.load 25 _) ?_); refine step_load1 25 _ _ _ rfl (cL) _ Tryd.underlying25 rfl gw ?_) | ((with_reducible refine iO _ (.load 23 _) ?_); refine step_load1 23 _ _ _ rfl (cL) _ Tryd.underlying23 rfl gw ?_) | ((with_reducible refine iO _ (.load 5 _) ?_); refine step_load1 5 _ _ _ rfl (cL) _ Tryd.underlying5 rfl gw ?_) | ((with_reducible refine iO _ (.load 24 _) ?_); refine step_load1 24 _ _ _ rfl (cL) _ Tryd.underlying24 rfl gw ?_) | ((with_reducible refine iD 13 (.alloc 22) ?_); refine step_alloc (dst := some 13) S 22 (.agg (arr8 (List.replicate 32 0))) (arr8 (List.replicate 32 0)) kR rfl gw ?_; clear S; intro g13 w S) | ((with_reducible refine iO none (.store 22 (.tmp 13) (.tmp 120)) ?_); refine step_store S 22 (.tmp 13) (.tmp 120) _ _ rfl rfl _ _ pk 32 kR lN lN on1 gw ?_; clear S; intro w S) | ((with_reducible refine iO _ (.load 22 _) ?_); first | (refine step_loadR 22 _ _ _ rfl _ (S.old_range hy) _ Tryd.underlying22 rfl 32 kR lN _ rfl gw ?_) | (refine step_loadP S 22 _ _ _ rfl _ _ _ pk 32 _ pT lN _ Tryd.underlying22 rfl kR gw ?_)) | ((with_reducible refine iO none (.store 22 (.tmp 3) (.tmp 141)) ?_); refine step_store S 22 (.tmp 3) (.tmp 141) _ _ rfl rfl _ _ pk 32 kR lN lN on1 gw ?_; clear S; intro w S) | fail)
            go_roundw
            case rel => exact ⟨k + 1, by omega, by go_num, fun i q hi hq => by
              by_cases h : i < k
              · exact HSH.out i q h hq
              · obtain rfl : i = k := by omega
                rw [HPE.out] at hq
                obtain rfl := Option.some.inj hq
                exact Nat.le_of_not_lt H64.out, S⟩
            case measure => simp [intOf]; omega
        · obtain rfl : k = l.length := by omega
          have hki : ¬ (l.length : Int) < (l.length : Int) := by omega
          have hsm : ∀ p ∈ ps, p.2.length ≤ 64 := fun p hp => by
            obtain ⟨i, hi, rfl⟩ := List.getElem_of_mem hp
            exact hsh i _ (by rw [HLE2.out] at hi; exact hi) (List.getElem?_eq_getElem hi)
          obtain ⟨hE0, hNv⟩ := VF.out.good HALL.out (fun b hb => by
            obtain ⟨p, hp, rfl⟩ := List.mem_map.1 hb
            exact hsm p hp)
          subst hE0
          have hNl := vfN_le prev l (ps.map (·.2))
          rw [← hNv] at hNl
          have i5 : ¬ (N : Int) < 0 := by omega
          have i6 : ¬ (l.length : Int) < (N : Int) := by omega
          clear hsh
          have HSM := Lib.hid hsm; have HNL := Lib.hid hNl; have HNV := Lib.hid hNv; clear hsm hNl hNv
          go_wp2_with (first | ((with_reducible refine iD 3 (.box 22 (.tmp 0)) ?_); refine step_boxA (dst := some 3) S 22 (.tmp 0) _ rfl gw ?_; clear S; intro g3 w S) | ((with_reducible refine iO _ (.load 22 _) ?_); first | (refine step_load S 22 _ _ rfl _ _ _ pk _ Tryd.underlying22 rfl 32 kR lN gw ?_) | (refine step_loadO 22 _ _ rfl _ _ _ (S.old_heap (Hid.out (by assumption))) _ Tryd.underlying22 rfl 32 kR lN gw ?_) | (refine step_loadR 22 _ _ _ rfl _ (S.old_range hy) _ Tryd.underlying22 rfl 32 kR lN _ rfl gw ?_)) | ((with_reducible refine iO _ (.load 50 _) ?_); first | (refine step_loadR 50 _ _ _ rfl _ (S.old_range hy) _ Tryd.underlying50 rfl 35 kR lN _ rfl gw ?_) | (refine step_loadP S 50 _ _ _ rfl _ _ _ pk 35 _ pT lN _ Tryd.underlying50 rfl kR gw ?_)) | ((with_reducible refine iO _ (.load 25 _) ?_); refine step_load1 25 _ _ _ rfl (cL) _ Tryd.underlying25 rfl gw ?_) | ((with_reducible refine iO _ (.load 23 _) ?_); refine step_load1 23 _ _ _ rfl (cL) _ Tryd.underlying23 rfl gw ?_) | ((with_reducible refine iO _ (.load 5 _) ?_); refine step_load1 5 _ _ _ rfl (cL) _ Tryd.underlying5 rfl gw ?_) | ((with_reducible refine iO _ (.load 24 _) ?_); refine step_load1 24 _ _ _ rfl (cL) _ Tryd.underlying24 rfl gw ?_) | ((with_reducible refine iD 13 (.alloc 22) ?_); refine step_alloc (dst := some 13) S 22 (.agg (arr8 (List.replicate 32 0))) (arr8 (List.replicate 32 0)) kR rfl gw ?_; clear S; intro g13 w S) | ((with_reducible refine iO none (.store 22 (.tmp 13) (.tmp 120)) ?_); refine step_store S 22 (.tmp 13) (.tmp 120) _ _ rfl rfl _ _ pk 32 kR lN lN on1 gw ?_; clear S; intro w S) | ((with_reducible refine iO _ (.load 22 _) ?_); first | (refine step_loadR 22 _ _ _ rfl _ (S.old_range hy) _ Tryd.underlying22 rfl 32 kR lN _ rfl gw ?_) | (refine step_loadP S 22 _ _ _ rfl _ _ _ pk 32 _ pT lN _ Tryd.underlying22 rfl kR gw ?_)) | ((with_reducible refine iO none (.store 22 (.tmp 3) (.tmp 141)) ?_); refine step_store S 22 (.tmp 3) (.tmp 141) _ _ rfl rfl _ _ pk 32 kR lN lN on1 gw ?_; clear S; intro w S) | fail)
          go_loopw [12] (fun u wr => ∃ (k : Nat) (L : List UInt8), k ≤ l.length ∧ u = .int .i64 (k : Int) ∧ L.length = 32 ∧ ((k ≤ N ∧ k + vfN L (l.drop k) ((ps.map (·.2)).drop k) = N) ∨ k = N + 1) ∧ Has w0 wr [blk g3 (.cells (arr8 L) 22 (0, 0))]) (fun u _ => l.length - (intOf u).toNat)
          case atStart => exact ⟨0, prev, Nat.zero_le _, rfl, HP.out, .inl ⟨Nat.zero_le _, by rw [List.drop_zero, List.drop_zero, Nat.zero_add]; exact HNV.out.symm⟩, S⟩
          case round =>
            clear S
            obtain ⟨k, L, hk, rfl, hL, hst, S⟩ := hrel
            by_cases hgo : k ≤ N ∧ k < l.length
            · obtain ⟨hkn, hlt⟩ := hgo
              have hcount : k + vfN L (l.drop k) ((ps.map (·.2)).drop k) = N := by
                rcases hst with h | h
                · exact h.2
                · omega
              have hki : (k : Int) < (l.length : Int) := by omega
              have hki3 : (k : Int) ≤ (N : Int) := by omega
              have hki2 : (k : Int) < 9223372036854775807 := by omega
              clear hst
              have hx : l[k]? = some l[k] := List.getElem?_eq_getElem hlt
              have hkp : k < ps.length := by rw [HLE2.out]; exact hlt
              obtain ⟨p, hpe⟩ : ∃ p, ps[k]? = some p := ⟨_, List.getElem?_eq_getElem hkp⟩
              have hpm := List.mem_of_getElem? hpe
              obtain ⟨b2, off2, rfl, hcell2⟩ := HF.out.1.atA (by omega)
              have hcp := hcell2 k p.1 (by rw [List.getElem?_map, hpe]; rfl)
              have hbp := HF.out.2 p hpm
              have hl64 := HSM.out p hpm
              obtain ⟨b, off, rfl, hcell⟩ := HR.out.atA (by omega)
              have hrg := HR.out.elem rcdL_length (by decide) k _ hx
              obtain ⟨x, hxe⟩ : ∃ x, x = l[k] := ⟨_, rfl⟩
              rw [← hxe] at hrg hx
              have y0 := hrg 0 _ rfl
              have y1 := hrg 1 _ rfl
              have y2 := hrg 2 _ rfl
              have y3 : w0.rangeAt b (off + k * 35 + 3) (x.link.map by8) := fun j u hj => by
                have := hrg (3 + j) u (by unfold rcdL; rw [List.getElem?_append_right (by simp)]; simpa using hj)
                rw [← Nat.add_assoc] at this
                exact this
              have hv : rcdV x = true := HALL.out x (List.mem_of_getElem? hx)
              obtain ⟨hq, hnext⟩ := vfN_link L l (ps.map (·.2)) k N x p.2 hx (by rw [List.getElem?_map, hpe]; rfl) hcount
              have hE0 : lnkE x.tick x.kind x.code p.2.length = 0 := by
                unfold lnkE
                rw [if_neg (by rw [show lkV x.tick x.kind x.code = true from hv]; decide), if_neg (by omega)]
              have pk := fun w h1 h2 => link_s L x.tick x.kind x.code p.1 p.2 w hL h1 h2 (by omega)
              rw [hE0, show lnkR L x.tick x.kind x.code p.2 = lnkD L x.tick x.kind x.code p.2 from if_pos hE0] at pk
              obtain ⟨D, hD⟩ : ∃ D, D = lnkD L x.tick x.kind x.code p.2 := ⟨_, rfl⟩
              have hDl : D.length = 32 := by rw [hD]; exact sumD_length _
              rw [← hD] at hq pk
              have he := fun w' => eql32 D x.link hDl x.len w'
              rw [hq] at he
              have eg : Tryd.prog.eqGuardType Tryd.prog.depth 22 = false := by kernel_rfl
              have hxl := x.len
              have hki4 : (k : Int) < (ps.length : Int) := by omega
              clear hx hpe hpm hcell2 hcell hxe hv hE0 hD hq hcount hl64 hkp
              have HRG := Lib.hid hrg; have Y0 := Lib.hid y0; have Y1 := Lib.hid y1; have Y2 := Lib.hid y2; have Y3 := Lib.hid y3; have HCP := Lib.hid hcp; have HBP := Lib.hid hbp; have HDL := Lib.hid hDl; have HNEXT := Lib.hid hnext; have PK := Lib.hid pk; have HL := Lib.hid hL; have HXL := Lib.hid hxl; clear hrg y0 y1 y2 y3 hcp hbp hDl hnext pk hL hxl
              go_upto_region 22 with (first | ((with_reducible refine iD 3 (.box 22 (.tmp 0)) ?_); refine step_boxA (dst := some 3) S 22 (.tmp 0) _ rfl gw ?_; clear S; intro g3 w S) | ((with_reducible refine iO _ (.load 22 _) ?_); first | (refine step_load S 22 _ _ rfl _ _ _ pk _ Tryd.underlying22 rfl 32 kR lN gw ?_) | (refine step_loadO 22 _ _ rfl _ _ _ (S.old_heap (Hid.out (by assumption))) _ Tryd.underlying22 rfl 32 kR lN gw ?_) | (refine step_loadR 22 _ _ _ rfl _ (S.old_range hy) _ Tryd.underlying22 rfl 32 kR lN _ rfl gw ?_)) | ((with_reducible refine iO _ (.load 50 _) ?_); first | (refine step_loadR 50 _ _ _ rfl _ (S.old_range hy) _ Tryd.underlying50 rfl 35 kR lN _ rfl gw ?_) | (refine step_loadP S 50 _ _ _ rfl _ _ _ pk 35 _ pT lN _ Tryd.underlying50 rfl kR gw ?_)) | ((with_reducible refine iO _ (.load 25 _) ?_); refine step_load1 25 _ _ _ rfl (cL) _ Tryd.underlying25 rfl gw ?_) | ((with_reducible refine iO _ (.load 23 _) ?_); refine step_load1 23 _ _ _ rfl (cL) _ Tryd.underlying23 rfl gw ?_) | ((with_reducible refine iO _ (.load 5 _) ?_); refine step_load1 5 _ _ _ rfl (cL) _ Tryd.underlying5 rfl gw ?_) | ((with_reducible refine iO _ (.load 24 _) ?_); refine step_load1 24 _ _ _ rfl (cL) _ Tryd.underlying24 rfl gw ?_) | ((with_reducible refine iD 13 (.alloc 22) ?_); refine step_alloc (dst := some 13) S 22 (.agg (arr8 (List.replicate 32 0))) (arr8 (List.replicate 32 0)) kR rfl gw ?_; clear S; intro g13 w S) | ((with_reducible refine iO none (.store 22 (.tmp 13) (.tmp 120)) ?_); refine step_store S 22 (.tmp 13) (.tmp 120) _ _ rfl rfl _ _ pk 32 kR lN lN on1 gw ?_; clear S; intro w S) | ((with_reducible refine iO _ (.load 22 _) ?_); first | (refine step_loadR 22 _ _ _ rfl _ (S.old_range hy) _ Tryd.underlying22 rfl 32 kR lN _ rfl gw ?_) | (refine step_loadP S 22 _ _ _ rfl _ _ _ pk 32 _ pT lN _ Tryd.underlying22 rfl kR gw ?_)) | ((with_reducible refine iO none (.store 22 (.tmp 3) (.tmp 141)) ?_); refine step_store S 22 (.tmp 3) (.tmp 141) _ _ rfl rfl _ _ pk 32 kR lN lN on1 gw ?_; clear S; intro w S) | fail)
              refine wp_rely S [⟨[], [], [], fun _ v => v = .agg (arr8 L), fun _ v => []⟩, ⟨[], [], [], fun _ v => v = (.slice (some ⟨b, off, none⟩) l.length c0), fun _ v => []⟩, ⟨[], [], [], fun _ v => v = (.int .i64 (k : Int)), fun _ v => []⟩, ⟨[1, 2], [], [], fun _ v => v = .pointer (some ⟨b, off + k * 35, none⟩), fun _ v => []⟩, ⟨[1, 2, 3], [], [], fun _ v => v = .pointer (some ⟨b, off + k * 35, none⟩), fun _ v => []⟩, ⟨[1, 2, 3, 4], [], [], fun _ v => v = .int .u64 (x.tick.toNat : Int), fun _ v => []⟩, ⟨[], [], [], fun _ v => v = (.slice (some ⟨b, off, none⟩) l.length c0), fun _ v => []⟩, ⟨[], [], [], fun _ v => v = (.int .i64 (k : Int)), fun _ v => []⟩, ⟨[6, 7], [], [], fun _ v => v = .pointer (some ⟨b, off + k * 35, none⟩), fun _ v => []⟩, ⟨[6, 7, 8], [], [], fun _ v => v = .pointer (some ⟨b, off + k * 35 + 1, none⟩), fun _ v => []⟩, ⟨[6, 7, 8, 9], [], [], fun _ v => v = by8 x.kind, fun _ v => []⟩, ⟨[], [], [], fun _ v => v = (.slice (some ⟨b, off, none⟩) l.length c0), fun _ v => []⟩, ⟨[], [], [], fun _ v => v = (.int .i64 (k : Int)), fun _ v => []⟩, ⟨[11, 12], [], [], fun _ v => v = .pointer (some ⟨b, off + k * 35, none⟩), fun _ v => []⟩, ⟨[11, 12, 13], [], [], fun _ v => v = .pointer (some ⟨b, off + k * 35 + 2, none⟩), fun _ v => []⟩, ⟨[11, 12, 13, 14], [], [], fun _ v => v = .int .i64 (cdV x), fun _ v => []⟩, ⟨[], [], [], fun _ v => v = (.slice (some ⟨b2, off2, none⟩) ps.length c1), fun _ v => []⟩, ⟨[], [], [], fun _ v => v = (.int .i64 (k : Int)), fun _ v => []⟩, ⟨[16, 17], [], [], fun _ v => v = .pointer (some ⟨b2, off2 + k, none⟩), fun _ v => []⟩, ⟨[16, 17, 18], [], [], fun _ v => v = p.1, fun _ v => []⟩, ⟨[0, 1, 2, 3, 4, 5, 6, 7, 8, 9, 10, 11, 12, 13, 14, 15, 16, 17, 18, 19], [], [], fun _ v => v = .tuple #[.agg (arr8 D), .int .i64 0], fun _ v => []⟩, ⟨[0, 1, 2, 3, 4, 5, 6, 7, 8, 9, 10, 11, 12, 13, 14, 15, 16, 17, 18, 19, 20], [], [], fun _ v => v = (.tuple #[.agg (arr8 D), .int .i64 0]), fun _ v => []⟩, ⟨[0, 1, 2, 3, 4, 5, 6, 7, 8, 9, 10, 11, 12, 13, 14, 15, 16, 17, 18, 19, 20, 21], [], [], fun _ v => v = .agg (arr8 D), fun _ v => []⟩, ⟨[0, 1, 2, 3, 4, 5, 6, 7, 8, 9, 10, 11, 12, 13, 14, 15, 16, 17, 18, 19, 20, 21], [], [], fun _ v => v = .int .i64 0, fun _ v => []⟩, ⟨[], [], [], fun _ v => ∃ g, v = .pointer (some ⟨g, 0, none⟩), fun _ v => [blk (ptrBlk v) (.cells (arr8 (List.replicate 32 0)) 22 (0, 0))]⟩, ⟨[0, 1, 2, 3, 4, 5, 6, 7, 8, 9, 10, 11, 12, 13, 14, 15, 16, 17, 18, 19, 20, 21, 22, 24], [24], [], fun _ v => True, fun d v => [blk (ptrBlk (d 24)) (.cells ((arr8 D)) 22 (0, 0))]⟩, ⟨[0, 1, 2, 3, 4, 5, 6, 7, 8, 9, 10, 11, 12, 13, 14, 15, 16, 17, 18, 19, 20, 21, 22, 23, 24, 25], [], [], fun _ v => v = (.int .i64 0), fun _ v => []⟩] ?A1 ?hA1 kR kR kR [0, 1, 2, 3, 4, 5, 6, 7, 8, 9, 10, 11, 12, 13, 14, 15, 16, 17, 18, 19, 20, 21, 22, 23, 25, 26] kR ?hok1 ?fin1
              case hA1 => intro u; simp only [putAll, List.length_cons, List.length_nil, Nat.zero_add, Nat.reduceAdd, dstAt, List.getElem?_toArray, List.getElem?_cons_zero, List.getElem?_cons_succ, Option.bind_some, Act.put, List.setIfInBounds_toArray, List.set_cons_zero, List.set_cons_succ]; rfl
              case hok1 =>
                intro i hi
                obtain rfl | rfl | rfl | rfl | rfl | rfl | rfl | rfl | rfl | rfl | rfl | rfl | rfl | rfl | rfl | rfl | rfl | rfl | rfl | rfl | rfl | rfl | rfl | rfl | rfl | rfl | rfl : i = 0 ∨ i = 1 ∨ i = 2 ∨ i = 3 ∨ i = 4 ∨ i = 5 ∨ i = 6 ∨ i = 7 ∨ i = 8 ∨ i = 9 ∨ i = 10 ∨ i = 11 ∨ i = 12 ∨ i = 13 ∨ i = 14 ∨ i = 15 ∨ i = 16 ∨ i = 17 ∨ i = 18 ∨ i = 19 ∨ i = 20 ∨ i = 21 ∨ i = 22 ∨ i = 23 ∨ i = 24 ∨ i = 25 ∨ i = 26 := by simp only [List.length_cons, List.length_nil, Nat.zero_add, Nat.reduceAdd] at hi; omega
                · clear hi
                  refine step_of rfl rfl rfl ?_
                  intro u G w hf S
                  simp only [resOf, spec, RSpec.resAt, z0, z1, z2, z3, z4, z5, z6, z7, ptrBlk] at S ⊢
                  refine does_load 22 (.tmp 3) g3 rfl _ _ _ (S.get (r := blk g3 _) pk) _ Tryd.underlying22 rfl 32 kR lN ?_; exact ⟨rfl, S⟩
                · clear hi
                  refine step_of rfl rfl rfl ?_
                  intro u G w hf S
                  simp only [resOf, spec, RSpec.resAt, z0, z1, z2, z3, z4, z5, z6, z7, ptrBlk] at S ⊢
                  simp only [does]
                  go_simp
                  try first | exact S | exact ⟨vv, S⟩ | exact vv
                · clear hi
                  refine step_of rfl rfl rfl ?_
                  intro u G w hf S
                  simp only [resOf, spec, RSpec.resAt, z0, z1, z2, z3, z4, z5, z6, z7, ptrBlk] at S ⊢
                  simp only [does]
                  go_simp
                  try first | exact S | exact ⟨vv, S⟩ | exact vv
                · clear hi
                  refine step_of rfl rfl rfl ?_
                  intro u G w hf S
                  have f1 : u 1 = (.slice (some ⟨b, off, none⟩) l.length c0) := hf 1 (by simp)
                  have f2 : u 2 = (.int .i64 (k : Int)) := hf 2 (by simp)
                  simp only [resOf, spec, RSpec.resAt, z0, z1, z2, z3, z4, z5, z6, z7, ptrBlk] at S ⊢
                  simp only [f1, f2]
                  simp only [does]
                  go_simp
                  try first | exact S | exact ⟨vv, S⟩ | exact vv
                · clear hi
                  refine step_of rfl rfl rfl ?_
                  intro u G w hf S
                  have f3 : u 3 = .pointer (some ⟨b, off + k * 35, none⟩) := hf 3 (by simp)
                  simp only [resOf, spec, RSpec.resAt, z0, z1, z2, z3, z4, z5, z6, z7, ptrBlk] at S ⊢
                  simp only [f3]
                  simp only [does]
                  go_simp
                  try first | exact S | exact ⟨vv, S⟩ | exact vv
                · clear hi
                  refine step_of rfl rfl rfl ?_
                  intro u G w hf S
                  have f4 : u 4 = .pointer (some ⟨b, off + k * 35, none⟩) := hf 4 (by simp)
                  simp only [resOf, spec, RSpec.resAt, z0, z1, z2, z3, z4, z5, z6, z7, ptrBlk] at S ⊢
                  simp only [f4]
                  refine does_load1 23 (.tmp 103) _ _ rfl (S.old_cell hy) _ Tryd.underlying23 rfl ?_; exact ⟨rfl, S⟩
                · clear hi
                  refine step_of rfl rfl rfl ?_
                  intro u G w hf S
                  simp only [resOf, spec, RSpec.resAt, z0, z1, z2, z3, z4, z5, z6, z7, ptrBlk] at S ⊢
                  simp only [does]
                  go_simp
                  try first | exact S | exact ⟨vv, S⟩ | exact vv
                · clear hi
                  refine step_of rfl rfl rfl ?_
                  intro u G w hf S
                  simp only [resOf, spec, RSpec.resAt, z0, z1, z2, z3, z4, z5, z6, z7, ptrBlk] at S ⊢
                  simp only [does]
                  go_simp
                  try first | exact S | exact ⟨vv, S⟩ | exact vv
                · clear hi
                  refine step_of rfl rfl rfl ?_
                  intro u G w hf S
                  have f6 : u 6 = (.slice (some ⟨b, off, none⟩) l.length c0) := hf 6 (by simp)
                  have f7 : u 7 = (.int .i64 (k : Int)) := hf 7 (by simp)
                  simp only [resOf, spec, RSpec.resAt, z0, z1, z2, z3, z4, z5, z6, z7, ptrBlk] at S ⊢
                  simp only [f6, f7]
                  simp only [does]
                  go_simp
                  try first | exact S | exact ⟨vv, S⟩ | exact vv
                · clear hi
                  refine step_of rfl rfl rfl ?_
                  intro u G w hf S
                  have f8 : u 8 = .pointer (some ⟨b, off + k * 35, none⟩) := hf 8 (by simp)
                  simp only [resOf, spec, RSpec.resAt, z0, z1, z2, z3, z4, z5, z6, z7, ptrBlk] at S ⊢
                  simp only [f8]
                  simp only [does]
                  go_simp
                  try first | exact S | exact ⟨vv, S⟩ | exact vv
                · clear hi
                  refine step_of rfl rfl rfl ?_
                  intro u G w hf S
                  have f9 : u 9 = .pointer (some ⟨b, off + k * 35 + 1, none⟩) := hf 9 (by simp)
                  simp only [resOf, spec, RSpec.resAt, z0, z1, z2, z3, z4, z5, z6, z7, ptrBlk] at S ⊢
                  simp only [f9]
                  refine does_load1 5 (.tmp 108) _ _ rfl (S.old_cell hy) _ Tryd.underlying5 rfl ?_; exact ⟨rfl, S⟩
                · clear hi
                  refine step_of rfl rfl rfl ?_
                  intro u G w hf S
                  simp only [resOf, spec, RSpec.resAt, z0, z1, z2, z3, z4, z5, z6, z7, ptrBlk] at S ⊢
                  simp only [does]
                  go_simp
                  try first | exact S | exact ⟨vv, S⟩ | exact vv
                · clear hi
                  refine step_of rfl rfl rfl ?_
                  intro u G w hf S
                  simp only [resOf, spec, RSpec.resAt, z0, z1, z2, z3, z4, z5, z6, z7, ptrBlk] at S ⊢
                  simp only [does]
                  go_simp
                  try first | exact S | exact ⟨vv, S⟩ | exact vv
                · clear hi
                  refine step_of rfl rfl rfl ?_
                  intro u G w hf S
                  have f11 : u 11 = (.slice (some ⟨b, off, none⟩) l.length c0) := hf 11 (by simp)
                  have f12 : u 12 = (.int .i64 (k : Int)) := hf 12 (by simp)
                  simp only [resOf, spec, RSpec.resAt, z0, z1, z2, z3, z4, z5, z6, z7, ptrBlk] at S ⊢
                  simp only [f11, f12]
                  simp only [does]
                  go_simp
                  try first | exact S | exact ⟨vv, S⟩ | exact vv
                · clear hi
                  refine step_of rfl rfl rfl ?_
                  intro u G w hf S
                  have f13 : u 13 = .pointer (some ⟨b, off + k * 35, none⟩) := hf 13 (by simp)
                  simp only [resOf, spec, RSpec.resAt, z0, z1, z2, z3, z4, z5, z6, z7, ptrBlk] at S ⊢
                  simp only [f13]
                  simp only [does]
                  go_simp
                  try first | exact S | exact ⟨vv, S⟩ | exact vv
                · clear hi
                  refine step_of rfl rfl rfl ?_
                  intro u G w hf S
                  have f14 : u 14 = .pointer (some ⟨b, off + k * 35 + 2, none⟩) := hf 14 (by simp)
                  simp only [resOf, spec, RSpec.resAt, z0, z1, z2, z3, z4, z5, z6, z7, ptrBlk] at S ⊢
                  simp only [f14]
                  refine does_load1 24 (.tmp 113) _ _ rfl (S.old_cell hy) _ Tryd.underlying24 rfl ?_; exact ⟨rfl, S⟩
                · clear hi
                  refine step_of rfl rfl rfl ?_
                  intro u G w hf S
                  simp only [resOf, spec, RSpec.resAt, z0, z1, z2, z3, z4, z5, z6, z7, ptrBlk] at S ⊢
                  simp only [does]
                  go_simp
                  try first | exact S | exact ⟨vv, S⟩ | exact vv
                · clear hi
                  refine step_of rfl rfl rfl ?_
                  intro u G w hf S
                  simp only [resOf, spec, RSpec.resAt, z0, z1, z2, z3, z4, z5, z6, z7, ptrBlk] at S ⊢
                  simp only [does]
                  go_simp
                  try first | exact S | exact ⟨vv, S⟩ | exact vv
                · clear hi
                  refine step_of rfl rfl rfl ?_
                  intro u G w hf S
                  have f16 : u 16 = (.slice (some ⟨b2, off2, none⟩) ps.length c1) := hf 16 (by simp)
                  have f17 : u 17 = (.int .i64 (k : Int)) := hf 17 (by simp)
                  simp only [resOf, spec, RSpec.resAt, z0, z1, z2, z3, z4, z5, z6, z7, ptrBlk] at S ⊢
                  simp only [f16, f17]
                  simp only [does]
                  go_simp
                  try first | exact S | exact ⟨vv, S⟩ | exact vv
                · clear hi
                  refine step_of rfl rfl rfl ?_
                  intro u G w hf S
                  have f18 : u 18 = .pointer (some ⟨b2, off2 + k, none⟩) := hf 18 (by simp)
                  simp only [resOf, spec, RSpec.resAt, z0, z1, z2, z3, z4, z5, z6, z7, ptrBlk] at S ⊢
                  simp only [f18]
                  refine does_load1 25 (.tmp 117) _ _ rfl (S.old_cell hy) _ Tryd.underlying25 rfl ?_; exact ⟨rfl, S⟩
                · clear hi
                  refine step_of rfl rfl rfl ?_
                  intro u G w hf S
                  have f0 : u 0 = .agg (arr8 L) := hf 0 (by simp)
                  have f5 : u 5 = .int .u64 (x.tick.toNat : Int) := hf 5 (by simp)
                  have f10 : u 10 = by8 x.kind := hf 10 (by simp)
                  have f15 : u 15 = .int .i64 (cdV x) := hf 15 (by simp)
                  have f19 : u 19 = p.1 := hf 19 (by simp)
                  simp only [resOf, spec, RSpec.resAt, z0, z1, z2, z3, z4, z5, z6, z7, ptrBlk] at S ⊢
                  simp only [f0, f5, f10, f15, f19]
                  refine does_fn (args := [(.agg (arr8 L)), (.int .u64 (x.tick.toNat : Int)), (by8 x.kind), (.int .i64 (cdV x)), (p.1)]) Tryd.func16 kR kR (PK.out w (S.oldB HBP.out) kT) rfl ?_
                  rintro e w1 ⟨rfl, T⟩
                  exact ⟨_, rfl, rfl, S.call T⟩
                · clear hi
                  refine step_of rfl rfl rfl ?_
                  intro u G w hf S
                  have f20 : u 20 = .tuple #[.agg (arr8 D), .int .i64 0] := hf 20 (by simp)
                  simp only [resOf, spec, RSpec.resAt, z0, z1, z2, z3, z4, z5, z6, z7, ptrBlk] at S ⊢
                  simp only [f20]
                  simp only [does]
                  go_simp
                  try first | exact S | exact ⟨vv, S⟩ | exact vv
                · clear hi
                  refine step_of rfl rfl rfl ?_
                  intro u G w hf S
                  have f21 : u 21 = (.tuple #[.agg (arr8 D), .int .i64 0]) := hf 21 (by simp)
                  simp only [resOf, spec, RSpec.resAt, z0, z1, z2, z3, z4, z5, z6, z7, ptrBlk] at S ⊢
                  simp only [f21]
                  simp only [does]
                  go_simp
                  try first | exact S | exact ⟨vv, S⟩ | exact vv
                · clear hi
                  refine step_of rfl rfl rfl ?_
                  intro u G w hf S
                  have f21 : u 21 = (.tuple #[.agg (arr8 D), .int .i64 0]) := hf 21 (by simp)
                  simp only [resOf, spec, RSpec.resAt, z0, z1, z2, z3, z4, z5, z6, z7, ptrBlk] at S ⊢
                  simp only [f21]
                  simp only [does]
                  go_simp
                  try first | exact S | exact ⟨vv, S⟩ | exact vv
                · clear hi
                  refine step_of rfl rfl rfl ?_
                  intro u G w hf S
                  simp only [resOf, spec, RSpec.resAt, z0, z1, z2, z3, z4, z5, z6, z7, ptrBlk] at S ⊢
                  refine does_alloc S 22 (.agg (arr8 (List.replicate 32 0))) (arr8 (List.replicate 32 0)) kR rfl ?_; intro g w1 S; exact ⟨⟨g, rfl⟩, S⟩
                · clear hi
                  refine step_of rfl rfl rfl ?_
                  intro u G w hf S
                  have f22 : u 22 = .agg (arr8 D) := hf 22 (by simp)
                  have f24 : ∃ g, u 24 = .pointer (some ⟨g, 0, none⟩) := hf 24 (by simp)
                  obtain ⟨g13, f24⟩ := f24
                  have m24 : mask [0, 1, 2, 3, 4, 5, 6, 7, 8, 9, 10, 11, 12, 13, 14, 15, 16, 17, 18, 19, 20, 21, 22, 24] u 24 = u 24 := rfl
                  simp only [resOf, spec, RSpec.resAt, List.getD_cons_zero, List.getD_cons_succ, List.flatMap_cons, List.flatMap_nil, List.nil_append, List.cons_append, List.append_nil, List.append_assoc, m24, ptrBlk] at S ⊢
                  simp only [m24, f22, f24] at S ⊢
                  try simp only [ptrBlk] at S
                  refine does_store S 22 (.tmp 13) (.tmp 120) _ rfl rfl 32 kR lN lN on1 ?_; intro w1 S; exact ⟨trivial, S⟩
                · clear hi
                  refine step_of rfl rfl rfl ?_
                  intro u G w hf S
                  have f23 : u 23 = .int .i64 0 := hf 23 (by simp)
                  have f24 : ∃ g, u 24 = .pointer (some ⟨g, 0, none⟩) := hf 24 (by simp)
                  obtain ⟨g13, f24⟩ := f24
                  simp only [resOf, spec, RSpec.resAt, z0, z1, z2, z3, z4, z5, z6, z7, ptrBlk] at S ⊢
                  simp only [f23, f24]
                  simp only [does]
                  go_simp
                  try first | exact S | exact ⟨vv, S⟩ | exact vv
              case fin1 =>
                intro u w hf S
                have f0 : u 0 = .agg (arr8 L) := hf 0 (by simp)
                have f1 : u 1 = (.slice (some ⟨b, off, none⟩) l.length c0) := hf 1 (by simp)
                have f2 : u 2 = (.int .i64 (k : Int)) := hf 2 (by simp)
                have f3 : u 3 = .pointer (some ⟨b, off + k * 35, none⟩) := hf 3 (by simp)
                have f4 : u 4 = .pointer (some ⟨b, off + k * 35, none⟩) := hf 4 (by simp)
                have f5 : u 5 = .int .u64 (x.tick.toNat : Int) := hf 5 (by simp)
                have f6 : u 6 = (.slice (some ⟨b, off, none⟩) l.length c0) := hf 6 (by simp)
                have f7 : u 7 = (.int .i64 (k : Int)) := hf 7 (by simp)
                have f8 : u 8 = .pointer (some ⟨b, off + k * 35, none⟩) := hf 8 (by simp)
                have f9 : u 9 = .pointer (some ⟨b, off + k * 35 + 1, none⟩) := hf 9 (by simp)
                have f10 : u 10 = by8 x.kind := hf 10 (by simp)
                have f11 : u 11 = (.slice (some ⟨b, off, none⟩) l.length c0) := hf 11 (by simp)
                have f12 : u 12 = (.int .i64 (k : Int)) := hf 12 (by simp)
                have f13 : u 13 = .pointer (some ⟨b, off + k * 35, none⟩) := hf 13 (by simp)
                have f14 : u 14 = .pointer (some ⟨b, off + k * 35 + 2, none⟩) := hf 14 (by simp)
                have f15 : u 15 = .int .i64 (cdV x) := hf 15 (by simp)
                have f16 : u 16 = (.slice (some ⟨b2, off2, none⟩) ps.length c1) := hf 16 (by simp)
                have f17 : u 17 = (.int .i64 (k : Int)) := hf 17 (by simp)
                have f18 : u 18 = .pointer (some ⟨b2, off2 + k, none⟩) := hf 18 (by simp)
                have f19 : u 19 = p.1 := hf 19 (by simp)
                have f20 : u 20 = .tuple #[.agg (arr8 D), .int .i64 0] := hf 20 (by simp)
                have f21 : u 21 = (.tuple #[.agg (arr8 D), .int .i64 0]) := hf 21 (by simp)
                have f22 : u 22 = .agg (arr8 D) := hf 22 (by simp)
                have f23 : u 23 = .int .i64 0 := hf 23 (by simp)
                have f24 : ∃ g, u 24 = .pointer (some ⟨g, 0, none⟩) := hf 24 (by simp)
                obtain ⟨g13, f24⟩ := f24
                have f26 : u 26 = (.int .i64 0) := hf 26 (by simp)
                have m25_24 : mask [0, 1, 2, 3, 4, 5, 6, 7, 8, 9, 10, 11, 12, 13, 14, 15, 16, 17, 18, 19, 20, 21, 22, 24] u 24 = u 24 := rfl
                simp only [resOf, spec, RSpec.resAt, List.getD_cons_zero, List.getD_cons_succ, List.flatMap_cons, List.flatMap_nil, List.nil_append, List.cons_append, List.append_nil, List.append_assoc, m25_24, ptrBlk] at S
                clear hf
                simp only [List.length_cons, List.length_nil, Nat.zero_add, Nat.reduceAdd, List.drop_succ_cons, List.drop_zero, f0, f1, f2, f3, f4, f5, f6, f7, f8, f9, f10, f11, f12, f13, f14, f15, f16, f17, f18, f19, f20, f21, f22, f23, f24, f26]
                try simp only [f0, f1, f2, f3, f4, f5, f6, f7, f8, f9, f10, f11, f12, f13, f14, f15, f16, f17, f18, f19, f20, f21, f22, f23, f24, f26, ptrBlk] at S
                clear f0 f1 f2 f3 f4 f5 f6 f7 f8 f9 f10 f11 f12 f13 f14 f15 f16 f17 f18 f19 f20 f21 f22 f23 f24 f26 m25_24
                go_upto_region 23 with (first | ((with_reducible refine iD 3 (.box 22 (.tmp 0)) ?_); refine step_boxA (dst := some 3) S 22 (.tmp 0) _ rfl gw ?_; clear S; intro g3 w S) | ((with_reducible refine iO _ (.load 22 _) ?_); first | (refine step_load S 22 _ _ rfl _ _ _ pk _ Tryd.underlying22 rfl 32 kR lN gw ?_) | (refine step_loadO 22 _ _ rfl _ _ _ (S.old_heap (Hid.out (by assumption))) _ Tryd.underlying22 rfl 32 kR lN gw ?_) | (refine step_loadR 22 _ _ _ rfl _ (S.old_range hy) _ Tryd.underlying22 rfl 32 kR lN _ rfl gw ?_)) | ((with_reducible refine iO _ (.load 50 _) ?_); first | (refine step_loadR 50 _ _ _ rfl _ (S.old_range hy) _ Tryd.underlying50 rfl 35 kR lN _ rfl gw ?_) | (refine step_loadP S 50 _ _ _ rfl _ _ _ pk 35 _ pT lN _ Tryd.underlying50 rfl kR gw ?_)) | ((with_reducible refine iO _ (.load 25 _) ?_); refine step_load1 25 _ _ _ rfl (cL) _ Tryd.underlying25 rfl gw ?_) | ((with_reducible refine iO _ (.load 23 _) ?_); refine step_load1 23 _ _ _ rfl (cL) _ Tryd.underlying23 rfl gw ?_) | ((with_reducible refine iO _ (.load 5 _) ?_); refine step_load1 5 _ _ _ rfl (cL) _ Tryd.underlying5 rfl gw ?_) | ((with_reducible refine iO _ (.load 24 _) ?_); refine step_load1 24 _ _ _ rfl (cL) _ Tryd.underlying24 rfl gw ?_) | ((with_reducible refine iD 13 (.alloc 22) ?_); refine step_alloc (dst := some 13) S 22 (.agg (arr8 (List.replicate 32 0))) (arr8 (List.replicate 32 0)) kR rfl gw ?_; clear S; intro g13 w S) | ((with_reducible refine iO none (.store 22 (.tmp 13) (.tmp 120)) ?_); refine step_store S 22 (.tmp 13) (.tmp 120) _ _ rfl rfl _ _ pk 32 kR lN lN on1 gw ?_; clear S; intro w S) | ((with_reducible refine iO _ (.load 22 _) ?_); first | (refine step_loadR 22 _ _ _ rfl _ (S.old_range hy) _ Tryd.underlying22 rfl 32 kR lN _ rfl gw ?_) | (refine step_loadP S 22 _ _ _ rfl _ _ _ pk 32 _ pT lN _ Tryd.underlying22 rfl kR gw ?_)) | ((with_reducible refine iO none (.store 22 (.tmp 3) (.tmp 141)) ?_); refine step_store S 22 (.tmp 3) (.tmp 141) _ _ rfl rfl _ _ pk 32 kR lN lN on1 gw ?_; clear S; intro w S) | fail)
                by_cases hkn2 : k < N
                · have hkN : (k : Int) < (N : Int) := by omega
                  simp only [decide_eq_true hkn2] at he
                  refine wp_rely S [⟨[], [], [], fun _ v => v = (.int .i64 0), fun _ v => []⟩, ⟨[0], [], [], fun _ v => v = .bool false, fun _ v => []⟩, ⟨[0, 1], [], [], fun _ v => v = (.bool false), fun _ v => []⟩, ⟨[0, 1, 2], [], [], fun _ v => v = .agg (arr8 D), fun _ v => []⟩, ⟨[0, 1, 2], [], [], fun _ v => v = (.slice (some ⟨b, off, none⟩) l.length c0), fun _ v => []⟩, ⟨[0, 1, 2], [], [], fun _ v => v = (.int .i64 (k : Int)), fun _ v => []⟩, ⟨[0, 1, 2, 4, 5], [], [], fun _ v => v = .pointer (some ⟨b, off + k * 35, none⟩), fun _ v => []⟩, ⟨[0, 1, 2, 4, 5, 6], [], [], fun _ v => v = .pointer (some ⟨b, off + k * 35 + 3, none⟩), fun _ v => []⟩, ⟨[0, 1, 2, 4, 5, 6, 7], [], [], fun _ v => v = .agg (arr8 x.link), fun _ v => []⟩, ⟨[0, 1, 2, 3, 4, 5, 6, 7, 8], [], [], fun _ v => v = .bool true, fun _ v => []⟩, ⟨[0, 1, 2], [], [], fun _ v => v = (.int .i64 (k : Int)), fun _ v => []⟩, ⟨[0, 1, 2], [], [], fun _ v => v = (.int .i64 (N : Int)), fun _ v => []⟩, ⟨[0, 1, 2, 10, 11], [], [], fun _ v => v = .bool true, fun _ v => []⟩, ⟨[0, 1, 2, 3, 4, 5, 6, 7, 8, 9, 10, 11, 12], [], [], fun _ v => v = .bool false, fun _ v => []⟩, ⟨[0, 1, 2, 3, 4, 5, 6, 7, 8, 9, 10, 11, 12, 13], [], [], fun _ v => v = .bool false, fun _ v => []⟩] ?A2 ?hA2 kR kR kR [0, 1, 2, 3, 4, 5, 6, 7, 8, 9, 10, 11, 12, 13, 14] kR ?hok2 ?fin2
                  case hA2 => intro u; simp only [putAll, List.length_cons, List.length_nil, Nat.zero_add, Nat.reduceAdd, dstAt, List.getElem?_toArray, List.getElem?_cons_zero, List.getElem?_cons_succ, Option.bind_some, Act.put, List.setIfInBounds_toArray, List.set_cons_zero, List.set_cons_succ]; rfl
                  case hok2 =>
                    intro i hi
                    obtain rfl | rfl | rfl | rfl | rfl | rfl | rfl | rfl | rfl | rfl | rfl | rfl | rfl | rfl | rfl : i = 0 ∨ i = 1 ∨ i = 2 ∨ i = 3 ∨ i = 4 ∨ i = 5 ∨ i = 6 ∨ i = 7 ∨ i = 8 ∨ i = 9 ∨ i = 10 ∨ i = 11 ∨ i = 12 ∨ i = 13 ∨ i = 14 := by simp only [List.length_cons, List.length_nil, Nat.zero_add, Nat.reduceAdd] at hi; omega
                    · clear hi
                      refine step_of rfl rfl rfl ?_
                      intro u G w hf S
                      simp only [resOf, spec, RSpec.resAt, z0, z1, z2, z3, z4, z5, z6, z7, ptrBlk] at S ⊢
                      simp only [does]
                      go_simp
                      try first | exact S | exact ⟨vv, S⟩ | exact vv
                    · clear hi
                      refine step_of rfl rfl rfl ?_
                      intro u G w hf S
                      have f0 : u 0 = (.int .i64 0) := hf 0 (by simp)
                      simp only [resOf, spec, RSpec.resAt, z0, z1, z2, z3, z4, z5, z6, z7, ptrBlk] at S ⊢
                      simp only [f0]
                      simp only [does]
                      go_simp
                      try first | exact S | exact ⟨vv, S⟩ | exact vv
                    · clear hi
                      refine step_of rfl rfl rfl ?_
                      intro u G w hf S
                      have f1 : u 1 = .bool false := hf 1 (by simp)
                      simp only [resOf, spec, RSpec.resAt, z0, z1, z2, z3, z4, z5, z6, z7, ptrBlk] at S ⊢
                      simp only [f1]
                      simp only [does]
                      go_simp
                      try first | exact S | exact ⟨vv, S⟩ | exact vv
                    · clear hi
                      refine step_of_g rfl rfl ?_
                      intro u G w hf S
                      have f2 : u 2 = (.bool false) := hf 2 (by simp)
                      simp only [resOf, spec, RSpec.resAt, z0, z1, z2, z3, z4, z5, z6, z7, ptrBlk] at S ⊢
                      simp only [f2]
                      refine ⟨rfl, ?_⟩
                      refine does_load 22 (.tmp 13) g13 rfl _ _ _ (S.get (r := blk g13 _) pk) _ Tryd.underlying22 rfl 32 kR lN ?_; exact ⟨rfl, S⟩
                    · clear hi
                      refine step_of_g rfl rfl ?_
                      intro u G w hf S
                      have f2 : u 2 = (.bool false) := hf 2 (by simp)
                      simp only [resOf, spec, RSpec.resAt, z0, z1, z2, z3, z4, z5, z6, z7, ptrBlk] at S ⊢
                      simp only [f2]
                      refine ⟨rfl, ?_⟩
                      simp only [does]
                      go_simp
                      try first | exact S | exact ⟨vv, S⟩ | exact vv
                    · clear hi
                      refine step_of_g rfl rfl ?_
                      intro u G w hf S
                      have f2 : u 2 = (.bool false) := hf 2 (by simp)
                      simp only [resOf, spec, RSpec.resAt, z0, z1, z2, z3, z4, z5, z6, z7, ptrBlk] at S ⊢
                      simp only [f2]
                      refine ⟨rfl, ?_⟩
                      simp only [does]
                      go_simp
                      try first | exact S | exact ⟨vv, S⟩ | exact vv
                    · clear hi
                      refine step_of_g rfl rfl ?_
                      intro u G w hf S
                      have f2 : u 2 = (.bool false) := hf 2 (by simp)
                      have f4 : u 4 = (.slice (some ⟨b, off, none⟩) l.length c0) := hf 4 (by simp)
                      have f5 : u 5 = (.int .i64 (k : Int)) := hf 5 (by simp)
                      simp only [resOf, spec, RSpec.resAt, z0, z1, z2, z3, z4, z5, z6, z7, ptrBlk] at S ⊢
                      simp only [f2, f4, f5]
                      refine ⟨rfl, ?_⟩
                      simp only [does]
                      go_simp
                      try first | exact S | exact ⟨vv, S⟩ | exact vv
                    · clear hi
                      refine step_of_g rfl rfl ?_
                      intro u G w hf S
                      have f2 : u 2 = (.bool false) := hf 2 (by simp)
                      have f6 : u 6 = .pointer (some ⟨b, off + k * 35, none⟩) := hf 6 (by simp)
                      simp only [resOf, spec, RSpec.resAt, z0, z1, z2, z3, z4, z5, z6, z7, ptrBlk] at S ⊢
                      simp only [f2, f6]
                      refine ⟨rfl, ?_⟩
                      simp only [does]
                      go_simp
                      try first | exact S | exact ⟨vv, S⟩ | exact vv
                    · clear hi
                      refine step_of_g rfl rfl ?_
                      intro u G w hf S
                      have f2 : u 2 = (.bool false) := hf 2 (by simp)
                      have f7 : u 7 = .pointer (some ⟨b, off + k * 35 + 3, none⟩) := hf 7 (by simp)
                      simp only [resOf, spec, RSpec.resAt, z0, z1, z2, z3, z4, z5, z6, z7, ptrBlk] at S ⊢
                      simp only [f2, f7]
                      refine ⟨rfl, ?_⟩
                      refine does_loadR 22 (.tmp 129) _ _ rfl _ (S.old_range Y3.out) _ Tryd.underlying22 rfl 32 kR (by rw [List.length_map]; exact HXL.out) _ rfl ?_; exact ⟨rfl, S⟩
                    · clear hi
                      refine step_of_g rfl rfl ?_
                      intro u G w hf S
                      have f2 : u 2 = (.bool false) := hf 2 (by simp)
                      have f3 : u 3 = .agg (arr8 D) := hf 3 (by simp)
                      have f8 : u 8 = .agg (arr8 x.link) := hf 8 (by simp)
                      simp only [resOf, spec, RSpec.resAt, z0, z1, z2, z3, z4, z5, z6, z7, ptrBlk] at S ⊢
                      simp only [f2, f3, f8]
                      refine ⟨rfl, ?_⟩
                      simp only [does]
                      go_simp
                      try first | exact S | exact ⟨vv, S⟩ | exact vv
                    · clear hi
                      refine step_of_g rfl rfl ?_
                      intro u G w hf S
                      have f2 : u 2 = (.bool false) := hf 2 (by simp)
                      simp only [resOf, spec, RSpec.resAt, z0, z1, z2, z3, z4, z5, z6, z7, ptrBlk] at S ⊢
                      simp only [f2]
                      refine ⟨rfl, ?_⟩
                      simp only [does]
                      go_simp
                      try first | exact S | exact ⟨vv, S⟩ | exact vv
                    · clear hi
                      refine step_of_g rfl rfl ?_
                      intro u G w hf S
                      have f2 : u 2 = (.bool false) := hf 2 (by simp)
                      simp only [resOf, spec, RSpec.resAt, z0, z1, z2, z3, z4, z5, z6, z7, ptrBlk] at S ⊢
                      simp only [f2]
                      refine ⟨rfl, ?_⟩
                      simp only [does]
                      go_simp
                      try first | exact S | exact ⟨vv, S⟩ | exact vv
                    · clear hi
                      refine step_of_g rfl rfl ?_
                      intro u G w hf S
                      have f2 : u 2 = (.bool false) := hf 2 (by simp)
                      have f10 : u 10 = (.int .i64 (k : Int)) := hf 10 (by simp)
                      have f11 : u 11 = (.int .i64 (N : Int)) := hf 11 (by simp)
                      simp only [resOf, spec, RSpec.resAt, z0, z1, z2, z3, z4, z5, z6, z7, ptrBlk] at S ⊢
                      simp only [f2, f10, f11]
                      refine ⟨rfl, ?_⟩
                      simp only [does]
                      go_simp
                      try first | exact S | exact ⟨vv, S⟩ | exact vv
                    · clear hi
                      refine step_of_g rfl rfl ?_
                      intro u G w hf S
                      have f2 : u 2 = (.bool false) := hf 2 (by simp)
                      have f9 : u 9 = .bool true := hf 9 (by simp)
                      have f12 : u 12 = .bool true := hf 12 (by simp)
                      simp only [resOf, spec, RSpec.resAt, z0, z1, z2, z3, z4, z5, z6, z7, ptrBlk] at S ⊢
                      simp only [f2, f9, f12]
                      refine ⟨rfl, ?_⟩
                      simp only [does]
                      go_simp
                      try first | exact S | exact ⟨vv, S⟩ | exact vv
                    · clear hi
                      refine step_of rfl rfl rfl ?_
                      intro u G w hf S
                      have f2 : u 2 = (.bool false) := hf 2 (by simp)
                      have f13 : u 13 = .bool false := hf 13 (by simp)
                      simp only [resOf, spec, RSpec.resAt, z0, z1, z2, z3, z4, z5, z6, z7, ptrBlk] at S ⊢
                      simp only [f2, f13]
                      simp only [does]
                      go_simp
                      try first | exact S | exact ⟨vv, S⟩ | exact vv
                  case fin2 =>
                    intro u w hf S
                    have f0 : u 0 = (.int .i64 0) := hf 0 (by simp)
                    have f1 : u 1 = .bool false := hf 1 (by simp)
                    have f2 : u 2 = (.bool false) := hf 2 (by simp)
                    have f3 : u 3 = .agg (arr8 D) := hf 3 (by simp)
                    have f4 : u 4 = (.slice (some ⟨b, off, none⟩) l.length c0) := hf 4 (by simp)
                    have f5 : u 5 = (.int .i64 (k : Int)) := hf 5 (by simp)
                    have f6 : u 6 = .pointer (some ⟨b, off + k * 35, none⟩) := hf 6 (by simp)
                    have f7 : u 7 = .pointer (some ⟨b, off + k * 35 + 3, none⟩) := hf 7 (by simp)
                    have f8 : u 8 = .agg (arr8 x.link) := hf 8 (by simp)
                    have f9 : u 9 = .bool true := hf 9 (by simp)
                    have f10 : u 10 = (.int .i64 (k : Int)) := hf 10 (by simp)
                    have f11 : u 11 = (.int .i64 (N : Int)) := hf 11 (by simp)
                    have f12 : u 12 = .bool true := hf 12 (by simp)
                    have f13 : u 13 = .bool false := hf 13 (by simp)
                    have f14 : u 14 = .bool false := hf 14 (by simp)
                    simp only [resOf, spec, RSpec.resAt, z0, z1, z2, z3, z4, z5, z6, z7, ptrBlk] at S
                    clear hf
                    simp only [List.length_cons, List.length_nil, Nat.zero_add, Nat.reduceAdd, List.drop_succ_cons, List.drop_zero, f0, f1, f2, f3, f4, f5, f6, f7, f8, f9, f10, f11, f12, f13, f14]
                    clear f0 f1 f2 f3 f4 f5 f6 f7 f8 f9 f10 f11 f12 f13 f14
                    go_wp2_with (first | ((with_reducible refine iD 141 (.load 22 _) ?_); refine step_loadR 22 (.tmp 140) b (off + k * 35 + 3) rfl _ (S.old_range Y3.out) _ Tryd.underlying22 rfl 32 kR (by rw [List.length_map]; exact HXL.out) _ rfl gw ?_) | ((with_reducible refine iO none (.store 22 (.tmp 3) _) ?_); refine step_store S 22 (.tmp 3) (.tmp 141) _ _ rfl rfl _ _ pk 32 kR (by first | (rw [arr8_size]; exact HXL.out) | simpa [arr8] using HXL.out) (by first | (rw [arr8_size]; exact HL.out) | simpa [arr8] using HL.out) on1 gw ?_; clear S; intro w S) | ((with_reducible refine iD 3 (.box 22 (.tmp 0)) ?_); refine step_boxA (dst := some 3) S 22 (.tmp 0) _ rfl gw ?_; clear S; intro g3 w S) | ((with_reducible refine iO _ (.load 22 _) ?_); first | (refine step_load S 22 _ _ rfl _ _ _ pk _ Tryd.underlying22 rfl 32 kR lN gw ?_) | (refine step_loadO 22 _ _ rfl _ _ _ (S.old_heap (Hid.out (by assumption))) _ Tryd.underlying22 rfl 32 kR lN gw ?_) | (refine step_loadR 22 _ _ _ rfl _ (S.old_range hy) _ Tryd.underlying22 rfl 32 kR lN _ rfl gw ?_)) | ((with_reducible refine iO _ (.load 50 _) ?_); first | (refine step_loadR 50 _ _ _ rfl _ (S.old_range hy) _ Tryd.underlying50 rfl 35 kR lN _ rfl gw ?_) | (refine step_loadP S 50 _ _ _ rfl _ _ _ pk 35 _ pT lN _ Tryd.underlying50 rfl kR gw ?_)) | ((with_reducible refine iO _ (.load 25 _) ?_); refine step_load1 25 _ _ _ rfl (cL) _ Tryd.underlying25 rfl gw ?_) | ((with_reducible refine iO _ (.load 23 _) ?_); refine step_load1 23 _ _ _ rfl (cL) _ Tryd.underlying23 rfl gw ?_) | ((with_reducible refine iO _ (.load 5 _) ?_); refine step_load1 5 _ _ _ rfl (cL) _ Tryd.underlying5 rfl gw ?_) | ((with_reducible refine iO _ (.load 24 _) ?_); refine step_load1 24 _ _ _ rfl (cL) _ Tryd.underlying24 rfl gw ?_) | ((with_reducible refine iD 13 (.alloc 22) ?_); refine step_alloc (dst := some 13) S 22 (.agg (arr8 (List.replicate 32 0))) (arr8 (List.replicate 32 0)) kR rfl gw ?_; clear S; intro g13 w S) | ((with_reducible refine iO none (.store 22 (.tmp 13) (.tmp 120)) ?_); refine step_store S 22 (.tmp 13) (.tmp 120) _ _ rfl rfl _ _ pk 32 kR lN lN on1 gw ?_; clear S; intro w S) | ((with_reducible refine iO _ (.load 22 _) ?_); first | (refine step_loadR 22 _ _ _ rfl _ (S.old_range hy) _ Tryd.underlying22 rfl 32 kR lN _ rfl gw ?_) | (refine step_loadP S 22 _ _ _ rfl _ _ _ pk 32 _ pT lN _ Tryd.underlying22 rfl kR gw ?_)) | ((with_reducible refine iO none (.store 22 (.tmp 3) (.tmp 141)) ?_); refine step_store S 22 (.tmp 3) (.tmp 141) _ _ rfl rfl _ _ pk 32 kR lN lN on1 gw ?_; clear S; intro w S) | fail)
                    go_roundw
                    case rel => exact ⟨k + 1, x.link, by omega, by go_num, x.len, .inl ⟨by omega, HNEXT.out hkn2⟩, S.sub (by repeat (first | exact Sub.nil _ | refine Sub.cons pk ?_))⟩
                    case measure => simp [intOf]; omega
                · have hkN : ¬ (k : Int) < (N : Int) := by omega
                  simp only [decide_eq_false hkn2] at he
                  refine wp_rely S [⟨[], [], [], fun _ v => v = (.int .i64 0), fun _ v => []⟩, ⟨[0], [], [], fun _ v => v = .bool false, fun _ v => []⟩, ⟨[0, 1], [], [], fun _ v => v = (.bool false), fun _ v => []⟩, ⟨[0, 1, 2], [], [], fun _ v => v = .agg (arr8 D), fun _ v => []⟩, ⟨[0, 1, 2], [], [], fun _ v => v = (.slice (some ⟨b, off, none⟩) l.length c0), fun _ v => []⟩, ⟨[0, 1, 2], [], [], fun _ v => v = (.int .i64 (k : Int)), fun _ v => []⟩, ⟨[0, 1, 2, 4, 5], [], [], fun _ v => v = .pointer (some ⟨b, off + k * 35, none⟩), fun _ v => []⟩, ⟨[0, 1, 2, 4, 5, 6], [], [], fun _ v => v = .pointer (some ⟨b, off + k * 35 + 3, none⟩), fun _ v => []⟩, ⟨[0, 1, 2, 4, 5, 6, 7], [], [], fun _ v => v = .agg (arr8 x.link), fun _ v => []⟩, ⟨[0, 1, 2, 3, 4, 5, 6, 7, 8], [], [], fun _ v => v = .bool false, fun _ v => []⟩, ⟨[0, 1, 2], [], [], fun _ v => v = (.int .i64 (k : Int)), fun _ v => []⟩, ⟨[0, 1, 2], [], [], fun _ v => v = (.int .i64 (N : Int)), fun _ v => []⟩, ⟨[0, 1, 2, 10, 11], [], [], fun _ v => v = .bool false, fun _ v => []⟩, ⟨[0, 1, 2, 3, 4, 5, 6, 7, 8, 9, 10, 11, 12], [], [], fun _ v => v = .bool false, fun _ v => []⟩, ⟨[0, 1, 2, 3, 4, 5, 6, 7, 8, 9, 10, 11, 12, 13], [], [], fun _ v => v = .bool false, fun _ v => []⟩] ?A3 ?hA3 kR kR kR [0, 1, 2, 3, 4, 5, 6, 7, 8, 9, 10, 11, 12, 13, 14] kR ?hok3 ?fin3
                  case hA3 => intro u; simp only [putAll, List.length_cons, List.length_nil, Nat.zero_add, Nat.reduceAdd, dstAt, List.getElem?_toArray, List.getElem?_cons_zero, List.getElem?_cons_succ, Option.bind_some, Act.put, List.setIfInBounds_toArray, List.set_cons_zero, List.set_cons_succ]; rfl
                  case hok3 =>
                    intro i hi
                    obtain rfl | rfl | rfl | rfl | rfl | rfl | rfl | rfl | rfl | rfl | rfl | rfl | rfl | rfl | rfl : i = 0 ∨ i = 1 ∨ i = 2 ∨ i = 3 ∨ i = 4 ∨ i = 5 ∨ i = 6 ∨ i = 7 ∨ i = 8 ∨ i = 9 ∨ i = 10 ∨ i = 11 ∨ i = 12 ∨ i = 13 ∨ i = 14 := by simp only [List.length_cons, List.length_nil, Nat.zero_add, Nat.reduceAdd] at hi; omega
                    · clear hi
                      refine step_of rfl rfl rfl ?_
                      intro u G w hf S
                      simp only [resOf, spec, RSpec.resAt, z0, z1, z2, z3, z4, z5, z6, z7, ptrBlk] at S ⊢
                      simp only [does]
                      go_simp
                      try first | exact S | exact ⟨vv, S⟩ | exact vv
                    · clear hi
                      refine step_of rfl rfl rfl ?_
                      intro u G w hf S
                      have f0 : u 0 = (.int .i64 0) := hf 0 (by simp)
                      simp only [resOf, spec, RSpec.resAt, z0, z1, z2, z3, z4, z5, z6, z7, ptrBlk] at S ⊢
                      simp only [f0]
                      simp only [does]
                      go_simp
                      try first | exact S | exact ⟨vv, S⟩ | exact vv
                    · clear hi
                      refine step_of rfl rfl rfl ?_
                      intro u G w hf S
                      have f1 : u 1 = .bool false := hf 1 (by simp)
                      simp only [resOf, spec, RSpec.resAt, z0, z1, z2, z3, z4, z5, z6, z7, ptrBlk] at S ⊢
                      simp only [f1]
                      simp only [does]
                      go_simp
                      try first | exact S | exact ⟨vv, S⟩ | exact vv
                    · clear hi
                      refine step_of_g rfl rfl ?_
                      intro u G w hf S
                      have f2 : u 2 = (.bool false) := hf 2 (by simp)
                      simp only [resOf, spec, RSpec.resAt, z0, z1, z2, z3, z4, z5, z6, z7, ptrBlk] at S ⊢
                      simp only [f2]
                      refine ⟨rfl, ?_⟩
                      refine does_load 22 (.tmp 13) g13 rfl _ _ _ (S.get (r := blk g13 _) pk) _ Tryd.underlying22 rfl 32 kR lN ?_; exact ⟨rfl, S⟩
                    · clear hi
                      refine step_of_g rfl rfl ?_
                      intro u G w hf S
                      have f2 : u 2 = (.bool false) := hf 2 (by simp)
                      simp only [resOf, spec, RSpec.resAt, z0, z1, z2, z3, z4, z5, z6, z7, ptrBlk] at S ⊢
                      simp only [f2]
                      refine ⟨rfl, ?_⟩
                      simp only [does]
                      go_simp
                      try first | exact S | exact ⟨vv, S⟩ | exact vv
                    · clear hi
                      refine step_of_g rfl rfl ?_
                      intro u G w hf S
                      have f2 : u 2 = (.bool false) := hf 2 (by simp)
                      simp only [resOf, spec, RSpec.resAt, z0, z1, z2, z3, z4, z5, z6, z7, ptrBlk] at S ⊢
                      simp only [f2]
                      refine ⟨rfl, ?_⟩
                      simp only [does]
                      go_simp
                      try first | exact S | exact ⟨vv, S⟩ | exact vv
                    · clear hi
                      refine step_of_g rfl rfl ?_
                      intro u G w hf S
                      have f2 : u 2 = (.bool false) := hf 2 (by simp)
                      have f4 : u 4 = (.slice (some ⟨b, off, none⟩) l.length c0) := hf 4 (by simp)
                      have f5 : u 5 = (.int .i64 (k : Int)) := hf 5 (by simp)
                      simp only [resOf, spec, RSpec.resAt, z0, z1, z2, z3, z4, z5, z6, z7, ptrBlk] at S ⊢
                      simp only [f2, f4, f5]
                      refine ⟨rfl, ?_⟩
                      simp only [does]
                      go_simp
                      try first | exact S | exact ⟨vv, S⟩ | exact vv
                    · clear hi
                      refine step_of_g rfl rfl ?_
                      intro u G w hf S
                      have f2 : u 2 = (.bool false) := hf 2 (by simp)
                      have f6 : u 6 = .pointer (some ⟨b, off + k * 35, none⟩) := hf 6 (by simp)
                      simp only [resOf, spec, RSpec.resAt, z0, z1, z2, z3, z4, z5, z6, z7, ptrBlk] at S ⊢
                      simp only [f2, f6]
                      refine ⟨rfl, ?_⟩
                      simp only [does]
                      go_simp
                      try first | exact S | exact ⟨vv, S⟩ | exact vv
                    · clear hi
                      refine step_of_g rfl rfl ?_
                      intro u G w hf S
                      have f2 : u 2 = (.bool false) := hf 2 (by simp)
                      have f7 : u 7 = .pointer (some ⟨b, off + k * 35 + 3, none⟩) := hf 7 (by simp)
                      simp only [resOf, spec, RSpec.resAt, z0, z1, z2, z3, z4, z5, z6, z7, ptrBlk] at S ⊢
                      simp only [f2, f7]
                      refine ⟨rfl, ?_⟩
                      refine does_loadR 22 (.tmp 129) _ _ rfl _ (S.old_range Y3.out) _ Tryd.underlying22 rfl 32 kR (by rw [List.length_map]; exact HXL.out) _ rfl ?_; exact ⟨rfl, S⟩
                    · clear hi
                      refine step_of_g rfl rfl ?_
                      intro u G w hf S
                      have f2 : u 2 = (.bool false) := hf 2 (by simp)
                      have f3 : u 3 = .agg (arr8 D) := hf 3 (by simp)
                      have f8 : u 8 = .agg (arr8 x.link) := hf 8 (by simp)
                      simp only [resOf, spec, RSpec.resAt, z0, z1, z2, z3, z4, z5, z6, z7, ptrBlk] at S ⊢
                      simp only [f2, f3, f8]
                      refine ⟨rfl, ?_⟩
                      simp only [does]
                      go_simp
                      try first | exact S | exact ⟨vv, S⟩ | exact vv
                    · clear hi
                      refine step_of_g rfl rfl ?_
                      intro u G w hf S
                      have f2 : u 2 = (.bool false) := hf 2 (by simp)
                      simp only [resOf, spec, RSpec.resAt, z0, z1, z2, z3, z4, z5, z6, z7, ptrBlk] at S ⊢
                      simp only [f2]
                      refine ⟨rfl, ?_⟩
                      simp only [does]
                      go_simp
                      try first | exact S | exact ⟨vv, S⟩ | exact vv
                    · clear hi
                      refine step_of_g rfl rfl ?_
                      intro u G w hf S
                      have f2 : u 2 = (.bool false) := hf 2 (by simp)
                      simp only [resOf, spec, RSpec.resAt, z0, z1, z2, z3, z4, z5, z6, z7, ptrBlk] at S ⊢
                      simp only [f2]
                      refine ⟨rfl, ?_⟩
                      simp only [does]
                      go_simp
                      try first | exact S | exact ⟨vv, S⟩ | exact vv
                    · clear hi
                      refine step_of_g rfl rfl ?_
                      intro u G w hf S
                      have f2 : u 2 = (.bool false) := hf 2 (by simp)
                      have f10 : u 10 = (.int .i64 (k : Int)) := hf 10 (by simp)
                      have f11 : u 11 = (.int .i64 (N : Int)) := hf 11 (by simp)
                      simp only [resOf, spec, RSpec.resAt, z0, z1, z2, z3, z4, z5, z6, z7, ptrBlk] at S ⊢
                      simp only [f2, f10, f11]
                      refine ⟨rfl, ?_⟩
                      simp only [does]
                      go_simp
                      try first | exact S | exact ⟨vv, S⟩ | exact vv
                    · clear hi
                      refine step_of_g rfl rfl ?_
                      intro u G w hf S
                      have f2 : u 2 = (.bool false) := hf 2 (by simp)
                      have f9 : u 9 = .bool false := hf 9 (by simp)
                      have f12 : u 12 = .bool false := hf 12 (by simp)
                      simp only [resOf, spec, RSpec.resAt, z0, z1, z2, z3, z4, z5, z6, z7, ptrBlk] at S ⊢
                      simp only [f2, f9, f12]
                      refine ⟨rfl, ?_⟩
                      simp only [does]
                      go_simp
                      try first | exact S | exact ⟨vv, S⟩ | exact vv
                    · clear hi
                      refine step_of rfl rfl rfl ?_
                      intro u G w hf S
                      have f2 : u 2 = (.bool false) := hf 2 (by simp)
                      have f13 : u 13 = .bool false := hf 13 (by simp)
                      simp only [resOf, spec, RSpec.resAt, z0, z1, z2, z3, z4, z5, z6, z7, ptrBlk] at S ⊢
                      simp only [f2, f13]
                      simp only [does]
                      go_simp
                      try first | exact S | exact ⟨vv, S⟩ | exact vv
                  case fin3 =>
                    intro u w hf S
                    have f0 : u 0 = (.int .i64 0) := hf 0 (by simp)
                    have f1 : u 1 = .bool false := hf 1 (by simp)
                    have f2 : u 2 = (.bool false) := hf 2 (by simp)
                    have f3 : u 3 = .agg (arr8 D) := hf 3 (by simp)
                    have f4 : u 4 = (.slice (some ⟨b, off, none⟩) l.length c0) := hf 4 (by simp)
                    have f5 : u 5 = (.int .i64 (k : Int)) := hf 5 (by simp)
                    have f6 : u 6 = .pointer (some ⟨b, off + k * 35, none⟩) := hf 6 (by simp)
                    have f7 : u 7 = .pointer (some ⟨b, off + k * 35 + 3, none⟩) := hf 7 (by simp)
                    have f8 : u 8 = .agg (arr8 x.link) := hf 8 (by simp)
                    have f9 : u 9 = .bool false := hf 9 (by simp)
                    have f10 : u 10 = (.int .i64 (k : Int)) := hf 10 (by simp)
                    have f11 : u 11 = (.int .i64 (N : Int)) := hf 11 (by simp)
                    have f12 : u 12 = .bool false := hf 12 (by simp)
                    have f13 : u 13 = .bool false := hf 13 (by simp)
                    have f14 : u 14 = .bool false := hf 14 (by simp)
                    simp only [resOf, spec, RSpec.resAt, z0, z1, z2, z3, z4, z5, z6, z7, ptrBlk] at S
                    clear hf
                    simp only [List.length_cons, List.length_nil, Nat.zero_add, Nat.reduceAdd, List.drop_succ_cons, List.drop_zero, f0, f1, f2, f3, f4, f5, f6, f7, f8, f9, f10, f11, f12, f13, f14]
                    clear f0 f1 f2 f3 f4 f5 f6 f7 f8 f9 f10 f11 f12 f13 f14
                    go_wp2_with (first | ((with_reducible refine iD 141 (.load 22 _) ?_); refine step_loadR 22 (.tmp 140) b (off + k * 35 + 3) rfl _ (S.old_range Y3.out) _ Tryd.underlying22 rfl 32 kR (by rw [List.length_map]; exact HXL.out) _ rfl gw ?_) | ((with_reducible refine iO none (.store 22 (.tmp 3) _) ?_); refine step_store S 22 (.tmp 3) (.tmp 141) _ _ rfl rfl _ _ pk 32 kR (by first | (rw [arr8_size]; exact HXL.out) | simpa [arr8] using HXL.out) (by first | (rw [arr8_size]; exact HL.out) | simpa [arr8] using HL.out) on1 gw ?_; clear S; intro w S) | ((with_reducible refine iD 3 (.box 22 (.tmp 0)) ?_); refine step_boxA (dst := some 3) S 22 (.tmp 0) _ rfl gw ?_; clear S; intro g3 w S) | ((with_reducible refine iO _ (.load 22 _) ?_); first | (refine step_load S 22 _ _ rfl _ _ _ pk _ Tryd.underlying22 rfl 32 kR lN gw ?_) | (refine step_loadO 22 _ _ rfl _ _ _ (S.old_heap (Hid.out (by assumption))) _ Tryd.underlying22 rfl 32 kR lN gw ?_) | (refine step_loadR 22 _ _ _ rfl _ (S.old_range hy) _ Tryd.underlying22 rfl 32 kR lN _ rfl gw ?_)) | ((with_reducible refine iO _ (.load 50 _) ?_); first | (refine step_loadR 50 _ _ _ rfl _ (S.old_range hy) _ Tryd.underlying50 rfl 35 kR lN _ rfl gw ?_) | (refine step_loadP S 50 _ _ _ rfl _ _ _ pk 35 _ pT lN _ Tryd.underlying50 rfl kR gw ?_)) | ((with_reducible refine iO _ (.load 25 _) ?_); refine step_load1 25 _ _ _ rfl (cL) _ Tryd.underlying25 rfl gw ?_) | ((with_reducible refine iO _ (.load 23 _) ?_); refine step_load1 23 _ _ _ rfl (cL) _ Tryd.underlying23 rfl gw ?_) | ((with_reducible refine iO _ (.load 5 _) ?_); refine step_load1 5 _ _ _ rfl (cL) _ Tryd.underlying5 rfl gw ?_) | ((with_reducible refine iO _ (.load 24 _) ?_); refine step_load1 24 _ _ _ rfl (cL) _ Tryd.underlying24 rfl gw ?_) | ((with_reducible refine iD 13 (.alloc 22) ?_); refine step_alloc (dst := some 13) S 22 (.agg (arr8 (List.replicate 32 0))) (arr8 (List.replicate 32 0)) kR rfl gw ?_; clear S; intro g13 w S) | ((with_reducible refine iO none (.store 22 (.tmp 13) (.tmp 120)) ?_); refine step_store S 22 (.tmp 13) (.tmp 120) _ _ rfl rfl _ _ pk 32 kR lN lN on1 gw ?_; clear S; intro w S) | ((with_reducible refine iO _ (.load 22 _) ?_); first | (refine step_loadR 22 _ _ _ rfl _ (S.old_range hy) _ Tryd.underlying22 rfl 32 kR lN _ rfl gw ?_) | (refine step_loadP S 22 _ _ _ rfl _ _ _ pk 32 _ pT lN _ Tryd.underlying22 rfl kR gw ?_)) | ((with_reducible refine iO none (.store 22 (.tmp 3) (.tmp 141)) ?_); refine step_store S 22 (.tmp 3) (.tmp 141) _ _ rfl rfl _ _ pk 32 kR lN lN on1 gw ?_; clear S; intro w S) | fail)
                    go_roundw
                    case rel => exact ⟨k + 1, x.link, by omega, by go_num, x.len, .inr (by omega), S.sub (by repeat (first | exact Sub.nil _ | refine Sub.cons pk ?_))⟩
                    case measure => simp [intOf]; omega
            · by_cases h1 : k ≤ N
              · have hki3 : (k : Int) ≤ (N : Int) := by omega
                have hki4 : ¬ (k : Int) < (l.length : Int) := by omega
                clear hgo hst
                go_wp2_with (first | ((with_reducible refine iD 3 (.box 22 (.tmp 0)) ?_); refine step_boxA (dst := some 3) S 22 (.tmp 0) _ rfl gw ?_; clear S; intro g3 w S) | ((with_reducible refine iO _ (.load 22 _) ?_); first | (refine step_load S 22 _ _ rfl _ _ _ pk _ Tryd.underlying22 rfl 32 kR lN gw ?_) | (refine step_loadO 22 _ _ rfl _ _ _ (S.old_heap (Hid.out (by assumption))) _ Tryd.underlying22 rfl 32 kR lN gw ?_) | (refine step_loadR 22 _ _ _ rfl _ (S.old_range hy) _ Tryd.underlying22 rfl 32 kR lN _ rfl gw ?_)) | ((with_reducible refine iO _ (.load 50 _) ?_); first | (refine step_loadR 50 _ _ _ rfl _ (S.old_range hy) _ Tryd.underlying50 rfl 35 kR lN _ rfl gw ?_) | (refine step_loadP S 50 _ _ _ rfl _ _ _ pk 35 _ pT lN _ Tryd.underlying50 rfl kR gw ?_)) | ((with_reducible refine iO _ (.load 25 _) ?_); refine step_load1 25 _ _ _ rfl (cL) _ Tryd.underlying25 rfl gw ?_) | ((with_reducible refine iO _ (.load 23 _) ?_); refine step_load1 23 _ _ _ rfl (cL) _ Tryd.underlying23 rfl gw ?_) | ((with_reducible refine iO _ (.load 5 _) ?_); refine step_load1 5 _ _ _ rfl (cL) _ Tryd.underlying5 rfl gw ?_) | ((with_reducible refine iO _ (.load 24 _) ?_); refine step_load1 24 _ _ _ rfl (cL) _ Tryd.underlying24 rfl gw ?_) | ((with_reducible refine iD 13 (.alloc 22) ?_); refine step_alloc (dst := some 13) S 22 (.agg (arr8 (List.replicate 32 0))) (arr8 (List.replicate 32 0)) kR rfl gw ?_; clear S; intro g13 w S) | ((with_reducible refine iO none (.store 22 (.tmp 13) (.tmp 120)) ?_); refine step_store S 22 (.tmp 13) (.tmp 120) _ _ rfl rfl _ _ pk 32 kR lN lN on1 gw ?_; clear S; intro w S) | ((with_reducible refine iO _ (.load 22 _) ?_); first | (refine step_loadR 22 _ _ _ rfl _ (S.old_range hy) _ Tryd.underlying22 rfl 32 kR lN _ rfl gw ?_) | (refine step_loadP S 22 _ _ _ rfl _ _ _ pk 32 _ pT lN _ Tryd.underlying22 rfl kR gw ?_)) | ((with_reducible refine iO none (.store 22 (.tmp 3) (.tmp 141)) ?_); refine step_store S 22 (.tmp 3) (.tmp 141) _ _ rfl rfl _ _ pk 32 kR lN lN on1 gw ?_; clear S; intro w S) | fail)
                go_ret
                exact ⟨rfl, S.nil⟩
              · have hki3 : ¬ (k : Int) ≤ (N : Int) := by omega
                clear hgo hst
                go_wp2_with (first | ((with_reducible refine iD 3 (.box 22 (.tmp 0)) ?_); refine step_boxA (dst := some 3) S 22 (.tmp 0) _ rfl gw ?_; clear S; intro g3 w S) | ((with_reducible refine iO _ (.load 22 _) ?_); first | (refine step_load S 22 _ _ rfl _ _ _ pk _ Tryd.underlying22 rfl 32 kR lN gw ?_) | (refine step_loadO 22 _ _ rfl _ _ _ (S.old_heap (Hid.out (by assumption))) _ Tryd.underlying22 rfl 32 kR lN gw ?_) | (refine step_loadR 22 _ _ _ rfl _ (S.old_range hy) _ Tryd.underlying22 rfl 32 kR lN _ rfl gw ?_)) | ((with_reducible refine iO _ (.load 50 _) ?_); first | (refine step_loadR 50 _ _ _ rfl _ (S.old_range hy) _ Tryd.underlying50 rfl 35 kR lN _ rfl gw ?_) | (refine step_loadP S 50 _ _ _ rfl _ _ _ pk 35 _ pT lN _ Tryd.underlying50 rfl kR gw ?_)) | ((with_reducible refine iO _ (.load 25 _) ?_); refine step_load1 25 _ _ _ rfl (cL) _ Tryd.underlying25 rfl gw ?_) | ((with_reducible refine iO _ (.load 23 _) ?_); refine step_load1 23 _ _ _ rfl (cL) _ Tryd.underlying23 rfl gw ?_) | ((with_reducible refine iO _ (.load 5 _) ?_); refine step_load1 5 _ _ _ rfl (cL) _ Tryd.underlying5 rfl gw ?_) | ((with_reducible refine iO _ (.load 24 _) ?_); refine step_load1 24 _ _ _ rfl (cL) _ Tryd.underlying24 rfl gw ?_) | ((with_reducible refine iD 13 (.alloc 22) ?_); refine step_alloc (dst := some 13) S 22 (.agg (arr8 (List.replicate 32 0))) (arr8 (List.replicate 32 0)) kR rfl gw ?_; clear S; intro g13 w S) | ((with_reducible refine iO none (.store 22 (.tmp 13) (.tmp 120)) ?_); refine step_store S 22 (.tmp 13) (.tmp 120) _ _ rfl rfl _ _ pk 32 kR lN lN on1 gw ?_; clear S; intro w S) | ((with_reducible refine iO _ (.load 22 _) ?_); first | (refine step_loadR 22 _ _ _ rfl _ (S.old_range hy) _ Tryd.underlying22 rfl 32 kR lN _ rfl gw ?_) | (refine step_loadP S 22 _ _ _ rfl _ _ _ pk 32 _ pT lN _ Tryd.underlying22 rfl kR gw ?_)) | ((with_reducible refine iO none (.store 22 (.tmp 3) (.tmp 141)) ?_); refine step_store S 22 (.tmp 3) (.tmp 141) _ _ rfl rfl _ _ pk 32 kR lN lN on1 gw ?_; clear S; intro w S) | fail)
                go_ret
                exact ⟨rfl, S.nil⟩
end Go.Proofs.YtfhkmmagpnojmaaDoor
