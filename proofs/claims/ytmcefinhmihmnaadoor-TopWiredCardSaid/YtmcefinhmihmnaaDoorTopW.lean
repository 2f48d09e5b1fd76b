/- TopWired: the walk. No condition but the tables and the reach. -/
import Derived.Test.YtmcefinhmihmnaaDoorBd
import Derived.Test.YtmcefinhmihmnaaDoorTwA
import Derived.Test.YtmcefinhmihmnaaDoorTwP
import Derived.Test.YtmcefinhmihmnaaDoorRqM
import Derived.Test.YtmcefinhmihmnaaDoorRelyT
set_option linter.unusedSimpArgs false
set_option linter.unusedVariables false
namespace Go.Proofs.YtmcefinhmihmnaaDoor
open Go.RowKit

set_option maxRecDepth 100000 in
set_option maxHeartbeats 16000000 in
theorem topWired_walk (v0 v1 v3 : Value) (l : List Mnt) (key : List UInt8) (tenant : Int) (rs : List Rq) (now cut : Nat) (w0 : World) (h1 : Rg w0 v0 l) (h2 : Bs w0 v1 key) (h3 : Sl w0 40 v3 rs.length (rs.flatMap rqL)) (hK : KT w0) (hP : PT w0)
    (ht : -9223372036854775808 ≤ tenant ∧ tenant ≤ 9223372036854775807) (hn : now < 18446744073709551616) (hc : cut < 65536) :
    Calls Tryd.prog 3 #[v0, v1, .int .i64 tenant, v3, .int .u64 (now : Int), .int .u16 (cut : Int)] w0 fun e w' => e = .returned (.bool true) ∧ Has w0 w' [] := by
  have S := Has.start w0
  obtain ⟨a0, c0, rfl, k1, k2⟩ := Sl.shape h1
  obtain ⟨a1, c1, rfl, k3, k4⟩ := Sl.shape h2
  obtain ⟨a3, c3, rfl, k5, k6⟩ := Sl.shape h3
  unfold maxLen at k2 k4 k6
  have p1 := fun w h1 h2 => alive07_s w h1 h2
  by_cases hbig : 100 < l.length ∨ 200 < key.length ∨ 40 < rs.length
  · have H1 := Lib.hid h1; have H2 := Lib.hid h2; have H3 := Lib.hid h3; have HK := Lib.hid hK; have HP := Lib.hid hP; have P1 := Lib.hid p1; clear h1 h2 h3 hK hP p1
    go_enter Tryd.func3, Tryd.ntmps3
    go_upto_region 5 with (first | (go_at_call 4; (with_reducible refine (P1.out _ kT (S.pt HP.out)).mono ?_); rintro e w1 ⟨rfl, T⟩; replace S := S.call T; clear T; (try simp only [z4, z5] at S)) | ((with_reducible refine iO _ (.load 36 _) ?_); first | (refine step_loadR 36 _ _ _ rfl _ (S.old_range hy) _ Tryd.underlying36 rfl 40 kR lN _ rfl gw ?_) | (refine step_loadP S 36 _ _ _ rfl _ _ _ pk 40 _ pT lN _ Tryd.underlying36 rfl kR gw ?_)) | (at_builtin; refine step_append8 S (.tmp 69) (.tmp 70) _ _ rfl pk _ _ rfl bS lE gw ?_; clear S; intro v71 w S; (try simp only [z4] at S)) | (at_builtin; refine step_appendRq S (.tmp 72) (.tmp 77) _ _ rfl pk _ _ rfl sL lE gw ?_; clear S; intro v78 w S; (try simp only [z4] at S)) | ((with_reducible refine iO _ (.slice 23 _ _ _ _) ?_); refine step_cutH 23 5 1 _ _ _ _ _ _ _ _ rfl rfl (by first | rfl | omega) (by first | (first | omega | assumption | (exact Hid.out (by assumption)) | (simp only [List.length_append, List.length_cons, List.length_nil]; omega)) | decide) Tryd.underlying23 kR gw ?_) | ((with_reducible refine iD 95 (.buildSlice 23 0 _) ?_); refine step_build8 S 0 _ [] (by first | rfl | kernel_rfl) rfl (by decide) gw ?_; clear S; intro v95 w S) | (at_builtin; refine step_append8 S (.tmp 95) (.tmp 96) _ _ rfl pk _ _ rfl bS lE gw ?_; clear S; intro v97 w S; (try simp only [z4] at S)) | ((with_reducible refine iO _ (.slice 23 _ _ _ _) ?_); refine step_cutL 23 5 1 _ _ _ _ _ _ _ _ rfl rfl (by first | rfl | omega) (by first | (first | omega | assumption | (exact Hid.out (by assumption)) | (simp only [List.length_append, List.length_cons, List.length_nil]; omega)) | decide) Tryd.underlying23 kR gw ?_) | (at_builtin; refine step_append8 S (.tmp 97) (.tmp 100) _ _ rfl pk _ _ rfl bS lE gw ?_; clear S; intro v101 w S; (try simp only [z4] at S)) | ((with_reducible refine iD 127 (.buildSlice 37 0 _) ?_); refine step_build0 S 37 23 Tryd.underlying37 1 kR gw ?_; clear S; intro v127 w S) | ((with_reducible refine iO _ (.load 23 _) ?_); refine step_load1 23 _ _ _ rfl (cL) _ Tryd.underlying23 rfl gw ?_) | ((with_reducible refine iD 28 (.alloc 36) ?_); refine step_alloc (dst := some 28) S 36 (.agg ((rqL rqZ).toArray)) ((rqL rqZ).toArray) kR rfl gw ?_; clear S; intro g28 w S) | ((with_reducible refine iO none (.store 36 (.tmp 28) (.tmp 143)) ?_); refine step_store S 36 (.tmp 28) (.tmp 143) _ _ rfl rfl _ _ pk 40 kR lN lN on1 gw ?_; clear S; intro w S) | ((with_reducible refine iO _ (.load 36 _) ?_); first | (refine step_load S 36 _ _ rfl _ _ _ pk _ Tryd.underlying36 rfl 40 kR lN gw ?_) | (refine step_loadO 36 _ _ rfl _ _ _ (S.old_heap (Hid.out (by assumption))) _ Tryd.underlying36 rfl 40 kR lN gw ?_) | (refine step_loadR 36 _ _ _ rfl _ (S.old_range hy) _ Tryd.underlying36 rfl 40 kR lN _ rfl gw ?_)) | ((with_reducible refine iO _ (.load 34 _) ?_); first | (refine step_loadR 34 _ _ _ rfl _ (S.old_range hy) _ Tryd.underlying34 rfl 36 kR lN _ rfl gw ?_) | (refine step_loadP S 34 _ _ _ rfl _ _ _ pk 36 _ pT lN _ Tryd.underlying34 rfl kR gw ?_)) | ((with_reducible refine iO _ (.load 5 _) ?_); refine step_load1 5 _ _ _ rfl (cL) _ Tryd.underlying5 rfl gw ?_) | ((with_reducible refine iO _ (.load 31 _) ?_); refine step_load1 31 _ _ _ rfl (cL) _ Tryd.underlying31 rfl gw ?_) | ((with_reducible refine iO _ (.load 44 _) ?_); first | (refine step_loadR 44 _ _ _ rfl _ (S.old_range hy) _ Tryd.underlying44 rfl 3 kR lN _ rfl gw ?_) | (refine step_loadP S 44 _ _ _ rfl _ _ _ pk 3 _ pT lN _ Tryd.underlying44 rfl kR gw ?_)) | ((with_reducible refine iD 32 (.alloc 44) ?_); refine step_alloc (dst := some 32) S 44 (.agg ((mintL mintZ).toArray)) ((mintL mintZ).toArray) kR rfl gw ?_; clear S; intro g32 w S) | ((with_reducible refine iO none (.store 44 (.tmp 32) (.tmp 200)) ?_); refine step_store S 44 (.tmp 32) (.tmp 200) _ _ rfl rfl _ _ pk 3 kR lN lN on1 gw ?_; clear S; intro w S) | ((with_reducible refine iO _ (.load 25 _) ?_); refine step_load1 25 _ _ _ rfl (cL) _ Tryd.underlying25 rfl gw ?_) | ((with_reducible refine iD 33 (.alloc 34) ?_); refine step_alloc (dst := some 33) S 34 (.agg ((tokL tokZ).toArray)) ((tokL tokZ).toArray) kR rfl gw ?_; clear S; intro g33 w S) | ((with_reducible refine iO none (.store 34 (.tmp 33) (.tmp 212)) ?_); refine step_store S 34 (.tmp 33) (.tmp 212) _ _ rfl rfl _ _ pk 36 kR lN lN on1 gw ?_; clear S; intro w S) | ((with_reducible refine iO _ (.load 34 _) ?_); first | (refine step_load S 34 _ _ rfl _ _ _ pk _ Tryd.underlying34 rfl 36 kR lN gw ?_) | (refine step_loadO 34 _ _ rfl _ _ _ (S.old_heap (Hid.out (by assumption))) _ Tryd.underlying34 rfl 36 kR lN gw ?_) | (refine step_loadR 34 _ _ _ rfl _ (S.old_range hy) _ Tryd.underlying34 rfl 36 kR lN _ rfl gw ?_)) | ((with_reducible refine iO _ (.load 4 _) ?_); refine step_load1 4 _ _ _ rfl (cL) _ Tryd.underlying4 rfl gw ?_) | fail)
    all_goals first
      | (go_ret; exact ⟨rfl, S.nil⟩)
      | (exfalso; omega)
  obtain ⟨b1, b2, b3⟩ : l.length ≤ 100 ∧ key.length ≤ 200 ∧ rs.length ≤ 40 := by omega
  have i1 : ¬ 100 < (l.length : Int) := by omega
  have i2 : ¬ 200 < (key.length : Int) := by omega
  have i3 : ¬ 40 < (rs.length : Int) := by omega
  have pe := fun r w => encodeRequest_s r w
  obtain ⟨m, hm⟩ : ∃ m, m = rs.length := ⟨_, rfl⟩
  rw [← hm] at h3 i3 k5 b3 ⊢
  have hn0 := hn
  have hm0 := hm
  have H1 := Lib.hid h1; have H2 := Lib.hid h2; have H3 := Lib.hid h3; have HK := Lib.hid hK; have HP := Lib.hid hP; have P1 := Lib.hid p1; have PE := Lib.hid pe; have HM0 := Lib.hid hm0; have HN0 := Lib.hid hn0; have HT := Lib.hid ht; have B3 := Lib.hid b3; clear h1 h2 h3 hK hP p1 pe hm0 hn0 ht b3
  clear hn hm
  clear hbig
  go_enter Tryd.func3, Tryd.ntmps3
  go_wp2_with (first | (go_at_call 4; (with_reducible refine (P1.out _ kT (S.pt HP.out)).mono ?_); rintro e w1 ⟨rfl, T⟩; replace S := S.call T; clear T; (try simp only [z4, z5] at S)) | ((with_reducible refine iO _ (.load 36 _) ?_); first | (refine step_loadR 36 _ _ _ rfl _ (S.old_range hy) _ Tryd.underlying36 rfl 40 kR lN _ rfl gw ?_) | (refine step_loadP S 36 _ _ _ rfl _ _ _ pk 40 _ pT lN _ Tryd.underlying36 rfl kR gw ?_)) | (at_builtin; refine step_append8 S (.tmp 69) (.tmp 70) _ _ rfl pk _ _ rfl bS lE gw ?_; clear S; intro v71 w S; (try simp only [z4] at S)) | (at_builtin; refine step_appendRq S (.tmp 72) (.tmp 77) _ _ rfl pk _ _ rfl sL lE gw ?_; clear S; intro v78 w S; (try simp only [z4] at S)) | ((with_reducible refine iO _ (.slice 23 _ _ _ _) ?_); refine step_cutH 23 5 1 _ _ _ _ _ _ _ _ rfl rfl (by first | rfl | omega) (by first | (first | omega | assumption | (exact Hid.out (by assumption)) | (simp only [List.length_append, List.length_cons, List.length_nil]; omega)) | decide) Tryd.underlying23 kR gw ?_) | ((with_reducible refine iD 95 (.buildSlice 23 0 _) ?_); refine step_build8 S 0 _ [] (by first | rfl | kernel_rfl) rfl (by decide) gw ?_; clear S; intro v95 w S) | (at_builtin; refine step_append8 S (.tmp 95) (.tmp 96) _ _ rfl pk _ _ rfl bS lE gw ?_; clear S; intro v97 w S; (try simp only [z4] at S)) | ((with_reducible refine iO _ (.slice 23 _ _ _ _) ?_); refine step_cutL 23 5 1 _ _ _ _ _ _ _ _ rfl rfl (by first | rfl | omega) (by first | (first | omega | assumption | (exact Hid.out (by assumption)) | (simp only [List.length_append, List.length_cons, List.length_nil]; omega)) | decide) Tryd.underlying23 kR gw ?_) | (at_builtin; refine step_append8 S (.tmp 97) (.tmp 100) _ _ rfl pk _ _ rfl bS lE gw ?_; clear S; intro v101 w S; (try simp only [z4] at S)) | ((with_reducible refine iD 127 (.buildSlice 37 0 _) ?_); refine step_build0 S 37 23 Tryd.underlying37 1 kR gw ?_; clear S; intro v127 w S) | ((with_reducible refine iO _ (.load 23 _) ?_); refine step_load1 23 _ _ _ rfl (cL) _ Tryd.underlying23 rfl gw ?_) | ((with_reducible refine iD 28 (.alloc 36) ?_); refine step_alloc (dst := some 28) S 36 (.agg ((rqL rqZ).toArray)) ((rqL rqZ).toArray) kR rfl gw ?_; clear S; intro g28 w S) | ((with_reducible refine iO none (.store 36 (.tmp 28) (.tmp 143)) ?_); refine step_store S 36 (.tmp 28) (.tmp 143) _ _ rfl rfl _ _ pk 40 kR lN lN on1 gw ?_; clear S; intro w S) | ((with_reducible refine iO _ (.load 36 _) ?_); first | (refine step_load S 36 _ _ rfl _ _ _ pk _ Tryd.underlying36 rfl 40 kR lN gw ?_) | (refine step_loadO 36 _ _ rfl _ _ _ (S.old_heap (Hid.out (by assumption))) _ Tryd.underlying36 rfl 40 kR lN gw ?_) | (refine step_loadR 36 _ _ _ rfl _ (S.old_range hy) _ Tryd.underlying36 rfl 40 kR lN _ rfl gw ?_)) | ((with_reducible refine iO _ (.load 34 _) ?_); first | (refine step_loadR 34 _ _ _ rfl _ (S.old_range hy) _ Tryd.underlying34 rfl 36 kR lN _ rfl gw ?_) | (refine step_loadP S 34 _ _ _ rfl _ _ _ pk 36 _ pT lN _ Tryd.underlying34 rfl kR gw ?_)) | ((with_reducible refine iO _ (.load 5 _) ?_); refine step_load1 5 _ _ _ rfl (cL) _ Tryd.underlying5 rfl gw ?_) | ((with_reducible refine iO _ (.load 31 _) ?_); refine step_load1 31 _ _ _ rfl (cL) _ Tryd.underlying31 rfl gw ?_) | ((with_reducible refine iO _ (.load 44 _) ?_); first | (refine step_loadR 44 _ _ _ rfl _ (S.old_range hy) _ Tryd.underlying44 rfl 3 kR lN _ rfl gw ?_) | (refine step_loadP S 44 _ _ _ rfl _ _ _ pk 3 _ pT lN _ Tryd.underlying44 rfl kR gw ?_)) | ((with_reducible refine iD 32 (.alloc 44) ?_); refine step_alloc (dst := some 32) S 44 (.agg ((mintL mintZ).toArray)) ((mintL mintZ).toArray) kR rfl gw ?_; clear S; intro g32 w S) | ((with_reducible refine iO none (.store 44 (.tmp 32) (.tmp 200)) ?_); refine step_store S 44 (.tmp 32) (.tmp 200) _ _ rfl rfl _ _ pk 3 kR lN lN on1 gw ?_; clear S; intro w S) | ((with_reducible refine iO _ (.load 25 _) ?_); refine step_load1 25 _ _ _ rfl (cL) _ Tryd.underlying25 rfl gw ?_) | ((with_reducible refine iD 33 (.alloc 34) ?_); refine step_alloc (dst := some 33) S 34 (.agg ((tokL tokZ).toArray)) ((tokL tokZ).toArray) kR rfl gw ?_; clear S; intro g33 w S) | ((with_reducible refine iO none (.store 34 (.tmp 33) (.tmp 212)) ?_); refine step_store S 34 (.tmp 33) (.tmp 212) _ _ rfl rfl _ _ pk 36 kR lN lN on1 gw ?_; clear S; intro w S) | ((with_reducible refine iO _ (.load 34 _) ?_); first | (refine step_load S 34 _ _ rfl _ _ _ pk _ Tryd.underlying34 rfl 36 kR lN gw ?_) | (refine step_loadO 34 _ _ rfl _ _ _ (S.old_heap (Hid.out (by assumption))) _ Tryd.underlying34 rfl 36 kR lN gw ?_) | (refine step_loadR 34 _ _ _ rfl _ (S.old_range hy) _ Tryd.underlying34 rfl 36 kR lN _ rfl gw ?_)) | ((with_reducible refine iO _ (.load 4 _) ?_); refine step_load1 4 _ _ _ rfl (cL) _ Tryd.underlying4 rfl gw ?_) | fail)
  go_loopw [14, 15, 56] (fun v14 v15 u wr => ∃ (k : Nat), k ≤ m ∧ u = .int .i64 (k : Int) ∧ Has w0 wr [row8 v14 (strmL ((rs.take k).filter rqV)), rowRq v15 ((rs.take k).filter rqV)]) (fun _ _ u _ => m - (intOf u).toNat)
  case atStart => exact ⟨0, Nat.zero_le _, rfl, S.nilRq.nil8⟩
  case round =>
    clear S
    obtain ⟨k, hk, rfl, S⟩ := hrel
    by_cases hlt : k < m
    · have hlt2 : k < rs.length := by rw [← HM0.out]; exact hlt
      have hx : rs[k]? = some rs[k] := List.getElem?_eq_getElem hlt2
      have hrr := H3.out
      obtain ⟨b, off, rfl, hcell⟩ := hrr.atA (by omega)
      have hrg := hrr.elem rqL_length (by decide) k _ hx
      have hs1 := sent_yes rs k _ hx
      have hs2 := sent_no rs k _ hx
      have hsl := sent_len rs k
      obtain ⟨x, hxe⟩ : ∃ x, x = rs[k] := ⟨_, rfl⟩
      rw [← hxe] at hrg hs1 hs2
      obtain ⟨s, hs⟩ : ∃ s, s = (rs.take k).filter rqV := ⟨_, rfl⟩
      rw [← hs] at S hs1 hs2 hsl
      have hst := strm_len s
      have hb3 := B3.out
      have hmm := HM0.out
      have pe := PE.out x
      have hki : (k : Int) < (m : Int) := by omega
      have hki2 : (k : Int) < 9223372036854775807 := by omega
      have hel := encR_length x
      have hbz := bsz_le x.kind
      have hle1 : (strmL s).length + (encR x).length ≤ 140737488355328 := by omega
      have hle2 : (s.length + [x].length) * 72 ≤ 140737488355328 := by simp only [List.length_cons, List.length_nil]; omega
      cases hv : rqV x with
      | true =>
        have hmore := hs1 hv
        have hse := strm_app s x
        rw [show encRE x = encR x from if_pos hv, show rqE x = 0 from if_pos hv] at pe
        obtain ⟨T, hT⟩ : ∃ T, T = strmL s := ⟨_, rfl⟩
        obtain ⟨E, hE⟩ : ∃ E, E = encR x := ⟨_, rfl⟩
        rw [← hT] at S hle1 hse
        rw [← hE] at pe hle1 hse
        clear hx hrr hcell hxe hs1 hs2 hs hst hb3 hmm hel hbz hsl hT hE hv
        have HRG := Lib.hid hrg; have PE := Lib.hid pe; have HMORE := Lib.hid hmore; have HSE := Lib.hid hse; have HLE1 := Lib.hid hle1; have HLE2 := Lib.hid hle2; clear hrg pe hmore hse hle1 hle2
        go_wp2_with (first | ((with_reducible refine iD 77 (.buildSlice 24 1 _) ?_); refine step_buildRq1s S (.tmp 76) x rfl gw ?_; clear S; intro v77 w S) | (at_builtin; refine step_appendRq S (.tmp 72) (.tmp 77) _ s rfl pk v77 [x] rfl (S.sl (v := v77) pk) HLE2.out gw ?_; clear S; intro v78 w S) | (at_builtin; refine step_append8 S (.tmp 69) (.tmp 70) _ T rfl pk v64 E rfl (S.bs (v := v64) (xs := E) pk) HLE1.out gw ?_; clear S; intro v71 w S) | ((with_reducible refine iO _ (.load 36 _) ?_); first | (refine step_loadR 36 _ _ _ rfl _ (S.old_range hy) _ Tryd.underlying36 rfl 40 kR lN _ rfl gw ?_) | (refine step_loadP S 36 _ _ _ rfl _ _ _ pk 40 _ pT lN _ Tryd.underlying36 rfl kR gw ?_)) | (go_at_call 5; (with_reducible refine (PE.out _).mono ?_); rintro e w1 ⟨v64, rfl, T⟩; replace S := S.call T; clear T; (try simp only [z4, z5] at S)) | ((with_reducible refine iO _ (.slice 23 _ _ _ _) ?_); refine step_cutH 23 5 1 _ _ _ _ _ _ _ _ rfl rfl (by first | rfl | omega) (by first | (first | omega | assumption | (exact Hid.out (by assumption)) | (simp only [List.length_append, List.length_cons, List.length_nil]; omega)) | decide) Tryd.underlying23 kR gw ?_) | ((with_reducible refine iD 95 (.buildSlice 23 0 _) ?_); refine step_build8 S 0 _ [] (by first | rfl | kernel_rfl) rfl (by decide) gw ?_; clear S; intro v95 w S) | (at_builtin; refine step_append8 S (.tmp 95) (.tmp 96) _ _ rfl pk _ _ rfl bS lE gw ?_; clear S; intro v97 w S; (try simp only [z4] at S)) | ((with_reducible refine iO _ (.slice 23 _ _ _ _) ?_); refine step_cutL 23 5 1 _ _ _ _ _ _ _ _ rfl rfl (by first | rfl | omega) (by first | (first | omega | assumption | (exact Hid.out (by assumption)) | (simp only [List.length_append, List.length_cons, List.length_nil]; omega)) | decide) Tryd.underlying23 kR gw ?_) | (at_builtin; refine step_append8 S (.tmp 97) (.tmp 100) _ _ rfl pk _ _ rfl bS lE gw ?_; clear S; intro v101 w S; (try simp only [z4] at S)) | ((with_reducible refine iD 127 (.buildSlice 37 0 _) ?_); refine step_build0 S 37 23 Tryd.underlying37 1 kR gw ?_; clear S; intro v127 w S) | ((with_reducible refine iO _ (.load 23 _) ?_); refine step_load1 23 _ _ _ rfl (cL) _ Tryd.underlying23 rfl gw ?_) | ((with_reducible refine iD 28 (.alloc 36) ?_); refine step_alloc (dst := some 28) S 36 (.agg ((rqL rqZ).toArray)) ((rqL rqZ).toArray) kR rfl gw ?_; clear S; intro g28 w S) | ((with_reducible refine iO none (.store 36 (.tmp 28) (.tmp 143)) ?_); refine step_store S 36 (.tmp 28) (.tmp 143) _ _ rfl rfl _ _ pk 40 kR lN lN on1 gw ?_; clear S; intro w S) | ((with_reducible refine iO _ (.load 36 _) ?_); first | (refine step_load S 36 _ _ rfl _ _ _ pk _ Tryd.underlying36 rfl 40 kR lN gw ?_) | (refine step_loadO 36 _ _ rfl _ _ _ (S.old_heap (Hid.out (by assumption))) _ Tryd.underlying36 rfl 40 kR lN gw ?_) | (refine step_loadR 36 _ _ _ rfl _ (S.old_range hy) _ Tryd.underlying36 rfl 40 kR lN _ rfl gw ?_)) | ((with_reducible refine iO _ (.load 34 _) ?_); first | (refine step_loadR 34 _ _ _ rfl _ (S.old_range hy) _ Tryd.underlying34 rfl 36 kR lN _ rfl gw ?_) | (refine step_loadP S 34 _ _ _ rfl _ _ _ pk 36 _ pT lN _ Tryd.underlying34 rfl kR gw ?_)) | ((with_reducible refine iO _ (.load 5 _) ?_); refine step_load1 5 _ _ _ rfl (cL) _ Tryd.underlying5 rfl gw ?_) | ((with_reducible refine iO _ (.load 31 _) ?_); refine step_load1 31 _ _ _ rfl (cL) _ Tryd.underlying31 rfl gw ?_) | ((with_reducible refine iO _ (.load 44 _) ?_); first | (refine step_loadR 44 _ _ _ rfl _ (S.old_range hy) _ Tryd.underlying44 rfl 3 kR lN _ rfl gw ?_) | (refine step_loadP S 44 _ _ _ rfl _ _ _ pk 3 _ pT lN _ Tryd.underlying44 rfl kR gw ?_)) | ((with_reducible refine iD 32 (.alloc 44) ?_); refine step_alloc (dst := some 32) S 44 (.agg ((mintL mintZ).toArray)) ((mintL mintZ).toArray) kR rfl gw ?_; clear S; intro g32 w S) | ((with_reducible refine iO none (.store 44 (.tmp 32) (.tmp 200)) ?_); refine step_store S 44 (.tmp 32) (.tmp 200) _ _ rfl rfl _ _ pk 3 kR lN lN on1 gw ?_; clear S; intro w S) | ((with_reducible refine iO _ (.load 25 _) ?_); refine step_load1 25 _ _ _ rfl (cL) _ Tryd.underlying25 rfl gw ?_) | ((with_reducible refine iD 33 (.alloc 34) ?_); refine step_alloc (dst := some 33) S 34 (.agg ((tokL tokZ).toArray)) ((tokL tokZ).toArray) kR rfl gw ?_; clear S; intro g33 w S) | ((with_reducible refine iO none (.store 34 (.tmp 33) (.tmp 212)) ?_); refine step_store S 34 (.tmp 33) (.tmp 212) _ _ rfl rfl _ _ pk 36 kR lN lN on1 gw ?_; clear S; intro w S) | ((with_reducible refine iO _ (.load 34 _) ?_); first | (refine step_load S 34 _ _ rfl _ _ _ pk _ Tryd.underlying34 rfl 36 kR lN gw ?_) | (refine step_loadO 34 _ _ rfl _ _ _ (S.old_heap (Hid.out (by assumption))) _ Tryd.underlying34 rfl 36 kR lN gw ?_) | (refine step_loadR 34 _ _ _ rfl _ (S.old_range hy) _ Tryd.underlying34 rfl 36 kR lN _ rfl gw ?_)) | ((with_reducible refine iO _ (.load 4 _) ?_); refine step_load1 4 _ _ _ rfl (cL) _ Tryd.underlying4 rfl gw ?_) | fail)
        go_roundw
        case rel => exact ⟨k + 1, by omega, by go_num, by rw [HMORE.out, HSE.out]; exact S.sub (by repeat (first | exact Sub.nil _ | refine Sub.cons pk ?_))⟩
        case measure => simp [intOf]; omega
      | false =>
        have hmore := hs2 hv
        rw [show encRE x = [] from if_neg (by rw [hv]; decide), show rqE x = 8 from if_neg (by rw [hv]; decide)] at pe
        clear hx hrr hcell hxe hs1 hs2 hs hst hb3 hmm hel hbz hsl hv
        have HRG := Lib.hid hrg; have PE := Lib.hid pe; have HMORE := Lib.hid hmore; have HLE1 := Lib.hid hle1; have HLE2 := Lib.hid hle2; clear hrg pe hmore hle1 hle2
        go_wp2_with (first | ((with_reducible refine iO _ (.load 36 _) ?_); first | (refine step_loadR 36 _ _ _ rfl _ (S.old_range hy) _ Tryd.underlying36 rfl 40 kR lN _ rfl gw ?_) | (refine step_loadP S 36 _ _ _ rfl _ _ _ pk 40 _ pT lN _ Tryd.underlying36 rfl kR gw ?_)) | (go_at_call 5; (with_reducible refine (PE.out _).mono ?_); rintro e w1 ⟨v64, rfl, T⟩; replace S := S.call T; clear T; (try simp only [z4, z5] at S)) | ((with_reducible refine iO _ (.slice 23 _ _ _ _) ?_); refine step_cutH 23 5 1 _ _ _ _ _ _ _ _ rfl rfl (by first | rfl | omega) (by first | (first | omega | assumption | (exact Hid.out (by assumption)) | (simp only [List.length_append, List.length_cons, List.length_nil]; omega)) | decide) Tryd.underlying23 kR gw ?_) | ((with_reducible refine iD 95 (.buildSlice 23 0 _) ?_); refine step_build8 S 0 _ [] (by first | rfl | kernel_rfl) rfl (by decide) gw ?_; clear S; intro v95 w S) | (at_builtin; refine step_append8 S (.tmp 95) (.tmp 96) _ _ rfl pk _ _ rfl bS lE gw ?_; clear S; intro v97 w S; (try simp only [z4] at S)) | ((with_reducible refine iO _ (.slice 23 _ _ _ _) ?_); refine step_cutL 23 5 1 _ _ _ _ _ _ _ _ rfl rfl (by first | rfl | omega) (by first | (first | omega | assumption | (exact Hid.out (by assumption)) | (simp only [List.length_append, List.length_cons, List.length_nil]; omega)) | decide) Tryd.underlying23 kR gw ?_) | (at_builtin; refine step_append8 S (.tmp 97) (.tmp 100) _ _ rfl pk _ _ rfl bS lE gw ?_; clear S; intro v101 w S; (try simp only [z4] at S)) | ((with_reducible refine iD 127 (.buildSlice 37 0 _) ?_); refine step_build0 S 37 23 Tryd.underlying37 1 kR gw ?_; clear S; intro v127 w S) | ((with_reducible refine iO _ (.load 23 _) ?_); refine step_load1 23 _ _ _ rfl (cL) _ Tryd.underlying23 rfl gw ?_) | ((with_reducible refine iD 28 (.alloc 36) ?_); refine step_alloc (dst := some 28) S 36 (.agg ((rqL rqZ).toArray)) ((rqL rqZ).toArray) kR rfl gw ?_; clear S; intro g28 w S) | ((with_reducible refine iO none (.store 36 (.tmp 28) (.tmp 143)) ?_); refine step_store S 36 (.tmp 28) (.tmp 143) _ _ rfl rfl _ _ pk 40 kR lN lN on1 gw ?_; clear S; intro w S) | ((with_reducible refine iO _ (.load 36 _) ?_); first | (refine step_load S 36 _ _ rfl _ _ _ pk _ Tryd.underlying36 rfl 40 kR lN gw ?_) | (refine step_loadO 36 _ _ rfl _ _ _ (S.old_heap (Hid.out (by assumption))) _ Tryd.underlying36 rfl 40 kR lN gw ?_) | (refine step_loadR 36 _ _ _ rfl _ (S.old_range hy) _ Tryd.underlying36 rfl 40 kR lN _ rfl gw ?_)) | ((with_reducible refine iO _ (.load 34 _) ?_); first | (refine step_loadR 34 _ _ _ rfl _ (S.old_range hy) _ Tryd.underlying34 rfl 36 kR lN _ rfl gw ?_) | (refine step_loadP S 34 _ _ _ rfl _ _ _ pk 36 _ pT lN _ Tryd.underlying34 rfl kR gw ?_)) | ((with_reducible refine iO _ (.load 5 _) ?_); refine step_load1 5 _ _ _ rfl (cL) _ Tryd.underlying5 rfl gw ?_) | ((with_reducible refine iO _ (.load 31 _) ?_); refine step_load1 31 _ _ _ rfl (cL) _ Tryd.underlying31 rfl gw ?_) | ((with_reducible refine iO _ (.load 44 _) ?_); first | (refine step_loadR 44 _ _ _ rfl _ (S.old_range hy) _ Tryd.underlying44 rfl 3 kR lN _ rfl gw ?_) | (refine step_loadP S 44 _ _ _ rfl _ _ _ pk 3 _ pT lN _ Tryd.underlying44 rfl kR gw ?_)) | ((with_reducible refine iD 32 (.alloc 44) ?_); refine step_alloc (dst := some 32) S 44 (.agg ((mintL mintZ).toArray)) ((mintL mintZ).toArray) kR rfl gw ?_; clear S; intro g32 w S) | ((with_reducible refine iO none (.store 44 (.tmp 32) (.tmp 200)) ?_); refine step_store S 44 (.tmp 32) (.tmp 200) _ _ rfl rfl _ _ pk 3 kR lN lN on1 gw ?_; clear S; intro w S) | ((with_reducible refine iO _ (.load 25 _) ?_); refine step_load1 25 _ _ _ rfl (cL) _ Tryd.underlying25 rfl gw ?_) | ((with_reducible refine iD 33 (.alloc 34) ?_); refine step_alloc (dst := some 33) S 34 (.agg ((tokL tokZ).toArray)) ((tokL tokZ).toArray) kR rfl gw ?_; clear S; intro g33 w S) | ((with_reducible refine iO none (.store 34 (.tmp 33) (.tmp 212)) ?_); refine step_store S 34 (.tmp 33) (.tmp 212) _ _ rfl rfl _ _ pk 36 kR lN lN on1 gw ?_; clear S; intro w S) | ((with_reducible refine iO _ (.load 34 _) ?_); first | (refine step_load S 34 _ _ rfl _ _ _ pk _ Tryd.underlying34 rfl 36 kR lN gw ?_) | (refine step_loadO 34 _ _ rfl _ _ _ (S.old_heap (Hid.out (by assumption))) _ Tryd.underlying34 rfl 36 kR lN gw ?_) | (refine step_loadR 34 _ _ _ rfl _ (S.old_range hy) _ Tryd.underlying34 rfl 36 kR lN _ rfl gw ?_)) | ((with_reducible refine iO _ (.load 4 _) ?_); refine step_load1 4 _ _ _ rfl (cL) _ Tryd.underlying4 rfl gw ?_) | fail)
        go_roundw
        case rel => exact ⟨k + 1, by omega, by go_num, by rw [HMORE.out]; exact S.sub (by repeat (first | exact Sub.nil _ | refine Sub.cons pk ?_))⟩
        case measure => simp [intOf]; omega
    · obtain rfl : k = m := by omega
      have hki : ¬ (k : Int) < (k : Int) := by omega
      have hsl := sent_len rs k
      have hb3 := B3.out
      have hmm := HM0.out
      obtain ⟨s, hs⟩ : ∃ s, s = (rs.take k).filter rqV := ⟨_, rfl⟩
      rw [← hs] at S hsl
      have hval : ∀ r ∈ s, rqV r = true := fun r hr => by rw [hs] at hr; exact (List.mem_filter.1 hr).2
      have hst := strm_len s
      have hs40 : s.length ≤ 40 := by omega
      obtain ⟨T, hT⟩ : ∃ T, T = strmL s := ⟨_, rfl⟩
      have hTl : T.length ≤ 2120 := by rw [hT]; omega
      rw [← hT] at S
      obtain ⟨a14, c14, rfl, kc1, kc2⟩ := Sl.shape (S.bs (v := u14) (xs := T) pk)
      unfold maxLen at kc2
      obtain ⟨n, hn⟩ : ∃ n, n = cut % (T.length + 1) := ⟨_, rfl⟩
      have hnl : n ≤ T.length := by have := Nat.mod_lt cut (show T.length + 1 > 0 by omega); omega
      obtain ⟨M, hMe⟩ : ∃ M, M = T.length + 1 := ⟨_, rfl⟩
      have e0 : (T.length : Int) + 1 = (M : Int) := by omega
      have e1 : (cut : Int) % (M : Int) = (n : Int) := by rw [hn, ← hMe]; rfl
      have e2 : Int.tmod (cut : Int) (M : Int) = (n : Int) := by rw [Int.tmod_eq_emod_of_nonneg (by omega), e1]
      have e3 : ¬ (M : Int) = 0 := by omega
      have e4 : M ≤ 9223372036854775807 := by omega
      have hcutT := strm_cut s n
      rw [← hT] at hcutT
      obtain ⟨X1, hX1⟩ : ∃ X, X = splitB (T.take n) := ⟨_, rfl⟩
      have hr1 := rest_len (T.take n)
      have p2 := fun v w h => split_a v (T.take n) w h (by rw [List.length_take]; omega)
      rw [← hX1] at hr1 p2 hcutT
      obtain ⟨X2, hX2⟩ : ∃ X, X = splitB (X1.2 ++ T.drop n) := ⟨_, rfl⟩
      have p3 := fun v w h => split_a v (X1.2 ++ T.drop n) w h (by rw [List.length_append, List.length_drop]; omega)
      rw [← hX2] at p3 hcutT
      clear hX2
      obtain ⟨Y2, Z2⟩ := X2
      obtain ⟨hall, hleft⟩ := hcutT
      simp only at hall hleft
      subst hleft
      have l1 : ([] : List UInt8).length + X1.2.length ≤ 140737488355328 := by simp; omega
      have l2 : X1.2.length + (T.drop n).length ≤ 140737488355328 := by simp; omega
      clear hs hst hn hT hX1 hr1 hmm hb3 hMe
      have P2 := Lib.hid p2; have P3 := Lib.hid p3; have HALL := Lib.hid hall; have HVAL := Lib.hid hval; have L1 := Lib.hid l1; have L2 := Lib.hid l2; have HS40 := Lib.hid hs40; have HTL := Lib.hid hTl; clear p2 p3 hall hval l1 l2 hs40 hTl
      go_upto_region 16 with (first | ((with_reducible refine iO _ (.load 36 _) ?_); first | (refine step_loadR 36 _ _ _ rfl _ (S.old_range hy) _ Tryd.underlying36 rfl 40 kR lN _ rfl gw ?_) | (refine step_loadP S 36 _ _ _ rfl _ _ _ pk 40 _ pT lN _ Tryd.underlying36 rfl kR gw ?_)) | (at_builtin; refine step_append8 S (.tmp 69) (.tmp 70) _ _ rfl pk _ _ rfl bS lE gw ?_; clear S; intro v71 w S; (try simp only [z4] at S)) | (at_builtin; refine step_appendRq S (.tmp 72) (.tmp 77) _ _ rfl pk _ _ rfl sL lE gw ?_; clear S; intro v78 w S; (try simp only [z4] at S)) | (go_at_call 6; (with_reducible refine (P2.out _ _ ((S.bs (v := .slice a14 T.length c14) (xs := T) pk).cutH n hnl rfl)).mono ?_); rintro e w1 ⟨v91, v92, ps1, rfl, hp1, T⟩; replace S := S.call T; clear T; (try simp only [z4, z5] at S); have HP1 := Lib.hid hp1; clear hp1) | ((with_reducible refine iD 95 (.buildSlice 23 0 _) ?_); refine step_build8 S 0 _ [] (by first | rfl | kernel_rfl) rfl (by decide) gw ?_; clear S; intro v95 w S) | (at_builtin; refine step_append8 S (.tmp 95) (.tmp 96) _ _ rfl pk _ _ rfl bS lE gw ?_; clear S; intro v97 w S; (try simp only [z4] at S)) | ((with_reducible refine iO _ (.slice 23 _ _ _ _) ?_); refine step_cutL 23 5 1 _ _ _ _ _ _ _ _ rfl rfl (by first | rfl | omega) (by first | (first | omega | assumption | (exact Hid.out (by assumption)) | (simp only [List.length_append, List.length_cons, List.length_nil]; omega)) | decide) Tryd.underlying23 kR gw ?_) | (at_builtin; refine step_append8 S (.tmp 97) (.tmp 100) _ _ rfl pk _ _ rfl bS lE gw ?_; clear S; intro v101 w S; (try simp only [z4] at S)) | ((with_reducible refine iD 127 (.buildSlice 37 0 _) ?_); refine step_build0 S 37 23 Tryd.underlying37 1 kR gw ?_; clear S; intro v127 w S) | ((with_reducible refine iO _ (.load 23 _) ?_); refine step_load1 23 _ _ _ rfl (cL) _ Tryd.underlying23 rfl gw ?_) | ((with_reducible refine iD 28 (.alloc 36) ?_); refine step_alloc (dst := some 28) S 36 (.agg ((rqL rqZ).toArray)) ((rqL rqZ).toArray) kR rfl gw ?_; clear S; intro g28 w S) | ((with_reducible refine iO none (.store 36 (.tmp 28) (.tmp 143)) ?_); refine step_store S 36 (.tmp 28) (.tmp 143) _ _ rfl rfl _ _ pk 40 kR lN lN on1 gw ?_; clear S; intro w S) | ((with_reducible refine iO _ (.load 36 _) ?_); first | (refine step_load S 36 _ _ rfl _ _ _ pk _ Tryd.underlying36 rfl 40 kR lN gw ?_) | (refine step_loadO 36 _ _ rfl _ _ _ (S.old_heap (Hid.out (by assumption))) _ Tryd.underlying36 rfl 40 kR lN gw ?_) | (refine step_loadR 36 _ _ _ rfl _ (S.old_range hy) _ Tryd.underlying36 rfl 40 kR lN _ rfl gw ?_)) | ((with_reducible refine iO _ (.load 34 _) ?_); first | (refine step_loadR 34 _ _ _ rfl _ (S.old_range hy) _ Tryd.underlying34 rfl 36 kR lN _ rfl gw ?_) | (refine step_loadP S 34 _ _ _ rfl _ _ _ pk 36 _ pT lN _ Tryd.underlying34 rfl kR gw ?_)) | ((with_reducible refine iO _ (.load 5 _) ?_); refine step_load1 5 _ _ _ rfl (cL) _ Tryd.underlying5 rfl gw ?_) | ((with_reducible refine iO _ (.load 31 _) ?_); refine step_load1 31 _ _ _ rfl (cL) _ Tryd.underlying31 rfl gw ?_) | ((with_reducible refine iO _ (.load 44 _) ?_); first | (refine step_loadR 44 _ _ _ rfl _ (S.old_range hy) _ Tryd.underlying44 rfl 3 kR lN _ rfl gw ?_) | (refine step_loadP S 44 _ _ _ rfl _ _ _ pk 3 _ pT lN _ Tryd.underlying44 rfl kR gw ?_)) | ((with_reducible refine iD 32 (.alloc 44) ?_); refine step_alloc (dst := some 32) S 44 (.agg ((mintL mintZ).toArray)) ((mintL mintZ).toArray) kR rfl gw ?_; clear S; intro g32 w S) | ((with_reducible refine iO none (.store 44 (.tmp 32) (.tmp 200)) ?_); refine step_store S 44 (.tmp 32) (.tmp 200) _ _ rfl rfl _ _ pk 3 kR lN lN on1 gw ?_; clear S; intro w S) | ((with_reducible refine iO _ (.load 25 _) ?_); refine step_load1 25 _ _ _ rfl (cL) _ Tryd.underlying25 rfl gw ?_) | ((with_reducible refine iD 33 (.alloc 34) ?_); refine step_alloc (dst := some 33) S 34 (.agg ((tokL tokZ).toArray)) ((tokL tokZ).toArray) kR rfl gw ?_; clear S; intro g33 w S) | ((with_reducible refine iO none (.store 34 (.tmp 33) (.tmp 212)) ?_); refine step_store S 34 (.tmp 33) (.tmp 212) _ _ rfl rfl _ _ pk 36 kR lN lN on1 gw ?_; clear S; intro w S) | ((with_reducible refine iO _ (.load 34 _) ?_); first | (refine step_load S 34 _ _ rfl _ _ _ pk _ Tryd.underlying34 rfl 36 kR lN gw ?_) | (refine step_loadO 34 _ _ rfl _ _ _ (S.old_heap (Hid.out (by assumption))) _ Tryd.underlying34 rfl 36 kR lN gw ?_) | (refine step_loadR 34 _ _ _ rfl _ (S.old_range hy) _ Tryd.underlying34 rfl 36 kR lN _ rfl gw ?_)) | ((with_reducible refine iO _ (.load 4 _) ?_); refine step_load1 4 _ _ _ rfl (cL) _ Tryd.underlying4 rfl gw ?_) | ((with_reducible refine iD 89 (.slice 23 (.tmp 87) _ _ _) ?_); refine step_cutH 23 5 1 (.tmp 87) _ a14 T.length c14 .i64 _ n rfl rfl rfl (by omega) Tryd.underlying23 kR gw ?_) | fail)
      refine wp_relyT S [⟨[], [], [], fun _ v => ∃ y, v = y, fun _ v => [row8 v []]⟩, ⟨[], [], [], fun _ v => v = (v92), fun _ v => []⟩, ⟨[0, 1], [0], [], fun _ v => ∃ y, v = y, fun _ v => [row8 v X1.2]⟩, ⟨[], [], [], fun _ v => v = (.slice a14 T.length c14), fun _ v => []⟩, ⟨[], [], [], fun _ v => v = (.int .i64 (n : Int)), fun _ v => []⟩, ⟨[3, 4], [], [], fun _ v => v = .slice (cutA a14 c14 n 1) (T.length - n) (c14 - n), fun _ v => []⟩, ⟨[0, 1, 2, 3, 4, 5], [2], [], fun _ v => ∃ y, v = y, fun _ v => [row8 v (X1.2 ++ T.drop n)]⟩] ?A1 ?hA1 kR kR kR [1, 3, 4, 5, 6] kR ?hok1 ?fin1
      case hA1 => intro u; simp only [putAll, List.length_cons, List.length_nil, Nat.zero_add, Nat.reduceAdd, dstAt, List.getElem?_toArray, List.getElem?_cons_zero, List.getElem?_cons_succ, Option.bind_some, Act.put, List.setIfInBounds_toArray, List.set_cons_zero, List.set_cons_succ]; rfl
      case hok1 =>
        intro i hi
        obtain rfl | rfl | rfl | rfl | rfl | rfl | rfl : i = 0 ∨ i = 1 ∨ i = 2 ∨ i = 3 ∨ i = 4 ∨ i = 5 ∨ i = 6 := by simp only [List.length_cons, List.length_nil, Nat.zero_add, Nat.reduceAdd] at hi; omega
        · clear hi
          refine step_of rfl rfl rfl ?_
          intro u G w hf S
          simp only [resOf, spec, RSpec.resAt, z0, z1, z2, z3, z4, z5, z6, z7, ptrBlk] at S ⊢
          refine does_build0 S 23 5 Tryd.underlying23 1 kR ?_; intro y w1 S; exact ⟨⟨y, rfl⟩, S⟩
        · clear hi
          refine step_of rfl rfl rfl ?_
          intro u G w hf S
          simp only [resOf, spec, RSpec.resAt, z0, z1, z2, z3, z4, z5, z6, z7, ptrBlk] at S ⊢
          simp only [does]
          go_simp
          try first | exact S | exact ⟨vv, S⟩ | exact vv
        · clear hi
          refine step_of rfl rfl rfl ?_
          intro u G w hf S
          have f0 : ∃ y, u 0 = y := hf 0 (by simp)
          obtain ⟨y95, f0⟩ := f0
          have f1 : u 1 = (v92) := hf 1 (by simp)
          simp only [resOf, spec, RSpec.resAt, z0, z1, z2, z3, z4, z5, z6, z7, ptrBlk] at S ⊢
          simp only [f0, f1] at S ⊢
          try simp only [ptrBlk] at S
          refine does_append8 (.tmp 95) (.tmp 96) y95 [] rfl S v92 X1.2 rfl (S.bs (v := v92) pk) L1.out ?_; intro y w1 S; exact ⟨⟨y, rfl⟩, S⟩
        · clear hi
          refine step_of rfl rfl rfl ?_
          intro u G w hf S
          simp only [resOf, spec, RSpec.resAt, z0, z1, z2, z3, z4, z5, z6, z7, ptrBlk] at S ⊢
          simp only [does]
          go_simp
          try first | exact S | exact ⟨vv, S⟩ | exact vv
        · clear hi
          refine step_of rfl rfl rfl ?_
          intro u G w hf S
          simp only [resOf, spec, RSpec.resAt, z0, z1, z2, z3, z4, z5, z6, z7, ptrBlk] at S ⊢
          simp only [does]
          go_simp
          try first | exact S | exact ⟨vv, S⟩ | exact vv
        · clear hi
          refine step_of rfl rfl rfl ?_
          intro u G w hf S
          have f3 : u 3 = (.slice a14 T.length c14) := hf 3 (by simp)
          have f4 : u 4 = (.int .i64 (n : Int)) := hf 4 (by simp)
          simp only [resOf, spec, RSpec.resAt, z0, z1, z2, z3, z4, z5, z6, z7, ptrBlk] at S ⊢
          simp only [f3, f4]
          refine does_cutL 23 5 1 (.tmp 98) (.tmp 99) a14 T.length c14 .i64 _ n rfl rfl rfl hnl Tryd.underlying23 kR ?_; exact ⟨rfl, S⟩
        · clear hi
          refine step_of rfl rfl rfl ?_
          intro u G w hf S
          have f0 : ∃ y, u 0 = y := hf 0 (by simp)
          obtain ⟨y95, f0⟩ := f0
          have f2 : ∃ y, u 2 = y := hf 2 (by simp)
          obtain ⟨y97, f2⟩ := f2
          have f5 : u 5 = .slice (cutA a14 c14 n 1) (T.length - n) (c14 - n) := hf 5 (by simp)
          simp only [resOf, spec, RSpec.resAt, z0, z1, z2, z3, z4, z5, z6, z7, ptrBlk] at S ⊢
          simp only [f0, f2, f5] at S ⊢
          try simp only [ptrBlk] at S
          refine does_append8 (.tmp 97) (.tmp 100) y97 X1.2 rfl S _ (T.drop n) rfl ((S.bs (v := .slice a14 T.length c14) (xs := T) pk).cutL n hnl rfl) L2.out ?_; intro y w1 S; exact ⟨⟨y, rfl⟩, S⟩
      case fin1 =>
        intro u w hf S
        have f0 : ∃ y, u 0 = y := hf 0 (by simp)
        obtain ⟨y95, f0⟩ := f0
        have f1 : u 1 = (v92) := hf 1 (by simp)
        have f2 : ∃ y, u 2 = y := hf 2 (by simp)
        obtain ⟨y97, f2⟩ := f2
        have f3 : u 3 = (.slice a14 T.length c14) := hf 3 (by simp)
        have f4 : u 4 = (.int .i64 (n : Int)) := hf 4 (by simp)
        have f5 : u 5 = .slice (cutA a14 c14 n 1) (T.length - n) (c14 - n) := hf 5 (by simp)
        have f6 : ∃ y, u 6 = y := hf 6 (by simp)
        obtain ⟨y101, f6⟩ := f6
        simp only [resOf, spec, RSpec.resAt, z0, z1, z2, z3, z4, z5, z6, z7, ptrBlk] at S
        clear hf
        simp only [List.length_cons, List.length_nil, Nat.zero_add, Nat.reduceAdd, List.drop_succ_cons, List.drop_zero, f0, f1, f2, f3, f4, f5, f6]
        try simp only [f0, f1, f2, f3, f4, f5, f6, ptrBlk] at S
        show wpAnyH _ _ _ _ _ 8 #[true, true, true, true, true, true, true, false, false, false, false, false, false, false, false] _ _
        clear f0 f1 f2 f3 f4 f5 f6
        refine wpAnyH_ready (rs := [7]) kR (by simp) ?_
        refine AllReadyH.cons rfl (fun K hK => ?_) AllReadyH.nil
        go_simp
        go_at_call 6
        (with_reducible refine (P3.out _ _ (S.bs (v := y101) pk)).mono ?_)
        rintro e w1 ⟨v111, v112, ps2, rfl, hp2, T⟩
        have HP2 := Lib.hid hp2; clear hp2
        replace S := S.call T; clear T; simp only [List.nil_append, List.cons_append] at S
        refine hK.out _ _ (trivial) (fun hHeld => ?_)
        clear hK K
        try simp only [Act.put, List.setIfInBounds_toArray, List.set_cons_zero, List.set_cons_succ]
        refine wpAnyH_take (i := 8) (oi := ⟨some 94, _, _, _, _, _⟩) (v := ?v2) rfl kR kR kR (fun _ _ _ h => h) (Or.inl ⟨by rfl, ?y2⟩) (by assumption) ?_
        case y2 => (intro w hSw; (try dsimp only at hSw); go_simp; try (with_reducible rfl))
        try simp only [Act.put, List.setIfInBounds_toArray, List.set_cons_zero, List.set_cons_succ]
        refine wpAnyH_take (i := 9) (oi := ⟨some 103, _, _, _, _, _⟩) (v := ?v3) rfl kR kR kR (fun _ _ _ h => h) (Or.inl ⟨by rfl, ?y3⟩) (by assumption) ?_
        case y3 => (intro w hSw; (try dsimp only at hSw); go_simp; try (with_reducible rfl))
        try simp only [Act.put, List.setIfInBounds_toArray, List.set_cons_zero, List.set_cons_succ]
        refine wpAnyH_take (i := 10) (oi := ⟨some 104, _, _, _, _, _⟩) (v := ?v4) rfl kR kR kR (fun _ _ _ h => h) (Or.inl ⟨by rfl, ?y4⟩) (by assumption) ?_
        case y4 => (intro w hSw; (try dsimp only at hSw); go_simp; try (with_reducible rfl))
        try simp only [Act.put, List.setIfInBounds_toArray, List.set_cons_zero, List.set_cons_succ]
        refine wpAnyH_take (i := 11) (oi := ⟨some 105, _, _, _, _, _⟩) (v := ?v5) rfl kR kR kR (fun _ _ _ h => h) (Or.inl ⟨by rfl, ?y5⟩) (by assumption) ?_
        case y5 => (intro w hSw; (try dsimp only at hSw); go_simp; try (with_reducible rfl))
        try simp only [Act.put, List.setIfInBounds_toArray, List.set_cons_zero, List.set_cons_succ]
        refine wpAnyH_take (i := 12) (oi := ⟨some 23, _, _, _, _, _⟩) (v := ?v6) rfl kR kR kR (fun _ _ _ h => h) (Or.inl ⟨by rfl, ?y6⟩) (by assumption) ?_
        case y6 => (intro w hSw; (try dsimp only at hSw); go_simp; try (with_reducible rfl))
        try simp only [Act.put, List.setIfInBounds_toArray, List.set_cons_zero, List.set_cons_succ]
        refine wpAnyH_take (i := 13) (oi := ⟨some 24, _, _, _, _, _⟩) (v := ?v7) rfl kR kR kR (fun _ _ _ h => h) (Or.inl ⟨by rfl, ?y7⟩) (by assumption) ?_
        case y7 => (intro w hSw; (try dsimp only at hSw); go_simp; try (with_reducible rfl))
        try simp only [Act.put, List.setIfInBounds_toArray, List.set_cons_zero, List.set_cons_succ]
        refine wpAnyH_take (i := 14) (oi := ⟨some 25, _, _, _, _, _⟩) (v := ?v8) rfl kR kR kR (fun _ _ _ h => h) (Or.inl ⟨by rfl, ?y8⟩) (by assumption) ?_
        case y8 => (intro w hSw; (try dsimp only at hSw); go_simp; try (with_reducible rfl))
        try simp only [Act.put, List.setIfInBounds_toArray, List.set_cons_zero, List.set_cons_succ]
        refine wpAnyH_done kR ?_ _
        have hmap : (ps1 ++ ps2).map (·.2) = s.map encR := by rw [List.map_append, HP1.out, HP2.out]; exact HALL.out
        have hlen : (ps1 ++ ps2).length = s.length := by have := congrArg List.length hmap; simpa using this
        have S := (S.sub (k := [rowF v91 ps1, rowF v111 ps2, allF ps1, allF ps2, row8 v112 [], rowRq u15 s]) (by repeat (first | exact Sub.nil _ | refine Sub.cons pk ?_))).toH
        have S := (S.pick (r := rowF v111 ps2) pk).toH
        have ho1 := one_heads (S.piece (ps := ps1) pk)
        have ho2 := one_heads (S.piece (ps := ps2) pk)
        have S := ((S.pick (r := allF ps2) pk).pick (r := allF ps1) pk).allApp
        have hq12 : ps1.map (·.1) ++ ps2.map (·.1) = (ps1 ++ ps2).map (·.1) := by simp
        have hsum : ((ps1.map (·.1)).length : Int) + ((ps2.map (·.1)).length : Int) = (s.length : Int) := by rw [← hlen]; simp
        obtain ⟨Q1, hQ1⟩ : ∃ Q, Q = ps1.map (·.1) := ⟨_, rfl⟩
        obtain ⟨Q2, hQ2⟩ : ∃ Q, Q = ps2.map (·.1) := ⟨_, rfl⟩
        obtain ⟨PS, hPS⟩ : ∃ Q, Q = ps1 ++ ps2 := ⟨_, rfl⟩
        rw [← hQ1, ← hQ2] at S hsum hq12
        rw [← hQ1] at ho1
        rw [← hQ2] at ho2
        rw [← hPS] at S hq12 hmap hlen
        obtain ⟨N, hN⟩ : ∃ N, N = s.length := ⟨_, rfl⟩
        have hN40 := HS40.out
        rw [← hN] at hsum hlen hN40
        have e5 : N ≤ 9223372036854775807 := by omega
        have l3 : (([] : List Value).length + Q1.length) * 24 ≤ 140737488355328 := by simp; omega
        have l4 : (Q1.length + Q2.length) * 24 ≤ 140737488355328 := by omega
        obtain ⟨a91, c91, rfl, _, _⟩ := Sl.shape (S.sl (v := v91) pk)
        obtain ⟨a111, c111, rfl, _, _⟩ := Sl.shape (S.sl (v := v111) pk)
        obtain ⟨a112, c112, rfl, _, _⟩ := Sl.shape (S.bs (v := v112) pk)
        obtain ⟨a15, c15, rfl, _, _⟩ := Sl.shape (S.sl (v := u15) pk)
        rw [show rowRq (.slice a15 s.length c15) s = row (.slice a15 s.length c15) 36 40 s.length (s.flatMap rqL) from rfl] at S
        rw [← hN] at S ⊢
        have hq12l : (Q1 ++ Q2).length = N := by rw [hq12, List.length_map]; exact hlen
        obtain ⟨QQ, hQQ⟩ : ∃ QQ, QQ = Q1 ++ Q2 := ⟨_, rfl⟩
        rw [← hQQ] at hq12 hq12l
        have HMAP := Lib.hid hmap; have HLEN := Lib.hid hlen; have HO1 := Lib.hid ho1; have HO2 := Lib.hid ho2; have HQ12 := Lib.hid hq12; have HN := Lib.hid hN; have HN40 := Lib.hid hN40; have L3 := Lib.hid l3; have L4 := Lib.hid l4; have HQ12L := Lib.hid hq12l; have HQQ := Lib.hid hQQ; clear hmap hlen ho1 ho2 hq12 hN hN40 l3 l4 hq12l hQQ
        clear hQ1 hQ2 hPS
        go_wp2_with (first | ((with_reducible refine iD 127 (.buildSlice 37 0 _) ?_); refine step_build0 S 37 23 Tryd.underlying37 1 kR gw ?_; clear S; intro v127 w S; replace S : Has w0 w (rowH v127 [] :: _) := S) | (at_builtin; refine step_appendH S (.tmp 127) (.tmp 128) v127 [] rfl pk _ Q1 rfl (S.sl (v := .slice a91 Q1.length c91) pk) HO1.out L3.out gw ?_; clear S; intro v129 w S; rw [List.nil_append] at S) | (at_builtin; refine step_appendH S (.tmp 129) (.tmp 130) v129 Q1 rfl pk _ Q2 rfl (S.sl (v := .slice a111 Q2.length c111) pk) HO2.out L4.out gw ?_; clear S; intro v131 w S; rw [← HQQ.out] at S; obtain ⟨a131, c131, rfl, _, _⟩ := Sl.shape (S.sl (v := v131) pk); replace S : Has w0 w (row (.slice a131 QQ.length c131) 23 1 QQ.length QQ :: _) := S; rw [HQ12L.out] at S ⊢) | ((with_reducible refine iO _ (.load 36 _) ?_); first | (refine step_loadR 36 _ _ _ rfl _ (S.old_range hy) _ Tryd.underlying36 rfl 40 kR lN _ rfl gw ?_) | (refine step_loadP S 36 _ _ _ rfl _ _ _ pk 40 _ pT lN _ Tryd.underlying36 rfl kR gw ?_)) | (at_builtin; refine step_append8 S (.tmp 69) (.tmp 70) _ _ rfl pk _ _ rfl bS lE gw ?_; clear S; intro v71 w S; (try simp only [z4] at S)) | (at_builtin; refine step_appendRq S (.tmp 72) (.tmp 77) _ _ rfl pk _ _ rfl sL lE gw ?_; clear S; intro v78 w S; (try simp only [z4] at S)) | ((with_reducible refine iO _ (.slice 23 _ _ _ _) ?_); refine step_cutH 23 5 1 _ _ _ _ _ _ _ _ rfl rfl (by first | rfl | omega) (by first | (first | omega | assumption | (exact Hid.out (by assumption)) | (simp only [List.length_append, List.length_cons, List.length_nil]; omega)) | decide) Tryd.underlying23 kR gw ?_) | ((with_reducible refine iD 95 (.buildSlice 23 0 _) ?_); refine step_build8 S 0 _ [] (by first | rfl | kernel_rfl) rfl (by decide) gw ?_; clear S; intro v95 w S) | (at_builtin; refine step_append8 S (.tmp 95) (.tmp 96) _ _ rfl pk _ _ rfl bS lE gw ?_; clear S; intro v97 w S; (try simp only [z4] at S)) | ((with_reducible refine iO _ (.slice 23 _ _ _ _) ?_); refine step_cutL 23 5 1 _ _ _ _ _ _ _ _ rfl rfl (by first | rfl | omega) (by first | (first | omega | assumption | (exact Hid.out (by assumption)) | (simp only [List.length_append, List.length_cons, List.length_nil]; omega)) | decide) Tryd.underlying23 kR gw ?_) | (at_builtin; refine step_append8 S (.tmp 97) (.tmp 100) _ _ rfl pk _ _ rfl bS lE gw ?_; clear S; intro v101 w S; (try simp only [z4] at S)) | ((with_reducible refine iO _ (.load 23 _) ?_); refine step_load1 23 _ _ _ rfl (cL) _ Tryd.underlying23 rfl gw ?_) | ((with_reducible refine iD 28 (.alloc 36) ?_); refine step_alloc (dst := some 28) S 36 (.agg ((rqL rqZ).toArray)) ((rqL rqZ).toArray) kR rfl gw ?_; clear S; intro g28 w S) | ((with_reducible refine iO none (.store 36 (.tmp 28) (.tmp 143)) ?_); refine step_store S 36 (.tmp 28) (.tmp 143) _ _ rfl rfl _ _ pk 40 kR lN lN on1 gw ?_; clear S; intro w S) | ((with_reducible refine iO _ (.load 36 _) ?_); first | (refine step_load S 36 _ _ rfl _ _ _ pk _ Tryd.underlying36 rfl 40 kR lN gw ?_) | (refine step_loadO 36 _ _ rfl _ _ _ (S.old_heap (Hid.out (by assumption))) _ Tryd.underlying36 rfl 40 kR lN gw ?_) | (refine step_loadR 36 _ _ _ rfl _ (S.old_range hy) _ Tryd.underlying36 rfl 40 kR lN _ rfl gw ?_)) | ((with_reducible refine iO _ (.load 34 _) ?_); first | (refine step_loadR 34 _ _ _ rfl _ (S.old_range hy) _ Tryd.underlying34 rfl 36 kR lN _ rfl gw ?_) | (refine step_loadP S 34 _ _ _ rfl _ _ _ pk 36 _ pT lN _ Tryd.underlying34 rfl kR gw ?_)) | ((with_reducible refine iO _ (.load 5 _) ?_); refine step_load1 5 _ _ _ rfl (cL) _ Tryd.underlying5 rfl gw ?_) | ((with_reducible refine iO _ (.load 31 _) ?_); refine step_load1 31 _ _ _ rfl (cL) _ Tryd.underlying31 rfl gw ?_) | ((with_reducible refine iO _ (.load 44 _) ?_); first | (refine step_loadR 44 _ _ _ rfl _ (S.old_range hy) _ Tryd.underlying44 rfl 3 kR lN _ rfl gw ?_) | (refine step_loadP S 44 _ _ _ rfl _ _ _ pk 3 _ pT lN _ Tryd.underlying44 rfl kR gw ?_)) | ((with_reducible refine iD 32 (.alloc 44) ?_); refine step_alloc (dst := some 32) S 44 (.agg ((mintL mintZ).toArray)) ((mintL mintZ).toArray) kR rfl gw ?_; clear S; intro g32 w S) | ((with_reducible refine iO none (.store 44 (.tmp 32) (.tmp 200)) ?_); refine step_store S 44 (.tmp 32) (.tmp 200) _ _ rfl rfl _ _ pk 3 kR lN lN on1 gw ?_; clear S; intro w S) | ((with_reducible refine iO _ (.load 25 _) ?_); refine step_load1 25 _ _ _ rfl (cL) _ Tryd.underlying25 rfl gw ?_) | ((with_reducible refine iD 33 (.alloc 34) ?_); refine step_alloc (dst := some 33) S 34 (.agg ((tokL tokZ).toArray)) ((tokL tokZ).toArray) kR rfl gw ?_; clear S; intro g33 w S) | ((with_reducible refine iO none (.store 34 (.tmp 33) (.tmp 212)) ?_); refine step_store S 34 (.tmp 33) (.tmp 212) _ _ rfl rfl _ _ pk 36 kR lN lN on1 gw ?_; clear S; intro w S) | ((with_reducible refine iO _ (.load 34 _) ?_); first | (refine step_load S 34 _ _ rfl _ _ _ pk _ Tryd.underlying34 rfl 36 kR lN gw ?_) | (refine step_loadO 34 _ _ rfl _ _ _ (S.old_heap (Hid.out (by assumption))) _ Tryd.underlying34 rfl 36 kR lN gw ?_) | (refine step_loadR 34 _ _ _ rfl _ (S.old_range hy) _ Tryd.underlying34 rfl 36 kR lN _ rfl gw ?_)) | ((with_reducible refine iO _ (.load 4 _) ?_); refine step_load1 4 _ _ _ rfl (cL) _ Tryd.underlying4 rfl gw ?_) | fail)
        go_loopw [134] (fun u wr => ∃ (k : Nat), k ≤ N ∧ u = .int .i64 (k : Int) ∧ Has w0 wr [row (.slice a131 N c131) 23 1 N QQ, allF PS, row (.slice a15 N c15) 36 40 N (s.flatMap rqL)]) (fun u _ => N - (intOf u).toNat)
        case atStart => exact ⟨0, Nat.zero_le _, rfl, S.sub (by repeat (first | exact Sub.nil _ | refine Sub.cons pk ?_))⟩
        case round =>
          clear S
          obtain ⟨k, hk, rfl, S⟩ := hrel
          by_cases hlt : k < N
          · have hls : k < s.length := by rw [← HN.out]; exact hlt
            have hlp : k < PS.length := by rw [HLEN.out]; exact hlt
            have hr : s[k]? = some s[k] := List.getElem?_eq_getElem hls
            have hpp : PS[k]? = some PS[k] := List.getElem?_eq_getElem hlp
            have hm : PS[k] ∈ PS := List.getElem_mem hlp
            have hq : QQ[k]? = some (PS[k]).1 := by rw [HQ12.out, List.getElem?_map, hpp]; rfl
            have h2 : (PS[k]).2 = encR s[k] := by
              have := congrArg (fun l => l[k]?) HMAP.out
              simp only [List.getElem?_map, hpp, hr, Option.map_some, Option.some.injEq] at this
              exact this
            have hv := HVAL.out _ (List.getElem_mem hls)
            obtain ⟨p, hpe⟩ : ∃ p, p = PS[k] := ⟨_, rfl⟩
            obtain ⟨r, hre⟩ : ∃ r, r = s[k] := ⟨_, rfl⟩
            rw [← hpe] at hm hq h2
            rw [← hre] at h2 hr hv
            obtain ⟨pv, pb⟩ := p
            dsimp only at hq h2
            subst h2
            have pd := fun v w h => decodeRequest_s v (encR r) w h (by have := (encR_fr r).2.1; omega)
            rw [dcR_encR r hv, dcE_encR r hv] at pd
            obtain ⟨E, hE⟩ : ∃ E, E = encR r := ⟨_, rfl⟩
            rw [← hE] at hm pd
            obtain ⟨gx, cx, hax, _⟩ := S.row_at (v := .slice a131 N c131) pk (by omega)
            simp only [Value.slice.injEq, true_and] at hax
            obtain ⟨rfl, rfl⟩ := hax
            obtain ⟨gy, cy, hay, _⟩ := S.row_at (v := .slice a15 N c15) pk (by omega)
            simp only [Value.slice.injEq, true_and] at hay
            obtain ⟨rfl, rfl⟩ := hay
            have hki : (k : Int) < (N : Int) := by omega
            have hki2 : (k : Int) < 9223372036854775807 := by omega
            have pa := fun w h1 h2 h3 h4 => authz_s (.slice a0 l.length c0) (.slice a1 key.length c1) l key tenant r.tok r.kind.toNat now w h1 h2 h3 h4 HT.out r.kind.toNat_lt HN0.out
            have hz := auz_zero l key tenant r.tok r.kind.toNat now
            obtain ⟨E0, hE0⟩ : ∃ E0, E0 = auzE l key tenant r.tok r.kind.toNat now := ⟨_, rfl⟩
            rw [← hE0] at pa hz
            have hne := fun w => neqRq r r w
            simp only [decide_true, Bool.not_true] at hne
            have eg := eqGuardRq
            have hrange : ∀ w, Has w0 w [row (.slice (some ⟨gy, 0, none⟩) N c15) 36 40 N (s.flatMap rqL)] → w.rangeAt gy (k * 40) (rqL r) := fun w S => S.row_range (f := rqL) (n := N) pk rqL_length (by decide) k r hr
            clear hpp hr hpe hre hE hE0 hv
            have HM := Lib.hid hm; have HQ := Lib.hid hq; have PD := Lib.hid pd; have PA := Lib.hid pa; have HZ := Lib.hid hz; have HRANGE := Lib.hid hrange; clear hm hq pd pa hz hrange
            clear hls hlp
            go_upto_region 24 with (first | ((with_reducible refine iO _ (.load 36 _) ?_); first | (refine step_loadR 36 _ _ _ rfl _ (S.old_range hy) _ Tryd.underlying36 rfl 40 kR lN _ rfl gw ?_) | (refine step_loadP S 36 _ _ _ rfl _ _ _ pk 40 _ pT lN _ Tryd.underlying36 rfl kR gw ?_)) | (at_builtin; refine step_append8 S (.tmp 69) (.tmp 70) _ _ rfl pk _ _ rfl bS lE gw ?_; clear S; intro v71 w S; (try simp only [z4] at S)) | (at_builtin; refine step_appendRq S (.tmp 72) (.tmp 77) _ _ rfl pk _ _ rfl sL lE gw ?_; clear S; intro v78 w S; (try simp only [z4] at S)) | ((with_reducible refine iO _ (.slice 23 _ _ _ _) ?_); refine step_cutH 23 5 1 _ _ _ _ _ _ _ _ rfl rfl (by first | rfl | omega) (by first | (first | omega | assumption | (exact Hid.out (by assumption)) | (simp only [List.length_append, List.length_cons, List.length_nil]; omega)) | decide) Tryd.underlying23 kR gw ?_) | ((with_reducible refine iD 95 (.buildSlice 23 0 _) ?_); refine step_build8 S 0 _ [] (by first | rfl | kernel_rfl) rfl (by decide) gw ?_; clear S; intro v95 w S) | (at_builtin; refine step_append8 S (.tmp 95) (.tmp 96) _ _ rfl pk _ _ rfl bS lE gw ?_; clear S; intro v97 w S; (try simp only [z4] at S)) | ((with_reducible refine iO _ (.slice 23 _ _ _ _) ?_); refine step_cutL 23 5 1 _ _ _ _ _ _ _ _ rfl rfl (by first | rfl | omega) (by first | (first | omega | assumption | (exact Hid.out (by assumption)) | (simp only [List.length_append, List.length_cons, List.length_nil]; omega)) | decide) Tryd.underlying23 kR gw ?_) | (at_builtin; refine step_append8 S (.tmp 97) (.tmp 100) _ _ rfl pk _ _ rfl bS lE gw ?_; clear S; intro v101 w S; (try simp only [z4] at S)) | ((with_reducible refine iD 127 (.buildSlice 37 0 _) ?_); refine step_build0 S 37 23 Tryd.underlying37 1 kR gw ?_; clear S; intro v127 w S) | ((with_reducible refine iO _ (.load 23 _) ?_); refine step_load1 23 _ _ _ rfl (cL) _ Tryd.underlying23 rfl gw ?_) | (go_at_call 7; (with_reducible refine (PD.out _ _ (S.piece pk _ HM.out)).mono ?_); rintro e w1 ⟨rfl, T⟩; replace S := S.call T; clear T; (try simp only [z4, z5] at S)) | ((with_reducible refine iD 28 (.alloc 36) ?_); refine step_alloc (dst := some 28) S 36 (.agg ((rqL rqZ).toArray)) ((rqL rqZ).toArray) kR rfl gw ?_; clear S; intro g28 w S) | ((with_reducible refine iO none (.store 36 (.tmp 28) (.tmp 143)) ?_); refine step_store S 36 (.tmp 28) (.tmp 143) _ _ rfl rfl _ _ pk 40 kR lN lN on1 gw ?_; clear S; intro w S) | ((with_reducible refine iO _ (.load 36 _) ?_); first | (refine step_load S 36 _ _ rfl _ _ _ pk _ Tryd.underlying36 rfl 40 kR lN gw ?_) | (refine step_loadO 36 _ _ rfl _ _ _ (S.old_heap (Hid.out (by assumption))) _ Tryd.underlying36 rfl 40 kR lN gw ?_) | (refine step_loadR 36 _ _ _ rfl _ (S.old_range hy) _ Tryd.underlying36 rfl 40 kR lN _ rfl gw ?_)) | ((with_reducible refine iO _ (.load 34 _) ?_); first | (refine step_loadR 34 _ _ _ rfl _ (S.old_range hy) _ Tryd.underlying34 rfl 36 kR lN _ rfl gw ?_) | (refine step_loadP S 34 _ _ _ rfl _ _ _ pk 36 _ pT lN _ Tryd.underlying34 rfl kR gw ?_)) | ((with_reducible refine iO _ (.load 5 _) ?_); refine step_load1 5 _ _ _ rfl (cL) _ Tryd.underlying5 rfl gw ?_) | ((with_reducible refine iO _ (.load 31 _) ?_); refine step_load1 31 _ _ _ rfl (cL) _ Tryd.underlying31 rfl gw ?_) | ((with_reducible refine iO _ (.load 44 _) ?_); first | (refine step_loadR 44 _ _ _ rfl _ (S.old_range hy) _ Tryd.underlying44 rfl 3 kR lN _ rfl gw ?_) | (refine step_loadP S 44 _ _ _ rfl _ _ _ pk 3 _ pT lN _ Tryd.underlying44 rfl kR gw ?_)) | ((with_reducible refine iD 32 (.alloc 44) ?_); refine step_alloc (dst := some 32) S 44 (.agg ((mintL mintZ).toArray)) ((mintL mintZ).toArray) kR rfl gw ?_; clear S; intro g32 w S) | ((with_reducible refine iO none (.store 44 (.tmp 32) (.tmp 200)) ?_); refine step_store S 44 (.tmp 32) (.tmp 200) _ _ rfl rfl _ _ pk 3 kR lN lN on1 gw ?_; clear S; intro w S) | ((with_reducible refine iO _ (.load 25 _) ?_); refine step_load1 25 _ _ _ rfl (cL) _ Tryd.underlying25 rfl gw ?_) | ((with_reducible refine iD 33 (.alloc 34) ?_); refine step_alloc (dst := some 33) S 34 (.agg ((tokL tokZ).toArray)) ((tokL tokZ).toArray) kR rfl gw ?_; clear S; intro g33 w S) | ((with_reducible refine iO none (.store 34 (.tmp 33) (.tmp 212)) ?_); refine step_store S 34 (.tmp 33) (.tmp 212) _ _ rfl rfl _ _ pk 36 kR lN lN on1 gw ?_; clear S; intro w S) | ((with_reducible refine iO _ (.load 34 _) ?_); first | (refine step_load S 34 _ _ rfl _ _ _ pk _ Tryd.underlying34 rfl 36 kR lN gw ?_) | (refine step_loadO 34 _ _ rfl _ _ _ (S.old_heap (Hid.out (by assumption))) _ Tryd.underlying34 rfl 36 kR lN gw ?_) | (refine step_loadR 34 _ _ _ rfl _ (S.old_range hy) _ Tryd.underlying34 rfl 36 kR lN _ rfl gw ?_)) | ((with_reducible refine iO _ (.load 4 _) ?_); refine step_load1 4 _ _ _ rfl (cL) _ Tryd.underlying4 rfl gw ?_) | fail)
            refine wp_rely S [⟨[], [], [], fun _ v => v = (.int .i64 0), fun _ v => []⟩, ⟨[0], [], [], fun _ v => v = .bool false, fun _ v => []⟩, ⟨[0, 1], [], [], fun _ v => v = (.bool false), fun _ v => []⟩, ⟨[0, 1, 2], [], [], fun _ v => v = .agg (rqL r).toArray, fun _ v => []⟩, ⟨[0, 1, 2], [], [], fun _ v => v = (.slice (some ⟨gy, 0, none⟩) N c15), fun _ v => []⟩, ⟨[0, 1, 2], [], [], fun _ v => v = (.int .i64 (k : Int)), fun _ v => []⟩, ⟨[0, 1, 2, 4, 5], [], [], fun _ v => v = .pointer (some ⟨gy, k * 40, none⟩), fun _ v => []⟩, ⟨[0, 1, 2, 4, 5, 6], [], [], fun _ v => v = .agg (rqL r).toArray, fun _ v => []⟩, ⟨[0, 1, 2, 3, 4, 5, 6, 7], [], [], fun _ v => v = .bool false, fun _ v => []⟩, ⟨[0, 1, 2, 3, 4, 5, 6, 7, 8], [], [], fun _ v => v = .bool false, fun _ v => []⟩] ?A9 ?hA9 kR kR kR [0, 1, 2, 3, 4, 5, 6, 7, 8, 9] kR ?hok9 ?fin9
            case hA9 => intro u; simp only [putAll, List.length_cons, List.length_nil, Nat.zero_add, Nat.reduceAdd, dstAt, List.getElem?_toArray, List.getElem?_cons_zero, List.getElem?_cons_succ, Option.bind_some, Act.put, List.setIfInBounds_toArray, List.set_cons_zero, List.set_cons_succ]; rfl
            case hok9 =>
              intro i hi
              obtain rfl | rfl | rfl | rfl | rfl | rfl | rfl | rfl | rfl | rfl : i = 0 ∨ i = 1 ∨ i = 2 ∨ i = 3 ∨ i = 4 ∨ i = 5 ∨ i = 6 ∨ i = 7 ∨ i = 8 ∨ i = 9 := by simp only [List.length_cons, List.length_nil, Nat.zero_add, Nat.reduceAdd] at hi; omega
              · clear hi
                refine step_of rfl rfl rfl ?_
                intro u G w hf S
                simp only [resOf, spec, RSpec.resAt, z0, z1, z2, z3, z4, z5, z6, z7, ptrBlk] at S ⊢
                simp only [does]
                go_simp
                try first | exact S | exact ⟨vv, S⟩ | exact vv
              · clear hi
                refine step_of rfl rfl rfl ?_
                intro u G w hf S
                have f0 : u 0 = (.int .i64 0) := hf 0 (by simp)
                simp only [resOf, spec, RSpec.resAt, z0, z1, z2, z3, z4, z5, z6, z7, ptrBlk] at S ⊢
                simp only [f0]
                simp only [does]
                go_simp
                try first | exact S | exact ⟨vv, S⟩ | exact vv
              · clear hi
                refine step_of rfl rfl rfl ?_
                intro u G w hf S
                have f1 : u 1 = .bool false := hf 1 (by simp)
                simp only [resOf, spec, RSpec.resAt, z0, z1, z2, z3, z4, z5, z6, z7, ptrBlk] at S ⊢
                simp only [f1]
                simp only [does]
                go_simp
                try first | exact S | exact ⟨vv, S⟩ | exact vv
              · clear hi
                refine step_of_g rfl rfl ?_
                intro u G w hf S
                have f2 : u 2 = (.bool false) := hf 2 (by simp)
                simp only [resOf, spec, RSpec.resAt, z0, z1, z2, z3, z4, z5, z6, z7, ptrBlk] at S ⊢
                simp only [f2]
                refine ⟨rfl, ?_⟩
                refine does_load 36 (.tmp 28) g28 rfl _ _ _ (S.get (r := blk g28 _) pk) _ Tryd.underlying36 rfl 40 kR lN ?_; exact ⟨rfl, S⟩
              · clear hi
                refine step_of_g rfl rfl ?_
                intro u G w hf S
                have f2 : u 2 = (.bool false) := hf 2 (by simp)
                simp only [resOf, spec, RSpec.resAt, z0, z1, z2, z3, z4, z5, z6, z7, ptrBlk] at S ⊢
                simp only [f2]
                refine ⟨rfl, ?_⟩
                simp only [does]
                go_simp
                try first | exact S | exact ⟨vv, S⟩ | exact vv
              · clear hi
                refine step_of_g rfl rfl ?_
                intro u G w hf S
                have f2 : u 2 = (.bool false) := hf 2 (by simp)
                simp only [resOf, spec, RSpec.resAt, z0, z1, z2, z3, z4, z5, z6, z7, ptrBlk] at S ⊢
                simp only [f2]
                refine ⟨rfl, ?_⟩
                simp only [does]
                go_simp
                try first | exact S | exact ⟨vv, S⟩ | exact vv
              · clear hi
                refine step_of_g rfl rfl ?_
                intro u G w hf S
                have f2 : u 2 = (.bool false) := hf 2 (by simp)
                have f4 : u 4 = (.slice (some ⟨gy, 0, none⟩) N c15) := hf 4 (by simp)
                have f5 : u 5 = (.int .i64 (k : Int)) := hf 5 (by simp)
                simp only [resOf, spec, RSpec.resAt, z0, z1, z2, z3, z4, z5, z6, z7, ptrBlk] at S ⊢
                simp only [f2, f4, f5]
                refine ⟨rfl, ?_⟩
                simp only [does]
                go_simp
                try first | exact S | exact ⟨vv, S⟩ | exact vv
              · clear hi
                refine step_of_g rfl rfl ?_
                intro u G w hf S
                have f2 : u 2 = (.bool false) := hf 2 (by simp)
                have f6 : u 6 = .pointer (some ⟨gy, k * 40, none⟩) := hf 6 (by simp)
                simp only [resOf, spec, RSpec.resAt, z0, z1, z2, z3, z4, z5, z6, z7, ptrBlk] at S ⊢
                simp only [f2, f6]
                refine ⟨rfl, ?_⟩
                refine does_loadR 36 (.tmp 151) _ _ rfl _ (HRANGE.out w (S.sub (by repeat (first | exact Sub.nil _ | refine Sub.cons pk ?_)))) _ Tryd.underlying36 rfl 40 kR (rqL_length _) _ rfl ?_; exact ⟨rfl, S⟩
              · clear hi
                refine step_of_g rfl rfl ?_
                intro u G w hf S
                have f2 : u 2 = (.bool false) := hf 2 (by simp)
                have f3 : u 3 = .agg (rqL r).toArray := hf 3 (by simp)
                have f7 : u 7 = .agg (rqL r).toArray := hf 7 (by simp)
                simp only [resOf, spec, RSpec.resAt, z0, z1, z2, z3, z4, z5, z6, z7, ptrBlk] at S ⊢
                simp only [f2, f3, f7]
                refine ⟨rfl, ?_⟩
                simp only [does]
                go_simp
                try first | exact S | exact ⟨vv, S⟩ | exact vv
              · clear hi
                refine step_of rfl rfl rfl ?_
                intro u G w hf S
                have f2 : u 2 = (.bool false) := hf 2 (by simp)
                have f8 : u 8 = .bool false := hf 8 (by simp)
                simp only [resOf, spec, RSpec.resAt, z0, z1, z2, z3, z4, z5, z6, z7, ptrBlk] at S ⊢
                simp only [f2, f8]
                simp only [does]
                go_simp
                try first | exact S | exact ⟨vv, S⟩ | exact vv
            case fin9 =>
              intro u w hf S
              have f0 : u 0 = (.int .i64 0) := hf 0 (by simp)
              have f1 : u 1 = .bool false := hf 1 (by simp)
              have f2 : u 2 = (.bool false) := hf 2 (by simp)
              have f3 : u 3 = .agg (rqL r).toArray := hf 3 (by simp)
              have f4 : u 4 = (.slice (some ⟨gy, 0, none⟩) N c15) := hf 4 (by simp)
              have f5 : u 5 = (.int .i64 (k : Int)) := hf 5 (by simp)
              have f6 : u 6 = .pointer (some ⟨gy, k * 40, none⟩) := hf 6 (by simp)
              have f7 : u 7 = .agg (rqL r).toArray := hf 7 (by simp)
              have f8 : u 8 = .bool false := hf 8 (by simp)
              have f9 : u 9 = .bool false := hf 9 (by simp)
              simp only [resOf, spec, RSpec.resAt, z0, z1, z2, z3, z4, z5, z6, z7, ptrBlk] at S
              clear hf
              simp only [List.length_cons, List.length_nil, Nat.zero_add, Nat.reduceAdd, List.drop_succ_cons, List.drop_zero, f0, f1, f2, f3, f4, f5, f6, f7, f8, f9]
              clear f0 f1 f2 f3 f4 f5 f6 f7 f8 f9
              go_upto_region 27 with (first | ((with_reducible refine iO _ (.load 36 _) ?_); first | (refine step_loadR 36 _ _ _ rfl _ (S.old_range hy) _ Tryd.underlying36 rfl 40 kR lN _ rfl gw ?_) | (refine step_loadP S 36 _ _ _ rfl _ _ _ pk 40 _ pT lN _ Tryd.underlying36 rfl kR gw ?_)) | (at_builtin; refine step_append8 S (.tmp 69) (.tmp 70) _ _ rfl pk _ _ rfl bS lE gw ?_; clear S; intro v71 w S; (try simp only [z4] at S)) | (at_builtin; refine step_appendRq S (.tmp 72) (.tmp 77) _ _ rfl pk _ _ rfl sL lE gw ?_; clear S; intro v78 w S; (try simp only [z4] at S)) | ((with_reducible refine iO _ (.slice 23 _ _ _ _) ?_); refine step_cutH 23 5 1 _ _ _ _ _ _ _ _ rfl rfl (by first | rfl | omega) (by first | (first | omega | assumption | (exact Hid.out (by assumption)) | (simp only [List.length_append, List.length_cons, List.length_nil]; omega)) | decide) Tryd.underlying23 kR gw ?_) | ((with_reducible refine iD 95 (.buildSlice 23 0 _) ?_); refine step_build8 S 0 _ [] (by first | rfl | kernel_rfl) rfl (by decide) gw ?_; clear S; intro v95 w S) | (at_builtin; refine step_append8 S (.tmp 95) (.tmp 96) _ _ rfl pk _ _ rfl bS lE gw ?_; clear S; intro v97 w S; (try simp only [z4] at S)) | ((with_reducible refine iO _ (.slice 23 _ _ _ _) ?_); refine step_cutL 23 5 1 _ _ _ _ _ _ _ _ rfl rfl (by first | rfl | omega) (by first | (first | omega | assumption | (exact Hid.out (by assumption)) | (simp only [List.length_append, List.length_cons, List.length_nil]; omega)) | decide) Tryd.underlying23 kR gw ?_) | (at_builtin; refine step_append8 S (.tmp 97) (.tmp 100) _ _ rfl pk _ _ rfl bS lE gw ?_; clear S; intro v101 w S; (try simp only [z4] at S)) | ((with_reducible refine iD 127 (.buildSlice 37 0 _) ?_); refine step_build0 S 37 23 Tryd.underlying37 1 kR gw ?_; clear S; intro v127 w S) | ((with_reducible refine iO _ (.load 23 _) ?_); refine step_load1 23 _ _ _ rfl (cL) _ Tryd.underlying23 rfl gw ?_) | ((with_reducible refine iD 28 (.alloc 36) ?_); refine step_alloc (dst := some 28) S 36 (.agg ((rqL rqZ).toArray)) ((rqL rqZ).toArray) kR rfl gw ?_; clear S; intro g28 w S) | ((with_reducible refine iO none (.store 36 (.tmp 28) (.tmp 143)) ?_); refine step_store S 36 (.tmp 28) (.tmp 143) _ _ rfl rfl _ _ pk 40 kR lN lN on1 gw ?_; clear S; intro w S) | ((with_reducible refine iO _ (.load 36 _) ?_); first | (refine step_load S 36 _ _ rfl _ _ _ pk _ Tryd.underlying36 rfl 40 kR lN gw ?_) | (refine step_loadO 36 _ _ rfl _ _ _ (S.old_heap (Hid.out (by assumption))) _ Tryd.underlying36 rfl 40 kR lN gw ?_) | (refine step_loadR 36 _ _ _ rfl _ (S.old_range hy) _ Tryd.underlying36 rfl 40 kR lN _ rfl gw ?_)) | ((with_reducible refine iO _ (.load 34 _) ?_); first | (refine step_loadR 34 _ _ _ rfl _ (S.old_range hy) _ Tryd.underlying34 rfl 36 kR lN _ rfl gw ?_) | (refine step_loadP S 34 _ _ _ rfl _ _ _ pk 36 _ pT lN _ Tryd.underlying34 rfl kR gw ?_)) | ((with_reducible refine iO _ (.load 5 _) ?_); refine step_load1 5 _ _ _ rfl (cL) _ Tryd.underlying5 rfl gw ?_) | (go_at_call 8; (with_reducible refine (PA.out _ (S.old H1.out) (S.oldB H2.out) kT (S.pt HP.out)).mono ?_); rintro e w1 ⟨rfl, T⟩; replace S := S.call T; clear T; (try simp only [z4, z5] at S)) | ((with_reducible refine iO _ (.load 31 _) ?_); refine step_load1 31 _ _ _ rfl (cL) _ Tryd.underlying31 rfl gw ?_) | ((with_reducible refine iO _ (.load 44 _) ?_); first | (refine step_loadR 44 _ _ _ rfl _ (S.old_range hy) _ Tryd.underlying44 rfl 3 kR lN _ rfl gw ?_) | (refine step_loadP S 44 _ _ _ rfl _ _ _ pk 3 _ pT lN _ Tryd.underlying44 rfl kR gw ?_)) | ((with_reducible refine iD 32 (.alloc 44) ?_); refine step_alloc (dst := some 32) S 44 (.agg ((mintL mintZ).toArray)) ((mintL mintZ).toArray) kR rfl gw ?_; clear S; intro g32 w S) | ((with_reducible refine iO none (.store 44 (.tmp 32) (.tmp 200)) ?_); refine step_store S 44 (.tmp 32) (.tmp 200) _ _ rfl rfl _ _ pk 3 kR lN lN on1 gw ?_; clear S; intro w S) | ((with_reducible refine iO _ (.load 25 _) ?_); refine step_load1 25 _ _ _ rfl (cL) _ Tryd.underlying25 rfl gw ?_) | ((with_reducible refine iD 33 (.alloc 34) ?_); refine step_alloc (dst := some 33) S 34 (.agg ((tokL tokZ).toArray)) ((tokL tokZ).toArray) kR rfl gw ?_; clear S; intro g33 w S) | ((with_reducible refine iO none (.store 34 (.tmp 33) (.tmp 212)) ?_); refine step_store S 34 (.tmp 33) (.tmp 212) _ _ rfl rfl _ _ pk 36 kR lN lN on1 gw ?_; clear S; intro w S) | ((with_reducible refine iO _ (.load 34 _) ?_); first | (refine step_load S 34 _ _ rfl _ _ _ pk _ Tryd.underlying34 rfl 36 kR lN gw ?_) | (refine step_loadO 34 _ _ rfl _ _ _ (S.old_heap (Hid.out (by assumption))) _ Tryd.underlying34 rfl 36 kR lN gw ?_) | (refine step_loadR 34 _ _ _ rfl _ (S.old_range hy) _ Tryd.underlying34 rfl 36 kR lN _ rfl gw ?_)) | ((with_reducible refine iO _ (.load 4 _) ?_); refine step_load1 4 _ _ _ rfl (cL) _ Tryd.underlying4 rfl gw ?_) | fail)
              refine wp_rely S [⟨[], [], [], fun _ v => v = (.int .i64 E0), fun _ v => []⟩, ⟨[], [], [], fun _ v => v = (.slice a0 l.length c0), fun _ v => []⟩, ⟨[], [], [], fun _ v => v = (.slice a1 key.length c1), fun _ v => []⟩, ⟨[], [], [], fun _ v => v = (.int .i64 tenant), fun _ v => []⟩, ⟨[], [], [], fun _ v => v = (.slice (some ⟨gy, 0, none⟩) N c15), fun _ v => []⟩, ⟨[], [], [], fun _ v => v = (.int .i64 (k : Int)), fun _ v => []⟩, ⟨[4, 5], [], [], fun _ v => v = .pointer (some ⟨gy, k * 40, none⟩), fun _ v => []⟩, ⟨[4, 5, 6], [], [], fun _ v => v = .pointer (some ⟨gy, k * 40 + 1, none⟩), fun _ v => []⟩, ⟨[4, 5, 6, 7], [], [], fun _ v => v = .agg (tokL r.tok).toArray, fun _ v => []⟩, ⟨[], [], [], fun _ v => v = (.slice (some ⟨gy, 0, none⟩) N c15), fun _ v => []⟩, ⟨[], [], [], fun _ v => v = (.int .i64 (k : Int)), fun _ v => []⟩, ⟨[9, 10], [], [], fun _ v => v = .pointer (some ⟨gy, k * 40, none⟩), fun _ v => []⟩, ⟨[9, 10, 11], [], [], fun _ v => v = .pointer (some ⟨gy, k * 40, none⟩), fun _ v => []⟩, ⟨[9, 10, 11, 12], [], [], fun _ v => v = .int .u8 (r.kind.toNat : Int), fun _ v => []⟩, ⟨[], [], [], fun _ v => v = (.int .u64 (now : Int)), fun _ v => []⟩, ⟨[1, 2, 3, 4, 5, 6, 7, 8, 9, 10, 11, 12, 13, 14], [], [], fun _ v => v = .int .i64 E0, fun _ v => []⟩, ⟨[0, 1, 2, 3, 4, 5, 6, 7, 8, 9, 10, 11, 12, 13, 14, 15], [], [], fun _ v => v = .bool false, fun _ v => []⟩] ?A10 ?hA10 kR kR kR [0, 1, 2, 3, 4, 5, 6, 7, 8, 9, 10, 11, 12, 13, 14, 15, 16] kR ?hok10 ?fin10
              case hA10 => intro u; simp only [putAll, List.length_cons, List.length_nil, Nat.zero_add, Nat.reduceAdd, dstAt, List.getElem?_toArray, List.getElem?_cons_zero, List.getElem?_cons_succ, Option.bind_some, Act.put, List.setIfInBounds_toArray, List.set_cons_zero, List.set_cons_succ]; rfl
              case hok10 =>
                intro i hi
                obtain rfl | rfl | rfl | rfl | rfl | rfl | rfl | rfl | rfl | rfl | rfl | rfl | rfl | rfl | rfl | rfl | rfl : i = 0 ∨ i = 1 ∨ i = 2 ∨ i = 3 ∨ i = 4 ∨ i = 5 ∨ i = 6 ∨ i = 7 ∨ i = 8 ∨ i = 9 ∨ i = 10 ∨ i = 11 ∨ i = 12 ∨ i = 13 ∨ i = 14 ∨ i = 15 ∨ i = 16 := by simp only [List.length_cons, List.length_nil, Nat.zero_add, Nat.reduceAdd] at hi; omega
                · clear hi
                  refine step_of rfl rfl rfl ?_
                  intro u G w hf S
                  simp only [resOf, spec, RSpec.resAt, z0, z1, z2, z3, z4, z5, z6, z7, ptrBlk] at S ⊢
                  simp only [does]
                  go_simp
                  try first | exact S | exact ⟨vv, S⟩ | exact vv
                · clear hi
                  refine step_of rfl rfl rfl ?_
                  intro u G w hf S
                  simp only [resOf, spec, RSpec.resAt, z0, z1, z2, z3, z4, z5, z6, z7, ptrBlk] at S ⊢
                  simp only [does]
                  go_simp
                  try first | exact S | exact ⟨vv, S⟩ | exact vv
                · clear hi
                  refine step_of rfl rfl rfl ?_
                  intro u G w hf S
                  simp only [resOf, spec, RSpec.resAt, z0, z1, z2, z3, z4, z5, z6, z7, ptrBlk] at S ⊢
                  simp only [does]
                  go_simp
                  try first | exact S | exact ⟨vv, S⟩ | exact vv
                · clear hi
                  refine step_of rfl rfl rfl ?_
                  intro u G w hf S
                  simp only [resOf, spec, RSpec.resAt, z0, z1, z2, z3, z4, z5, z6, z7, ptrBlk] at S ⊢
                  simp only [does]
                  go_simp
                  try first | exact S | exact ⟨vv, S⟩ | exact vv
                · clear hi
                  refine step_of rfl rfl rfl ?_
                  intro u G w hf S
                  simp only [resOf, spec, RSpec.resAt, z0, z1, z2, z3, z4, z5, z6, z7, ptrBlk] at S ⊢
                  simp only [does]
                  go_simp
                  try first | exact S | exact ⟨vv, S⟩ | exact vv
                · clear hi
                  refine step_of rfl rfl rfl ?_
                  intro u G w hf S
                  simp only [resOf, spec, RSpec.resAt, z0, z1, z2, z3, z4, z5, z6, z7, ptrBlk] at S ⊢
                  simp only [does]
                  go_simp
                  try first | exact S | exact ⟨vv, S⟩ | exact vv
                · clear hi
                  refine step_of rfl rfl rfl ?_
                  intro u G w hf S
                  have f4 : u 4 = (.slice (some ⟨gy, 0, none⟩) N c15) := hf 4 (by simp)
                  have f5 : u 5 = (.int .i64 (k : Int)) := hf 5 (by simp)
                  simp only [resOf, spec, RSpec.resAt, z0, z1, z2, z3, z4, z5, z6, z7, ptrBlk] at S ⊢
                  simp only [f4, f5]
                  simp only [does]
                  go_simp
                  try first | exact S | exact ⟨vv, S⟩ | exact vv
                · clear hi
                  refine step_of rfl rfl rfl ?_
                  intro u G w hf S
                  have f6 : u 6 = .pointer (some ⟨gy, k * 40, none⟩) := hf 6 (by simp)
                  simp only [resOf, spec, RSpec.resAt, z0, z1, z2, z3, z4, z5, z6, z7, ptrBlk] at S ⊢
                  simp only [f6]
                  simp only [does]
                  go_simp
                  try first | exact S | exact ⟨vv, S⟩ | exact vv
                · clear hi
                  refine step_of rfl rfl rfl ?_
                  intro u G w hf S
                  have f7 : u 7 = .pointer (some ⟨gy, k * 40 + 1, none⟩) := hf 7 (by simp)
                  simp only [resOf, spec, RSpec.resAt, z0, z1, z2, z3, z4, z5, z6, z7, ptrBlk] at S ⊢
                  simp only [f7]
                  refine does_loadR 34 (.tmp 171) _ _ rfl _ (rq_tokrange (HRANGE.out w (S.sub (by repeat (first | exact Sub.nil _ | refine Sub.cons pk ?_))))) _ Tryd.underlying34 rfl 36 kR (tokL_length _) _ rfl ?_; exact ⟨rfl, S⟩
                · clear hi
                  refine step_of rfl rfl rfl ?_
                  intro u G w hf S
                  simp only [resOf, spec, RSpec.resAt, z0, z1, z2, z3, z4, z5, z6, z7, ptrBlk] at S ⊢
                  simp only [does]
                  go_simp
                  try first | exact S | exact ⟨vv, S⟩ | exact vv
                · clear hi
                  refine step_of rfl rfl rfl ?_
                  intro u G w hf S
                  simp only [resOf, spec, RSpec.resAt, z0, z1, z2, z3, z4, z5, z6, z7, ptrBlk] at S ⊢
                  simp only [does]
                  go_simp
                  try first | exact S | exact ⟨vv, S⟩ | exact vv
                · clear hi
                  refine step_of rfl rfl rfl ?_
                  intro u G w hf S
                  have f9 : u 9 = (.slice (some ⟨gy, 0, none⟩) N c15) := hf 9 (by simp)
                  have f10 : u 10 = (.int .i64 (k : Int)) := hf 10 (by simp)
                  simp only [resOf, spec, RSpec.resAt, z0, z1, z2, z3, z4, z5, z6, z7, ptrBlk] at S ⊢
                  simp only [f9, f10]
                  simp only [does]
                  go_simp
                  try first | exact S | exact ⟨vv, S⟩ | exact vv
                · clear hi
                  refine step_of rfl rfl rfl ?_
                  intro u G w hf S
                  have f11 : u 11 = .pointer (some ⟨gy, k * 40, none⟩) := hf 11 (by simp)
                  simp only [resOf, spec, RSpec.resAt, z0, z1, z2, z3, z4, z5, z6, z7, ptrBlk] at S ⊢
                  simp only [f11]
                  simp only [does]
                  go_simp
                  try first | exact S | exact ⟨vv, S⟩ | exact vv
                · clear hi
                  refine step_of rfl rfl rfl ?_
                  intro u G w hf S
                  have f12 : u 12 = .pointer (some ⟨gy, k * 40, none⟩) := hf 12 (by simp)
                  simp only [resOf, spec, RSpec.resAt, z0, z1, z2, z3, z4, z5, z6, z7, ptrBlk] at S ⊢
                  simp only [f12]
                  refine does_load1 5 (.tmp 176) _ _ rfl (rq_kindcell (HRANGE.out w (S.sub (by repeat (first | exact Sub.nil _ | refine Sub.cons pk ?_))))) _ Tryd.underlying5 rfl ?_; exact ⟨rfl, S⟩
                · clear hi
                  refine step_of rfl rfl rfl ?_
                  intro u G w hf S
                  simp only [resOf, spec, RSpec.resAt, z0, z1, z2, z3, z4, z5, z6, z7, ptrBlk] at S ⊢
                  simp only [does]
                  go_simp
                  try first | exact S | exact ⟨vv, S⟩ | exact vv
                · clear hi
                  refine step_of rfl rfl rfl ?_
                  intro u G w hf S
                  have f1 : u 1 = (.slice a0 l.length c0) := hf 1 (by simp)
                  have f2 : u 2 = (.slice a1 key.length c1) := hf 2 (by simp)
                  have f3 : u 3 = (.int .i64 tenant) := hf 3 (by simp)
                  have f8 : u 8 = .agg (tokL r.tok).toArray := hf 8 (by simp)
                  have f13 : u 13 = .int .u8 (r.kind.toNat : Int) := hf 13 (by simp)
                  have f14 : u 14 = (.int .u64 (now : Int)) := hf 14 (by simp)
                  simp only [resOf, spec, RSpec.resAt, z0, z1, z2, z3, z4, z5, z6, z7, ptrBlk] at S ⊢
                  simp only [f1, f2, f3, f8, f13, f14]
                  refine does_fn (args := [((.slice a0 l.length c0)), ((.slice a1 key.length c1)), ((.int .i64 tenant)), (.agg (tokL r.tok).toArray), (.int .u8 (r.kind.toNat : Int)), ((.int .u64 (now : Int)))]) Tryd.func8 kR kR (PA.out w (S.old H1.out) (S.oldB H2.out) (S.kt HK.out) (S.pt HP.out)) rfl ?_
                  rintro e w1 ⟨rfl, T⟩
                  exact ⟨_, rfl, rfl, S.call T⟩
                · clear hi
                  refine step_of rfl rfl rfl ?_
                  intro u G w hf S
                  have f0 : u 0 = (.int .i64 E0) := hf 0 (by simp)
                  have f15 : u 15 = .int .i64 E0 := hf 15 (by simp)
                  simp only [resOf, spec, RSpec.resAt, z0, z1, z2, z3, z4, z5, z6, z7, ptrBlk] at S ⊢
                  simp only [f0, f15]
                  simp only [does]
                  go_simp
                  try first | exact S | exact ⟨vv, S⟩ | exact vv
              case fin10 =>
                intro u w hf S
                have f0 : u 0 = (.int .i64 E0) := hf 0 (by simp)
                have f1 : u 1 = (.slice a0 l.length c0) := hf 1 (by simp)
                have f2 : u 2 = (.slice a1 key.length c1) := hf 2 (by simp)
                have f3 : u 3 = (.int .i64 tenant) := hf 3 (by simp)
                have f4 : u 4 = (.slice (some ⟨gy, 0, none⟩) N c15) := hf 4 (by simp)
                have f5 : u 5 = (.int .i64 (k : Int)) := hf 5 (by simp)
                have f6 : u 6 = .pointer (some ⟨gy, k * 40, none⟩) := hf 6 (by simp)
                have f7 : u 7 = .pointer (some ⟨gy, k * 40 + 1, none⟩) := hf 7 (by simp)
                have f8 : u 8 = .agg (tokL r.tok).toArray := hf 8 (by simp)
                have f9 : u 9 = (.slice (some ⟨gy, 0, none⟩) N c15) := hf 9 (by simp)
                have f10 : u 10 = (.int .i64 (k : Int)) := hf 10 (by simp)
                have f11 : u 11 = .pointer (some ⟨gy, k * 40, none⟩) := hf 11 (by simp)
                have f12 : u 12 = .pointer (some ⟨gy, k * 40, none⟩) := hf 12 (by simp)
                have f13 : u 13 = .int .u8 (r.kind.toNat : Int) := hf 13 (by simp)
                have f14 : u 14 = (.int .u64 (now : Int)) := hf 14 (by simp)
                have f15 : u 15 = .int .i64 E0 := hf 15 (by simp)
                have f16 : u 16 = .bool false := hf 16 (by simp)
                simp only [resOf, spec, RSpec.resAt, z0, z1, z2, z3, z4, z5, z6, z7, ptrBlk] at S
                clear hf
                simp only [List.length_cons, List.length_nil, Nat.zero_add, Nat.reduceAdd, List.drop_succ_cons, List.drop_zero, f0, f1, f2, f3, f4, f5, f6, f7, f8, f9, f10, f11, f12, f13, f14, f15, f16]
                clear f0 f1 f2 f3 f4 f5 f6 f7 f8 f9 f10 f11 f12 f13 f14 f15 f16
                by_cases hz0 : E0 = 0
                · subst hz0
                  obtain ⟨j, x, hx, hser, hj32, hsn, hsE, hrev, hexp, hprm, ht0, ht3⟩ := HZ.out rfl
                  have hjl : j < l.length := (List.getElem?_eq_some_iff.1 hx).1
                  obtain ⟨b0, off0, rfl, _⟩ := H1.out.atA (by omega)
                  have hrgm := H1.out.elem mintL_length (by decide) j x hx
                  obtain ⟨tb, htb⟩ : ∃ tb : UInt8, tb = UInt8.ofNat tenant.toNat := ⟨_, rfl⟩
                  have htv : (tb.toNat : Int) = tenant % 256 := by rw [htb, UInt8.toNat_ofNat']; omega
                  rw [← htb] at hsn
                  have psg := fun w h hk => sign_s (.slice a1 key.length c1) key ⟨tb, x.role, x.expiry, r.tok.serial, zs32, rfl⟩ w h hk
                  rw [hsn, hsE] at psg
                  have pm := fun w h => permits_s x.role.toNat r.kind.toNat w h x.role.toNat_lt r.kind.toNat_lt
                  rw [hprm] at pm
                  have q4 : (rqL r).toArray[4]? = some (.int .u32 ((j : Int) + 1)) := by
                    have : (rqL r).toArray[4]? = some (.int .u32 (r.tok.serial.toNat : Int)) := rfl
                    rw [this, hser]; rfl
                  have q2 : (mintL x).toArray[2]? = some (.bool false) := by rw [mintL_2, hrev]
                  have hse2 : (r.tok.serial.toNat : Int) = (j : Int) + 1 := by rw [hser]; rfl
                  have e6 : IntKind.u64.wrap ((j : Int) + 1) = (j : Int) + 1 := by rw [IntKind.wrap_u64]; omega
                  have e7 : IntKind.u32.wrap (j : Int) = (j : Int) := by rw [IntKind.wrap_u32]; omega
                  have e8 : IntKind.u8.wrap tenant = (tb.toNat : Int) := by rw [IntKind.wrap_u8, htv]
                  have e9 : ((j : Int) + 1) % 18446744073709551616 = (j : Int) + 1 := by omega
                  have e10 : (l.length : Int) % 18446744073709551616 = (l.length : Int) := by omega
                  have e11 : tenant % 256 = (tb.toNat : Int) := htv.symm
                  have j2 : ¬ ((j : Int) + 1 < 1) := by omega
                  have j3 : ¬ ((l.length : Int) < (j : Int) + 1) := by omega
                  have j4 : (j : Int) < (l.length : Int) := by omega
                  have j5 : ¬ x.expiry.toNat ≤ now := by omega
                  have j6 : ¬ ((x.expiry.toNat : Int) ≤ (now : Int)) := by omega
                  have hneT := fun w => neqT r.tok r.tok w
                  simp only [decide_true, Bool.not_true] at hneT
                  have egT := eqGuardT
                  have HRGM := Lib.hid hrgm; have PSG := Lib.hid psg; have PM := Lib.hid pm; have Q4 := Lib.hid q4; have Q2 := Lib.hid q2; have HSE2 := Lib.hid hse2; clear hrgm psg pm q4 q2 hse2
                  clear htb htv hx hser hsn hsE hrev hexp hprm ht0 ht3 hj32 hjl hne eg
                  go_wp2_with (first | ((with_reducible refine iD 217 (.load 34 (.tmp 33)) ?_); refine step_load S 34 (.tmp 33) g33 rfl _ (tokL r.tok).toArray _ pk _ Tryd.underlying34 rfl 36 kR (tokL_size _) gw ?_) | ((with_reducible refine iD 210 (.build 34 _) ?_); refine step_buildT4 (.tmp 204) (.tmp 206) (.tmp 208) (.tmp 209) tb x.role x.expiry r.tok.serial rfl rfl rfl (by rw [HSE2.out]; rfl) gw ?_) | ((with_reducible refine iO _ (.load 36 _) ?_); first | (refine step_loadR 36 _ _ _ rfl _ (S.old_range hy) _ Tryd.underlying36 rfl 40 kR lN _ rfl gw ?_) | (refine step_loadP S 36 _ _ _ rfl _ _ _ pk 40 _ pT lN _ Tryd.underlying36 rfl kR gw ?_)) | (at_builtin; refine step_append8 S (.tmp 69) (.tmp 70) _ _ rfl pk _ _ rfl bS lE gw ?_; clear S; intro v71 w S; (try simp only [z4] at S)) | (at_builtin; refine step_appendRq S (.tmp 72) (.tmp 77) _ _ rfl pk _ _ rfl sL lE gw ?_; clear S; intro v78 w S; (try simp only [z4] at S)) | ((with_reducible refine iO _ (.slice 23 _ _ _ _) ?_); refine step_cutH 23 5 1 _ _ _ _ _ _ _ _ rfl rfl (by first | rfl | omega) (by first | (first | omega | assumption | (exact Hid.out (by assumption)) | (simp only [List.length_append, List.length_cons, List.length_nil]; omega)) | decide) Tryd.underlying23 kR gw ?_) | ((with_reducible refine iD 95 (.buildSlice 23 0 _) ?_); refine step_build8 S 0 _ [] (by first | rfl | kernel_rfl) rfl (by decide) gw ?_; clear S; intro v95 w S) | (at_builtin; refine step_append8 S (.tmp 95) (.tmp 96) _ _ rfl pk _ _ rfl bS lE gw ?_; clear S; intro v97 w S; (try simp only [z4] at S)) | ((with_reducible refine iO _ (.slice 23 _ _ _ _) ?_); refine step_cutL 23 5 1 _ _ _ _ _ _ _ _ rfl rfl (by first | rfl | omega) (by first | (first | omega | assumption | (exact Hid.out (by assumption)) | (simp only [List.length_append, List.length_cons, List.length_nil]; omega)) | decide) Tryd.underlying23 kR gw ?_) | (at_builtin; refine step_append8 S (.tmp 97) (.tmp 100) _ _ rfl pk _ _ rfl bS lE gw ?_; clear S; intro v101 w S; (try simp only [z4] at S)) | ((with_reducible refine iD 127 (.buildSlice 37 0 _) ?_); refine step_build0 S 37 23 Tryd.underlying37 1 kR gw ?_; clear S; intro v127 w S) | ((with_reducible refine iO _ (.load 23 _) ?_); refine step_load1 23 _ _ _ rfl (cL) _ Tryd.underlying23 rfl gw ?_) | ((with_reducible refine iD 28 (.alloc 36) ?_); refine step_alloc (dst := some 28) S 36 (.agg ((rqL rqZ).toArray)) ((rqL rqZ).toArray) kR rfl gw ?_; clear S; intro g28 w S) | ((with_reducible refine iO none (.store 36 (.tmp 28) (.tmp 143)) ?_); refine step_store S 36 (.tmp 28) (.tmp 143) _ _ rfl rfl _ _ pk 40 kR lN lN on1 gw ?_; clear S; intro w S) | ((with_reducible refine iO _ (.load 36 _) ?_); first | (refine step_load S 36 _ _ rfl _ _ _ pk _ Tryd.underlying36 rfl 40 kR lN gw ?_) | (refine step_loadO 36 _ _ rfl _ _ _ (S.old_heap (Hid.out (by assumption))) _ Tryd.underlying36 rfl 40 kR lN gw ?_) | (refine step_loadR 36 _ _ _ rfl _ (S.old_range hy) _ Tryd.underlying36 rfl 40 kR lN _ rfl gw ?_)) | ((with_reducible refine iO _ (.load 34 _) ?_); first | (refine step_loadR 34 _ _ _ rfl _ (S.old_range hy) _ Tryd.underlying34 rfl 36 kR lN _ rfl gw ?_) | (refine step_loadP S 34 _ _ _ rfl _ _ _ pk 36 _ pT lN _ Tryd.underlying34 rfl kR gw ?_)) | ((with_reducible refine iO _ (.load 5 _) ?_); refine step_load1 5 _ _ _ rfl (cL) _ Tryd.underlying5 rfl gw ?_) | ((with_reducible refine iO _ (.load 31 _) ?_); refine step_load1 31 _ _ _ rfl (cL) _ Tryd.underlying31 rfl gw ?_) | ((with_reducible refine iO _ (.load 44 _) ?_); first | (refine step_loadR 44 _ _ _ rfl _ (S.old_range hy) _ Tryd.underlying44 rfl 3 kR lN _ rfl gw ?_) | (refine step_loadP S 44 _ _ _ rfl _ _ _ pk 3 _ pT lN _ Tryd.underlying44 rfl kR gw ?_)) | ((with_reducible refine iD 32 (.alloc 44) ?_); refine step_alloc (dst := some 32) S 44 (.agg ((mintL mintZ).toArray)) ((mintL mintZ).toArray) kR rfl gw ?_; clear S; intro g32 w S) | ((with_reducible refine iO none (.store 44 (.tmp 32) (.tmp 200)) ?_); refine step_store S 44 (.tmp 32) (.tmp 200) _ _ rfl rfl _ _ pk 3 kR lN lN on1 gw ?_; clear S; intro w S) | ((with_reducible refine iO _ (.load 25 _) ?_); refine step_load1 25 _ _ _ rfl (cL) _ Tryd.underlying25 rfl gw ?_) | (go_at_call 9; (with_reducible refine (PSG.out _ (S.oldB H2.out) kT).mono ?_); rintro e w1 ⟨rfl, T⟩; replace S := S.call T; clear T; (try simp only [z4, z5] at S)) | ((with_reducible refine iD 33 (.alloc 34) ?_); refine step_alloc (dst := some 33) S 34 (.agg ((tokL tokZ).toArray)) ((tokL tokZ).toArray) kR rfl gw ?_; clear S; intro g33 w S) | ((with_reducible refine iO none (.store 34 (.tmp 33) (.tmp 212)) ?_); refine step_store S 34 (.tmp 33) (.tmp 212) _ _ rfl rfl _ _ pk 36 kR lN lN on1 gw ?_; clear S; intro w S) | ((with_reducible refine iO _ (.load 34 _) ?_); first | (refine step_load S 34 _ _ rfl _ _ _ pk _ Tryd.underlying34 rfl 36 kR lN gw ?_) | (refine step_loadO 34 _ _ rfl _ _ _ (S.old_heap (Hid.out (by assumption))) _ Tryd.underlying34 rfl 36 kR lN gw ?_) | (refine step_loadR 34 _ _ _ rfl _ (S.old_range hy) _ Tryd.underlying34 rfl 36 kR lN _ rfl gw ?_)) | ((with_reducible refine iO _ (.load 4 _) ?_); refine step_load1 4 _ _ _ rfl (cL) _ Tryd.underlying4 rfl gw ?_) | (go_at_call 10; (with_reducible refine (PM.out _ (S.pt HP.out)).mono ?_); rintro e w1 ⟨rfl, T⟩; replace S := S.call T; clear T; (try simp only [z4, z5] at S)) | fail)
                  go_roundw
                  case rel => exact ⟨k + 1, by omega, by go_num, S.sub (by repeat (first | exact Sub.nil _ | refine Sub.cons pk ?_))⟩
                  case measure => simp [intOf]; omega
                · go_upto_region 29 with (fail)
                  go_upto_if 182 with (fail)
                  refine wp_cond_true (by simp [Act.eval, hz0]) ?_
                  refine wp_exit ?_
                  simp only [Exit.then, Exit.inBlock, if_true]
                  go_wp2
                  go_roundw
                  case rel => exact ⟨k + 1, by omega, by go_num, S.sub (by repeat (first | exact Sub.nil _ | refine Sub.cons pk ?_))⟩
                  case measure => simp [intOf]; omega
          · obtain rfl : k = N := by omega
            have hki : ¬ (k : Int) < (k : Int) := by omega
            go_wp2_with (first | ((with_reducible refine iO _ (.load 36 _) ?_); first | (refine step_loadR 36 _ _ _ rfl _ (S.old_range hy) _ Tryd.underlying36 rfl 40 kR lN _ rfl gw ?_) | (refine step_loadP S 36 _ _ _ rfl _ _ _ pk 40 _ pT lN _ Tryd.underlying36 rfl kR gw ?_)) | (at_builtin; refine step_append8 S (.tmp 69) (.tmp 70) _ _ rfl pk _ _ rfl bS lE gw ?_; clear S; intro v71 w S; (try simp only [z4] at S)) | (at_builtin; refine step_appendRq S (.tmp 72) (.tmp 77) _ _ rfl pk _ _ rfl sL lE gw ?_; clear S; intro v78 w S; (try simp only [z4] at S)) | ((with_reducible refine iO _ (.slice 23 _ _ _ _) ?_); refine step_cutH 23 5 1 _ _ _ _ _ _ _ _ rfl rfl (by first | rfl | omega) (by first | (first | omega | assumption | (exact Hid.out (by assumption)) | (simp only [List.length_append, List.length_cons, List.length_nil]; omega)) | decide) Tryd.underlying23 kR gw ?_) | ((with_reducible refine iD 95 (.buildSlice 23 0 _) ?_); refine step_build8 S 0 _ [] (by first | rfl | kernel_rfl) rfl (by decide) gw ?_; clear S; intro v95 w S) | (at_builtin; refine step_append8 S (.tmp 95) (.tmp 96) _ _ rfl pk _ _ rfl bS lE gw ?_; clear S; intro v97 w S; (try simp only [z4] at S)) | ((with_reducible refine iO _ (.slice 23 _ _ _ _) ?_); refine step_cutL 23 5 1 _ _ _ _ _ _ _ _ rfl rfl (by first | rfl | omega) (by first | (first | omega | assumption | (exact Hid.out (by assumption)) | (simp only [List.length_append, List.length_cons, List.length_nil]; omega)) | decide) Tryd.underlying23 kR gw ?_) | (at_builtin; refine step_append8 S (.tmp 97) (.tmp 100) _ _ rfl pk _ _ rfl bS lE gw ?_; clear S; intro v101 w S; (try simp only [z4] at S)) | ((with_reducible refine iD 127 (.buildSlice 37 0 _) ?_); refine step_build0 S 37 23 Tryd.underlying37 1 kR gw ?_; clear S; intro v127 w S) | ((with_reducible refine iO _ (.load 23 _) ?_); refine step_load1 23 _ _ _ rfl (cL) _ Tryd.underlying23 rfl gw ?_) | ((with_reducible refine iD 28 (.alloc 36) ?_); refine step_alloc (dst := some 28) S 36 (.agg ((rqL rqZ).toArray)) ((rqL rqZ).toArray) kR rfl gw ?_; clear S; intro g28 w S) | ((with_reducible refine iO none (.store 36 (.tmp 28) (.tmp 143)) ?_); refine step_store S 36 (.tmp 28) (.tmp 143) _ _ rfl rfl _ _ pk 40 kR lN lN on1 gw ?_; clear S; intro w S) | ((with_reducible refine iO _ (.load 36 _) ?_); first | (refine step_load S 36 _ _ rfl _ _ _ pk _ Tryd.underlying36 rfl 40 kR lN gw ?_) | (refine step_loadO 36 _ _ rfl _ _ _ (S.old_heap (Hid.out (by assumption))) _ Tryd.underlying36 rfl 40 kR lN gw ?_) | (refine step_loadR 36 _ _ _ rfl _ (S.old_range hy) _ Tryd.underlying36 rfl 40 kR lN _ rfl gw ?_)) | ((with_reducible refine iO _ (.load 34 _) ?_); first | (refine step_loadR 34 _ _ _ rfl _ (S.old_range hy) _ Tryd.underlying34 rfl 36 kR lN _ rfl gw ?_) | (refine step_loadP S 34 _ _ _ rfl _ _ _ pk 36 _ pT lN _ Tryd.underlying34 rfl kR gw ?_)) | ((with_reducible refine iO _ (.load 5 _) ?_); refine step_load1 5 _ _ _ rfl (cL) _ Tryd.underlying5 rfl gw ?_) | ((with_reducible refine iO _ (.load 31 _) ?_); refine step_load1 31 _ _ _ rfl (cL) _ Tryd.underlying31 rfl gw ?_) | ((with_reducible refine iO _ (.load 44 _) ?_); first | (refine step_loadR 44 _ _ _ rfl _ (S.old_range hy) _ Tryd.underlying44 rfl 3 kR lN _ rfl gw ?_) | (refine step_loadP S 44 _ _ _ rfl _ _ _ pk 3 _ pT lN _ Tryd.underlying44 rfl kR gw ?_)) | ((with_reducible refine iD 32 (.alloc 44) ?_); refine step_alloc (dst := some 32) S 44 (.agg ((mintL mintZ).toArray)) ((mintL mintZ).toArray) kR rfl gw ?_; clear S; intro g32 w S) | ((with_reducible refine iO none (.store 44 (.tmp 32) (.tmp 200)) ?_); refine step_store S 44 (.tmp 32) (.tmp 200) _ _ rfl rfl _ _ pk 3 kR lN lN on1 gw ?_; clear S; intro w S) | ((with_reducible refine iO _ (.load 25 _) ?_); refine step_load1 25 _ _ _ rfl (cL) _ Tryd.underlying25 rfl gw ?_) | ((with_reducible refine iD 33 (.alloc 34) ?_); refine step_alloc (dst := some 33) S 34 (.agg ((tokL tokZ).toArray)) ((tokL tokZ).toArray) kR rfl gw ?_; clear S; intro g33 w S) | ((with_reducible refine iO none (.store 34 (.tmp 33) (.tmp 212)) ?_); refine step_store S 34 (.tmp 33) (.tmp 212) _ _ rfl rfl _ _ pk 36 kR lN lN on1 gw ?_; clear S; intro w S) | ((with_reducible refine iO _ (.load 34 _) ?_); first | (refine step_load S 34 _ _ rfl _ _ _ pk _ Tryd.underlying34 rfl 36 kR lN gw ?_) | (refine step_loadO 34 _ _ rfl _ _ _ (S.old_heap (Hid.out (by assumption))) _ Tryd.underlying34 rfl 36 kR lN gw ?_) | (refine step_loadR 34 _ _ _ rfl _ (S.old_range hy) _ Tryd.underlying34 rfl 36 kR lN _ rfl gw ?_)) | ((with_reducible refine iO _ (.load 4 _) ?_); refine step_load1 4 _ _ _ rfl (cL) _ Tryd.underlying4 rfl gw ?_) | fail)
            go_ret
            exact ⟨rfl, S.nil⟩
end Go.Proofs.YtmcefinhmihmnaaDoor
