/- WireFrames' walk. No condition but the table of constants and the reach. -/
import Derived.Test.YtfhkmmagpnojmaaDoorBd
import Derived.Test.YtfhkmmagpnojmaaDoorAlv7
import Derived.Test.YtfhkmmagpnojmaaDoorSpN
import Derived.Test.YtfhkmmagpnojmaaDoorStrm
import Derived.Test.YtfhkmmagpnojmaaDoorRefQ
set_option linter.unusedSimpArgs false
set_option linter.unusedVariables false
namespace Go.Proofs.YtfhkmmagpnojmaaDoor
open Go.RowKit

set_option maxRecDepth 100000 in
set_option maxHeartbeats 16000000 in
theorem wireFrames_walk (v3 : Value) (rs : List Rq) (n : Nat) (w0 : World) (h3 : Sl w0 40 v3 rs.length (rs.flatMap rqL)) (hn : n < 256) (hK : KT w0) :
    Calls Tryd.prog 8 #[v3, .int .u8 (n : Int)] w0 fun e w' => e = .returned (.bool true) ∧ Has w0 w' [] := by
  have S := Has.start w0
  obtain ⟨a3, c3, rfl, k5, k6⟩ := Sl.shape h3
  unfold maxLen at k6
  have p1 := fun w h1 => alive_s w h1
  by_cases hbig : 60 < rs.length
  · have i1 : 60 < (rs.length : Int) := by omega
    have H3 := Lib.hid h3; have HK := Lib.hid hK; have P1 := Lib.hid p1; clear h3 hK p1
    clear hbig
    go_enter Tryd.func8, Tryd.ntmps8
    go_wp2_with (first | (go_at_call 29; (with_reducible refine (P1.out _ kT).mono ?_); rintro e w1 ⟨rfl, T⟩; replace S := S.call T; clear T; (try simp only [z4, z5] at S)) | ((with_reducible refine iO _ (.load 69 _) ?_); first | (refine step_loadR 69 _ _ _ rfl _ (S.old_range hy) _ Tryd.underlying69 rfl 40 kR lN _ rfl gw ?_) | (refine step_loadP S 69 _ _ _ rfl _ _ _ pk 40 _ pT lN _ Tryd.underlying69 rfl kR gw ?_)) | ((with_reducible refine iO _ (.convert 25 9 _) ?_); refine step_conv 25 9 5 _ _ _ rfl Tryd.underlying25 Tryd.underlying5 Tryd.underlying9 bS gw ?_) | ((with_reducible refine iO _ (.load 25 _) ?_); refine step_load1 25 _ _ _ rfl (cL) _ Tryd.underlying25 rfl gw ?_) | ((with_reducible refine iD 17 (.alloc 69) ?_); refine step_alloc (dst := some 17) S 69 (.agg ((rqL rqZ).toArray)) ((rqL rqZ).toArray) kR rfl gw ?_; clear S; intro g17 w S) | ((with_reducible refine iO none (.store 69 (.tmp 17) (.tmp 116)) ?_); refine step_store S 69 (.tmp 17) (.tmp 116) _ _ rfl rfl _ _ pk 40 kR lN lN on1 gw ?_; clear S; intro w S) | ((with_reducible refine iO _ (.load 69 _) ?_); first | (refine step_load S 69 _ _ rfl _ _ _ pk _ Tryd.underlying69 rfl 40 kR lN gw ?_) | (refine step_loadO 69 _ _ rfl _ _ _ (S.old_heap (Hid.out (by assumption))) _ Tryd.underlying69 rfl 40 kR lN gw ?_) | (refine step_loadR 69 _ _ _ rfl _ (S.old_range hy) _ Tryd.underlying69 rfl 40 kR lN _ rfl gw ?_)) | fail)
    go_ret
    exact ⟨rfl, S.nil⟩
  have i3 : ¬ 60 < (rs.length : Int) := by omega
  have b3 : rs.length ≤ 60 := by omega
  have pe := fun r w => encodeRequest_s r w
  have pv := fun r w => refValid_s r w
  obtain ⟨m, hm⟩ : ∃ m, m = rs.length := ⟨_, rfl⟩
  rw [← hm] at h3 i3 k5 b3 ⊢
  have hm0 := hm
  have H3 := Lib.hid h3; have HK := Lib.hid hK; have P1 := Lib.hid p1; have PE := Lib.hid pe; have PV := Lib.hid pv; have HM0 := Lib.hid hm0; have B3 := Lib.hid b3; have HN := Lib.hid hn; clear h3 hK p1 pe pv hm0 b3 hn
  clear hm hbig
  go_enter Tryd.func8, Tryd.ntmps8
  go_wp2_with (first | (go_at_call 29; (with_reducible refine (P1.out _ kT).mono ?_); rintro e w1 ⟨rfl, T⟩; replace S := S.call T; clear T; (try simp only [z4, z5] at S)) | ((with_reducible refine iO _ (.load 69 _) ?_); first | (refine step_loadR 69 _ _ _ rfl _ (S.old_range hy) _ Tryd.underlying69 rfl 40 kR lN _ rfl gw ?_) | (refine step_loadP S 69 _ _ _ rfl _ _ _ pk 40 _ pT lN _ Tryd.underlying69 rfl kR gw ?_)) | ((with_reducible refine iO _ (.convert 25 9 _) ?_); refine step_conv 25 9 5 _ _ _ rfl Tryd.underlying25 Tryd.underlying5 Tryd.underlying9 bS gw ?_) | ((with_reducible refine iO _ (.load 25 _) ?_); refine step_load1 25 _ _ _ rfl (cL) _ Tryd.underlying25 rfl gw ?_) | ((with_reducible refine iD 17 (.alloc 69) ?_); refine step_alloc (dst := some 17) S 69 (.agg ((rqL rqZ).toArray)) ((rqL rqZ).toArray) kR rfl gw ?_; clear S; intro g17 w S) | ((with_reducible refine iO none (.store 69 (.tmp 17) (.tmp 116)) ?_); refine step_store S 69 (.tmp 17) (.tmp 116) _ _ rfl rfl _ _ pk 40 kR lN lN on1 gw ?_; clear S; intro w S) | ((with_reducible refine iO _ (.load 69 _) ?_); first | (refine step_load S 69 _ _ rfl _ _ _ pk _ Tryd.underlying69 rfl 40 kR lN gw ?_) | (refine step_loadO 69 _ _ rfl _ _ _ (S.old_heap (Hid.out (by assumption))) _ Tryd.underlying69 rfl 40 kR lN gw ?_) | (refine step_loadR 69 _ _ _ rfl _ (S.old_range hy) _ Tryd.underlying69 rfl 40 kR lN _ rfl gw ?_)) | fail)
  go_loopw [6, 7, 8] (fun v6 v7 u wr => ∃ (k : Nat), k ≤ m ∧ u = .int .i64 (k : Int) ∧ Has w0 wr [row8 v6 (strmL ((rs.take k).filter rqV)), rowRq v7 ((rs.take k).filter rqV)]) (fun _ _ u _ => m - (intOf u).toNat)
  case atStart => exact ⟨0, Nat.zero_le _, rfl, S.nilRq.nil8⟩
  case round =>
    clear S
    obtain ⟨k, hk, rfl, S⟩ := hrel
    by_cases hlt : k < m
    · have hlt2 : k < rs.length := by rw [← HM0.out]; exact hlt
      have hx : rs[k]? = some rs[k] := List.getElem?_eq_getElem hlt2
      have hrr := H3.out
      obtain ⟨b, off, rfl, hcell⟩ := hrr.atA (by omega)
      have hrg := hrr.elem rqL_length (by decide) k _ hx
      have hs1 := sent_yes rs k _ hx
      have hs2 := sent_no rs k _ hx
      have hsl := sent_len rs k
      obtain ⟨x, hxe⟩ : ∃ x, x = rs[k] := ⟨_, rfl⟩
      rw [← hxe] at hrg hs1 hs2
      obtain ⟨s, hs⟩ : ∃ s, s = (rs.take k).filter rqV := ⟨_, rfl⟩
      rw [← hs] at S hs1 hs2 hsl
      have hst := strm_len s
      have hb3 := B3.out
      have hmm := HM0.out
      have pe := PE.out x
      have pv := PV.out x
      have hki : (k : Int) < (m : Int) := by omega
      have hki2 : (k : Int) < 9223372036854775807 := by omega
      have hel := encR_length x
      have hbz := bsz_le x.kind
      have hle1 : (strmL s).length + (encR x).length ≤ 140737488355328 := by omega
      have hle2 : (s.length + [x].length) * 72 ≤ 140737488355328 := by simp only [List.length_cons, List.length_nil]; omega
      cases hv : rqV x with
      | true =>
        have hmore := hs1 hv
        have hse := strm_app s x
        rw [show encRE x = encR x from if_pos hv, show rqE x = 0 from if_pos hv] at pe
        rw [hv] at pv
        obtain ⟨T, hT⟩ : ∃ T, T = strmL s := ⟨_, rfl⟩
        obtain ⟨E, hE⟩ : ∃ E, E = encR x := ⟨_, rfl⟩
        rw [← hT] at S hle1 hse
        rw [← hE] at pe hle1 hse hel
        have i64 : ¬ 64 < (E.length : Int) := by omega
        clear hx hrr hcell hxe hs1 hs2 hs hst hb3 hmm hel hbz hsl hT hE hv
        have HRG := Lib.hid hrg; have PE := Lib.hid pe; have PV := Lib.hid pv; have HMORE := Lib.hid hmore; have HSE := Lib.hid hse; have HLE1 := Lib.hid hle1; have HLE2 := Lib.hid hle2; clear hrg pe pv hmore hse hle1 hle2
        go_upto_region 13 with (first | ((with_reducible refine iD 58 (.buildSlice 63 1 _) ?_); refine step_buildRq1s S (.tmp 57) x rfl gw ?_; clear S; intro v58 w S) | (at_builtin; refine step_appendRq S (.tmp 53) (.tmp 58) _ s rfl pk v58 [x] rfl (S.sl (v := v58) pk) HLE2.out gw ?_; clear S; intro v59 w S) | (at_builtin; refine step_append8 S (.tmp 60) (.tmp 61) _ T rfl pk (.slice a35 E.length c35) E rfl (S.bs (v := .slice a35 E.length c35) (xs := E) pk) HLE1.out gw ?_; clear S; intro v62 w S) | (go_at_call 32; (with_reducible refine (PE.out _).mono ?_); rintro e w1 ⟨v35, rfl, T⟩; replace S := S.call T; clear T; (try simp only [z4, z5] at S); obtain ⟨a35, c35, rfl, _, _⟩ := Sl.shape (S.bs (v := v35) (xs := E) pk)) | ((with_reducible refine iO _ (.load 69 _) ?_); first | (refine step_loadR 69 _ _ _ rfl _ (S.old_range hy) _ Tryd.underlying69 rfl 40 kR lN _ rfl gw ?_) | (refine step_loadP S 69 _ _ _ rfl _ _ _ pk 40 _ pT lN _ Tryd.underlying69 rfl kR gw ?_)) | (go_at_call 33; (with_reducible refine (PV.out _).mono ?_); rintro e w1 ⟨rfl, T⟩; replace S := S.call T; clear T; (try simp only [z4, z5] at S)) | ((with_reducible refine iO _ (.convert 25 9 _) ?_); refine step_conv 25 9 5 _ _ _ rfl Tryd.underlying25 Tryd.underlying5 Tryd.underlying9 bS gw ?_) | ((with_reducible refine iO _ (.load 25 _) ?_); refine step_load1 25 _ _ _ rfl (cL) _ Tryd.underlying25 rfl gw ?_) | ((with_reducible refine iD 17 (.alloc 69) ?_); refine step_alloc (dst := some 17) S 69 (.agg ((rqL rqZ).toArray)) ((rqL rqZ).toArray) kR rfl gw ?_; clear S; intro g17 w S) | ((with_reducible refine iO none (.store 69 (.tmp 17) (.tmp 116)) ?_); refine step_store S 69 (.tmp 17) (.tmp 116) _ _ rfl rfl _ _ pk 40 kR lN lN on1 gw ?_; clear S; intro w S) | ((with_reducible refine iO _ (.load 69 _) ?_); first | (refine step_load S 69 _ _ rfl _ _ _ pk _ Tryd.underlying69 rfl 40 kR lN gw ?_) | (refine step_loadO 69 _ _ rfl _ _ _ (S.old_heap (Hid.out (by assumption))) _ Tryd.underlying69 rfl 40 kR lN gw ?_) | (refine step_loadR 69 _ _ _ rfl _ (S.old_range hy) _ Tryd.underlying69 rfl 40 kR lN _ rfl gw ?_)) | fail)
        go_upto_if 52 with (fail)
        refine wp_cond_false (by simp [Act.eval]; omega) ?_
        go_wp2_with (first | ((with_reducible refine iD 58 (.buildSlice 63 1 _) ?_); refine step_buildRq1s S (.tmp 57) x rfl gw ?_; clear S; intro v58 w S) | (at_builtin; refine step_appendRq S (.tmp 53) (.tmp 58) _ s rfl pk v58 [x] rfl (S.sl (v := v58) pk) HLE2.out gw ?_; clear S; intro v59 w S) | (at_builtin; refine step_append8 S (.tmp 60) (.tmp 61) _ T rfl pk (.slice a35 E.length c35) E rfl (S.bs (v := .slice a35 E.length c35) (xs := E) pk) HLE1.out gw ?_; clear S; intro v62 w S) | (go_at_call 32; (with_reducible refine (PE.out _).mono ?_); rintro e w1 ⟨v35, rfl, T⟩; replace S := S.call T; clear T; (try simp only [z4, z5] at S); obtain ⟨a35, c35, rfl, _, _⟩ := Sl.shape (S.bs (v := v35) (xs := E) pk)) | ((with_reducible refine iO _ (.load 69 _) ?_); first | (refine step_loadR 69 _ _ _ rfl _ (S.old_range hy) _ Tryd.underlying69 rfl 40 kR lN _ rfl gw ?_) | (refine step_loadP S 69 _ _ _ rfl _ _ _ pk 40 _ pT lN _ Tryd.underlying69 rfl kR gw ?_)) | (go_at_call 33; (with_reducible refine (PV.out _).mono ?_); rintro e w1 ⟨rfl, T⟩; replace S := S.call T; clear T; (try simp only [z4, z5] at S)) | ((with_reducible refine iO _ (.convert 25 9 _) ?_); refine step_conv 25 9 5 _ _ _ rfl Tryd.underlying25 Tryd.underlying5 Tryd.underlying9 bS gw ?_) | ((with_reducible refine iO _ (.load 25 _) ?_); refine step_load1 25 _ _ _ rfl (cL) _ Tryd.underlying25 rfl gw ?_) | ((with_reducible refine iD 17 (.alloc 69) ?_); refine step_alloc (dst := some 17) S 69 (.agg ((rqL rqZ).toArray)) ((rqL rqZ).toArray) kR rfl gw ?_; clear S; intro g17 w S) | ((with_reducible refine iO none (.store 69 (.tmp 17) (.tmp 116)) ?_); refine step_store S 69 (.tmp 17) (.tmp 116) _ _ rfl rfl _ _ pk 40 kR lN lN on1 gw ?_; clear S; intro w S) | ((with_reducible refine iO _ (.load 69 _) ?_); first | (refine step_load S 69 _ _ rfl _ _ _ pk _ Tryd.underlying69 rfl 40 kR lN gw ?_) | (refine step_loadO 69 _ _ rfl _ _ _ (S.old_heap (Hid.out (by assumption))) _ Tryd.underlying69 rfl 40 kR lN gw ?_) | (refine step_loadR 69 _ _ _ rfl _ (S.old_range hy) _ Tryd.underlying69 rfl 40 kR lN _ rfl gw ?_)) | fail)
        go_roundw
        case rel => exact ⟨k + 1, by omega, by go_num, by rw [HMORE.out, HSE.out]; exact S.sub (by repeat (first | exact Sub.nil _ | refine Sub.cons pk ?_))⟩
        case measure => simp [intOf]; omega
      | false =>
        have hmore := hs2 hv
        rw [show encRE x = [] from if_neg (by rw [hv]; decide), show rqE x = 8 from if_neg (by rw [hv]; decide)] at pe
        rw [hv] at pv
        clear hx hrr hcell hxe hs1 hs2 hs hst hb3 hmm hel hbz hsl hv
        have HRG := Lib.hid hrg; have PE := Lib.hid pe; have PV := Lib.hid pv; have HMORE := Lib.hid hmore; have HLE1 := Lib.hid hle1; have HLE2 := Lib.hid hle2; clear hrg pe pv hmore hle1 hle2
        go_wp2_with (first | ((with_reducible refine iO _ (.load 69 _) ?_); first | (refine step_loadR 69 _ _ _ rfl _ (S.old_range hy) _ Tryd.underlying69 rfl 40 kR lN _ rfl gw ?_) | (refine step_loadP S 69 _ _ _ rfl _ _ _ pk 40 _ pT lN _ Tryd.underlying69 rfl kR gw ?_)) | (go_at_call 32; (with_reducible refine (PE.out _).mono ?_); rintro e w1 ⟨v35, rfl, T⟩; replace S := S.call T; clear T; (try simp only [z4, z5] at S)) | (go_at_call 33; (with_reducible refine (PV.out _).mono ?_); rintro e w1 ⟨rfl, T⟩; replace S := S.call T; clear T; (try simp only [z4, z5] at S)) | ((with_reducible refine iO _ (.convert 25 9 _) ?_); refine step_conv 25 9 5 _ _ _ rfl Tryd.underlying25 Tryd.underlying5 Tryd.underlying9 bS gw ?_) | ((with_reducible refine iO _ (.load 25 _) ?_); refine step_load1 25 _ _ _ rfl (cL) _ Tryd.underlying25 rfl gw ?_) | ((with_reducible refine iD 17 (.alloc 69) ?_); refine step_alloc (dst := some 17) S 69 (.agg ((rqL rqZ).toArray)) ((rqL rqZ).toArray) kR rfl gw ?_; clear S; intro g17 w S) | ((with_reducible refine iO none (.store 69 (.tmp 17) (.tmp 116)) ?_); refine step_store S 69 (.tmp 17) (.tmp 116) _ _ rfl rfl _ _ pk 40 kR lN lN on1 gw ?_; clear S; intro w S) | ((with_reducible refine iO _ (.load 69 _) ?_); first | (refine step_load S 69 _ _ rfl _ _ _ pk _ Tryd.underlying69 rfl 40 kR lN gw ?_) | (refine step_loadO 69 _ _ rfl _ _ _ (S.old_heap (Hid.out (by assumption))) _ Tryd.underlying69 rfl 40 kR lN gw ?_) | (refine step_loadR 69 _ _ _ rfl _ (S.old_range hy) _ Tryd.underlying69 rfl 40 kR lN _ rfl gw ?_)) | fail)
        go_roundw
        case rel => exact ⟨k + 1, by omega, by go_num, by rw [HMORE.out]; exact S.sub (by repeat (first | exact Sub.nil _ | refine Sub.cons pk ?_))⟩
        case measure => simp [intOf]; omega
    · obtain rfl : k = m := by omega
      have hki : ¬ (k : Int) < (k : Int) := by omega
      have hsl := sent_len rs k
      have hb3 := B3.out
      have hmm := HM0.out
      obtain ⟨s, hs⟩ : ∃ s, s = (rs.take k).filter rqV := ⟨_, rfl⟩
      rw [← hs] at S hsl
      have hval : ∀ r ∈ s, rqV r = true := fun r hr => by rw [hs] at hr; exact (List.mem_filter.1 hr).2
      have hst := strm_len s
      obtain ⟨q, hq⟩ : ∃ q, q = n % 49 := ⟨_, rfl⟩
      have hq49 : q < 49 := by omega
      have hsm := strm_more s q hq49
      have e1 : (n : Int) % 49 = (q : Int) := by omega
      have e2 : Int.tmod (n : Int) 49 = (q : Int) := by rw [Int.tmod_eq_emod_of_nonneg (by omega), e1]
      have hnn := HN.out
      have e0 : IntKind.i64.wrap (n : Int) = (n : Int) := by rw [IntKind.wrap_i64]; omega
      have e4 : IntKind.i64.wrap (q : Int) = (q : Int) := by rw [IntKind.wrap_i64]; omega
      clear hnn
      have pw := fun w => PE.out ⟨4, tokZ, 0, 0, 0⟩ w
      rw [show encRE ⟨4, tokZ, 0, 0, 0⟩ = encR rq4 from if_pos rq4_v, show rqE ⟨4, tokZ, 0, 0, 0⟩ = 0 from if_pos rq4_v] at pw
      have hwl := rq4_len
      obtain ⟨W, hW⟩ : ∃ W, W = encR rq4 := ⟨_, rfl⟩
      rw [← hW] at pw hwl hsm
      obtain ⟨T, hT⟩ : ∃ T, T = strmL s := ⟨_, rfl⟩
      rw [← hT] at S hst hsm
      have htl : (W.take q).length = q := by rw [List.length_take]; omega
      have hle3 : T.length + (W.take q).length ≤ 140737488355328 := by omega
      have ps := fun v w h => split_a v (T ++ W.take q) w h (by rw [List.length_append]; omega)
      rw [hsm] at ps
      obtain ⟨B, hB⟩ : ∃ B, B = W.take q := ⟨_, rfl⟩
      have hcutB : ∀ (a : Option Addr) (c : Nat) (w : World), Bs w (.slice a 49 c) W → Bs w (.slice (cutA a c 0 1) q c) B := fun a c w h => by
        have := h.cutH q (by omega) (by omega)
        rw [hB]; exact this
      rw [← hB] at hle3 ps
      have hW4 : ∀ (v : Value) (w : World), Bs w v W → ∃ a c, v = .slice a 49 c ∧ 49 ≤ c := fun v w h => by
        obtain ⟨a, c, h1, h2, _⟩ := Sl.shape h
        rw [hwl] at h1 h2
        exact ⟨a, c, h1, h2⟩
      have hq2 : q ≤ 49 := by omega
      clear hs hst hT hmm hb3 hq hq49 hsm hW hwl htl hB
      have PW := Lib.hid pw; have PS := Lib.hid ps; have HVAL := Lib.hid hval; have HLE3 := Lib.hid hle3; have HCUTB := Lib.hid hcutB; have HW4 := Lib.hid hW4; have HSL := Lib.hid hsl; clear pw ps hval hle3 hcutB hW4 hsl
      go_upto_region 22 with (first | ((with_reducible refine iD 64 (.build 69 _) ?_); refine step_buildRq1 _ 4 rfl gw ?_) | (go_at_call 32; (with_reducible refine (PW.out _).mono ?_); rintro e w1 ⟨v65, rfl, T2⟩; replace S := S.call T2; clear T2; (try simp only [z4, z5] at S); obtain ⟨a65, c65, rfl, hc65⟩ := HW4.out _ _ (S.bs (v := v65) (xs := W) pk); have HC65 := Lib.hid hc65; clear hc65) | ((with_reducible refine iD 79 (.slice 25 (.tmp 75) _ _ _) ?_); refine step_cutH 25 5 1 (.tmp 75) _ a65 49 c65 .i64 _ q rfl rfl rfl (Nat.le_trans hq2 HC65.out) Tryd.underlying25 kR gw ?_) | (at_builtin; refine step_append8 S (.tmp 81) (.tmp 82) _ T rfl pk _ B rfl (HCUTB.out _ _ _ (S.bs (v := .slice a65 49 c65) (xs := W) pk)) HLE3.out gw ?_; clear S; intro v83 w S) | ((with_reducible refine iO _ (.load 69 _) ?_); first | (refine step_loadR 69 _ _ _ rfl _ (S.old_range hy) _ Tryd.underlying69 rfl 40 kR lN _ rfl gw ?_) | (refine step_loadP S 69 _ _ _ rfl _ _ _ pk 40 _ pT lN _ Tryd.underlying69 rfl kR gw ?_)) | (go_at_call 30; (with_reducible refine (PS.out _ _ (S.bs (v := v83) (xs := T ++ B) pk)).mono ?_); rintro e w1 ⟨v85, v86, fs, rfl, hp, T⟩; replace S := S.call T; clear T; (try simp only [z4, z5] at S); have HP := Lib.hid hp; clear hp) | ((with_reducible refine iO _ (.convert 25 9 _) ?_); refine step_conv 25 9 5 _ _ _ rfl Tryd.underlying25 Tryd.underlying5 Tryd.underlying9 bS gw ?_) | ((with_reducible refine iO _ (.load 25 _) ?_); refine step_load1 25 _ _ _ rfl (cL) _ Tryd.underlying25 rfl gw ?_) | ((with_reducible refine iD 17 (.alloc 69) ?_); refine step_alloc (dst := some 17) S 69 (.agg ((rqL rqZ).toArray)) ((rqL rqZ).toArray) kR rfl gw ?_; clear S; intro g17 w S) | ((with_reducible refine iO none (.store 69 (.tmp 17) (.tmp 116)) ?_); refine step_store S 69 (.tmp 17) (.tmp 116) _ _ rfl rfl _ _ pk 40 kR lN lN on1 gw ?_; clear S; intro w S) | ((with_reducible refine iO _ (.load 69 _) ?_); first | (refine step_load S 69 _ _ rfl _ _ _ pk _ Tryd.underlying69 rfl 40 kR lN gw ?_) | (refine step_loadO 69 _ _ rfl _ _ _ (S.old_heap (Hid.out (by assumption))) _ Tryd.underlying69 rfl 40 kR lN gw ?_) | (refine step_loadR 69 _ _ _ rfl _ (S.old_range hy) _ Tryd.underlying69 rfl 40 kR lN _ rfl gw ?_)) | fail)
      have hmap := HP.out
      have hlen : fs.length = s.length := by have := congrArg List.length hmap; simpa using this
      obtain ⟨a7, c7, rfl, _, _⟩ := Sl.shape (S.sl (v := u7) pk)
      obtain ⟨a85, c85, rfl, _, _⟩ := Sl.shape (S.sl (v := v85) pk)
      obtain ⟨a86, c86, rfl, _, _⟩ := Sl.shape (S.bs (v := v86) (xs := B) pk)
      have S : Has w0 _ [row (.slice a85 fs.length c85) 25 1 fs.length (fs.map (·.1)), row8 (.slice a86 B.length c86) B, allF fs, row8 (.slice a65 49 c65) W, row (.slice a7 s.length c7) 69 40 s.length (s.flatMap rqL)] := S.sub (by repeat (first | exact Sub.nil _ | refine Sub.cons pk ?_))
      obtain ⟨N, hN⟩ : ∃ N, N = s.length := ⟨_, rfl⟩
      obtain ⟨QQ, hQQ⟩ : ∃ Q, Q = fs.map (·.1) := ⟨_, rfl⟩
      have hqq := hQQ
      have hN0 := hN
      rw [hlen, ← hN, ← hQQ] at S
      rw [hlen, ← hN]
      clear hmap hQQ
      have HLEN := Lib.hid hlen; have HQQ := Lib.hid hqq; have HN0 := Lib.hid hN0; clear hlen hqq hN0
      clear hN
      go_wp2_with (first | ((with_reducible refine iD 101 (.convert 25 9 (.tmp 100)) ?_); refine step_conv 25 9 5 (.tmp 100) _ _ rfl Tryd.underlying25 Tryd.underlying5 Tryd.underlying9 (HCUTB.out _ _ _ (S.bs (v := .slice a65 49 c65) (xs := W) pk)) gw ?_) | ((with_reducible refine iO _ (.load 69 _) ?_); first | (refine step_loadR 69 _ _ _ rfl _ (S.old_range hy) _ Tryd.underlying69 rfl 40 kR lN _ rfl gw ?_) | (refine step_loadP S 69 _ _ _ rfl _ _ _ pk 40 _ pT lN _ Tryd.underlying69 rfl kR gw ?_)) | ((with_reducible refine iO _ (.convert 25 9 _) ?_); refine step_conv 25 9 5 _ _ _ rfl Tryd.underlying25 Tryd.underlying5 Tryd.underlying9 bS gw ?_) | ((with_reducible refine iO _ (.load 25 _) ?_); refine step_load1 25 _ _ _ rfl (cL) _ Tryd.underlying25 rfl gw ?_) | ((with_reducible refine iD 17 (.alloc 69) ?_); refine step_alloc (dst := some 17) S 69 (.agg ((rqL rqZ).toArray)) ((rqL rqZ).toArray) kR rfl gw ?_; clear S; intro g17 w S) | ((with_reducible refine iO none (.store 69 (.tmp 17) (.tmp 116)) ?_); refine step_store S 69 (.tmp 17) (.tmp 116) _ _ rfl rfl _ _ pk 40 kR lN lN on1 gw ?_; clear S; intro w S) | ((with_reducible refine iO _ (.load 69 _) ?_); first | (refine step_load S 69 _ _ rfl _ _ _ pk _ Tryd.underlying69 rfl 40 kR lN gw ?_) | (refine step_loadO 69 _ _ rfl _ _ _ (S.old_heap (Hid.out (by assumption))) _ Tryd.underlying69 rfl 40 kR lN gw ?_) | (refine step_loadR 69 _ _ _ rfl _ (S.old_range hy) _ Tryd.underlying69 rfl 40 kR lN _ rfl gw ?_)) | fail)
      go_loopw [16] (fun u wr => ∃ (k : Nat), k ≤ N ∧ u = .int .i64 (k : Int) ∧ Has w0 wr [row (.slice a85 N c85) 25 1 N QQ, allF fs, row (.slice a7 N c7) 69 40 N (s.flatMap rqL)]) (fun u _ => N - (intOf u).toNat)
      case atStart => exact ⟨0, Nat.zero_le _, rfl, S.sub (by repeat (first | exact Sub.nil _ | refine Sub.cons pk ?_))⟩
      case round =>
        clear S
        obtain ⟨k, hk, rfl, S⟩ := hrel
        by_cases hlt : k < N
        · have hls : k < s.length := by rw [← HN0.out]; exact hlt
          have hlp : k < fs.length := by rw [HLEN.out]; exact hls
          have hr : s[k]? = some s[k] := List.getElem?_eq_getElem hls
          have hpp : fs[k]? = some fs[k] := List.getElem?_eq_getElem hlp
          have hm : fs[k] ∈ fs := List.getElem_mem hlp
          have hq : QQ[k]? = some (fs[k]).1 := by rw [HQQ.out, List.getElem?_map, hpp]; rfl
          have h2 : (fs[k]).2 = encR s[k] := by
            have := congrArg (fun l => l[k]?) HP.out
            simp only [List.getElem?_map, hpp, hr, Option.map_some, Option.some.injEq] at this
            exact this
          have hv := HVAL.out _ (List.getElem_mem hls)
          obtain ⟨p, hpe⟩ : ∃ p, p = fs[k] := ⟨_, rfl⟩
          obtain ⟨r, hre⟩ : ∃ r, r = s[k] := ⟨_, rfl⟩
          rw [← hpe] at hm hq h2
          rw [← hre] at h2 hr hv
          obtain ⟨pv, pb⟩ := p
          dsimp only at hq h2
          subst h2
          have pd := fun v w h => decodeRequest_s v (encR r) w h (by have := (encR_fr r).2.1; omega)
          rw [dcR_encR r hv, dcE_encR r hv] at pd
          obtain ⟨E, hE⟩ : ∃ E, E = encR r := ⟨_, rfl⟩
          rw [← hE] at hm pd
          obtain ⟨gx, cx, hax, _⟩ := S.row_at (v := .slice a85 N c85) pk (by omega)
          simp only [Value.slice.injEq, true_and] at hax
          obtain ⟨rfl, rfl⟩ := hax
          obtain ⟨gy, cy, hay, _⟩ := S.row_at (v := .slice a7 N c7) pk (by omega)
          simp only [Value.slice.injEq, true_and] at hay
          obtain ⟨rfl, rfl⟩ := hay
          have hki : (k : Int) < (N : Int) := by omega
          have hki2 : (k : Int) < 9223372036854775807 := by
            have := S.row_len (a := some ⟨gx, 0, none⟩) (c := c85) (n := N) pk
            omega
          have hne := fun w => neqRq r r w
          simp only [decide_true, Bool.not_true] at hne
          have eg := eqGuardRq
          have hrange : ∀ w, Has w0 w [row (.slice (some ⟨gy, 0, none⟩) N c7) 69 40 N (s.flatMap rqL)] → w.rangeAt gy (k * 40) (rqL r) := fun w S => S.row_range (f := rqL) (n := N) pk rqL_length (by decide) k r hr
          clear hpp hr hpe hre hE hv
          have HM := Lib.hid hm; have HQ := Lib.hid hq; have PD := Lib.hid pd; have HRANGE := Lib.hid hrange; clear hm hq pd hrange
          clear hls hlp
          go_upto_region 28 with (first | ((with_reducible refine iO _ (.load 69 _) ?_); first | (refine step_loadR 69 _ _ _ rfl _ (S.old_range hy) _ Tryd.underlying69 rfl 40 kR lN _ rfl gw ?_) | (refine step_loadP S 69 _ _ _ rfl _ _ _ pk 40 _ pT lN _ Tryd.underlying69 rfl kR gw ?_)) | ((with_reducible refine iO _ (.convert 25 9 _) ?_); refine step_conv 25 9 5 _ _ _ rfl Tryd.underlying25 Tryd.underlying5 Tryd.underlying9 bS gw ?_) | ((with_reducible refine iO _ (.load 25 _) ?_); refine step_load1 25 _ _ _ rfl (cL) _ Tryd.underlying25 rfl gw ?_) | (go_at_call 34; (with_reducible refine (PD.out _ _ (S.piece pk _ HM.out)).mono ?_); rintro e w1 ⟨rfl, T⟩; replace S := S.call T; clear T; (try simp only [z4, z5] at S)) | ((with_reducible refine iD 17 (.alloc 69) ?_); refine step_alloc (dst := some 17) S 69 (.agg ((rqL rqZ).toArray)) ((rqL rqZ).toArray) kR rfl gw ?_; clear S; intro g17 w S) | ((with_reducible refine iO none (.store 69 (.tmp 17) (.tmp 116)) ?_); refine step_store S 69 (.tmp 17) (.tmp 116) _ _ rfl rfl _ _ pk 40 kR lN lN on1 gw ?_; clear S; intro w S) | ((with_reducible refine iO _ (.load 69 _) ?_); first | (refine step_load S 69 _ _ rfl _ _ _ pk _ Tryd.underlying69 rfl 40 kR lN gw ?_) | (refine step_loadO 69 _ _ rfl _ _ _ (S.old_heap (Hid.out (by assumption))) _ Tryd.underlying69 rfl 40 kR lN gw ?_) | (refine step_loadR 69 _ _ _ rfl _ (S.old_range hy) _ Tryd.underlying69 rfl 40 kR lN _ rfl gw ?_)) | fail)
          refine wp_rely S [⟨[], [], [], fun _ v => v = (.int .i64 0), fun _ v => []⟩, ⟨[0], [], [], fun _ v => v = .bool false, fun _ v => []⟩, ⟨[0, 1], [], [], fun _ v => v = (.bool false), fun _ v => []⟩, ⟨[0, 1, 2], [], [], fun _ v => v = .agg (rqL r).toArray, fun _ v => []⟩, ⟨[0, 1, 2], [], [], fun _ v => v = (.slice (some ⟨gy, 0, none⟩) N c7), fun _ v => []⟩, ⟨[0, 1, 2], [], [], fun _ v => v = (.int .i64 (k : Int)), fun _ v => []⟩, ⟨[0, 1, 2, 4, 5], [], [], fun _ v => v = .pointer (some ⟨gy, k * 40, none⟩), fun _ v => []⟩, ⟨[0, 1, 2, 4, 5, 6], [], [], fun _ v => v = .agg (rqL r).toArray, fun _ v => []⟩, ⟨[0, 1, 2, 3, 4, 5, 6, 7], [], [], fun _ v => v = .bool false, fun _ v => []⟩, ⟨[0, 1, 2, 3, 4, 5, 6, 7, 8], [], [], fun _ v => v = .bool false, fun _ v => []⟩] ?A1 ?hA1 kR kR kR [0, 1, 2, 3, 4, 5, 6, 7, 8, 9] kR ?hok1 ?fin1
          case hA1 => intro u; simp only [putAll, List.length_cons, List.length_nil, Nat.zero_add, Nat.reduceAdd, dstAt, List.getElem?_toArray, List.getElem?_cons_zero, List.getElem?_cons_succ, Option.bind_some, Act.put, List.setIfInBounds_toArray, List.set_cons_zero, List.set_cons_succ]; rfl
          case hok1 =>
            intro i hi
            obtain rfl | rfl | rfl | rfl | rfl | rfl | rfl | rfl | rfl | rfl : i = 0 ∨ i = 1 ∨ i = 2 ∨ i = 3 ∨ i = 4 ∨ i = 5 ∨ i = 6 ∨ i = 7 ∨ i = 8 ∨ i = 9 := by simp only [List.length_cons, List.length_nil, Nat.zero_add, Nat.reduceAdd] at hi; omega
            · clear hi
              refine step_of rfl rfl rfl ?_
              intro u G w hf S
              simp only [resOf, spec, RSpec.resAt, z0, z1, z2, z3, z4, z5, z6, z7, ptrBlk] at S ⊢
              simp only [does]
              go_simp
              try first | exact S | exact ⟨vv, S⟩ | exact vv
            · clear hi
              refine step_of rfl rfl rfl ?_
              intro u G w hf S
              have f0 : u 0 = (.int .i64 0) := hf 0 (by simp)
              simp only [resOf, spec, RSpec.resAt, z0, z1, z2, z3, z4, z5, z6, z7, ptrBlk] at S ⊢
              simp only [f0]
              simp only [does]
              go_simp
              try first | exact S | exact ⟨vv, S⟩ | exact vv
            · clear hi
              refine step_of rfl rfl rfl ?_
              intro u G w hf S
              have f1 : u 1 = .bool false := hf 1 (by simp)
              simp only [resOf, spec, RSpec.resAt, z0, z1, z2, z3, z4, z5, z6, z7, ptrBlk] at S ⊢
              simp only [f1]
              simp only [does]
              go_simp
              try first | exact S | exact ⟨vv, S⟩ | exact vv
            · clear hi
              refine step_of_g rfl rfl ?_
              intro u G w hf S
              have f2 : u 2 = (.bool false) := hf 2 (by simp)
              simp only [resOf, spec, RSpec.resAt, z0, z1, z2, z3, z4, z5, z6, z7, ptrBlk] at S ⊢
              simp only [f2]
              refine ⟨rfl, ?_⟩
              refine does_load 69 (.tmp 17) g17 rfl _ _ _ (S.get (r := blk g17 _) pk) _ Tryd.underlying69 rfl 40 kR lN ?_; exact ⟨rfl, S⟩
            · clear hi
              refine step_of_g rfl rfl ?_
              intro u G w hf S
              have f2 : u 2 = (.bool false) := hf 2 (by simp)
              simp only [resOf, spec, RSpec.resAt, z0, z1, z2, z3, z4, z5, z6, z7, ptrBlk] at S ⊢
              simp only [f2]
              refine ⟨rfl, ?_⟩
              simp only [does]
              go_simp
              try first | exact S | exact ⟨vv, S⟩ | exact vv
            · clear hi
              refine step_of_g rfl rfl ?_
              intro u G w hf S
              have f2 : u 2 = (.bool false) := hf 2 (by simp)
              simp only [resOf, spec, RSpec.resAt, z0, z1, z2, z3, z4, z5, z6, z7, ptrBlk] at S ⊢
              simp only [f2]
              refine ⟨rfl, ?_⟩
              simp only [does]
              go_simp
              try first | exact S | exact ⟨vv, S⟩ | exact vv
            · clear hi
              refine step_of_g rfl rfl ?_
              intro u G w hf S
              have f2 : u 2 = (.bool false) := hf 2 (by simp)
              have f4 : u 4 = (.slice (some ⟨gy, 0, none⟩) N c7) := hf 4 (by simp)
              have f5 : u 5 = (.int .i64 (k : Int)) := hf 5 (by simp)
              simp only [resOf, spec, RSpec.resAt, z0, z1, z2, z3, z4, z5, z6, z7, ptrBlk] at S ⊢
              simp only [f2, f4, f5]
              refine ⟨rfl, ?_⟩
              simp only [does]
              go_simp
              try first | exact S | exact ⟨vv, S⟩ | exact vv
            · clear hi
              refine step_of_g rfl rfl ?_
              intro u G w hf S
              have f2 : u 2 = (.bool false) := hf 2 (by simp)
              have f6 : u 6 = .pointer (some ⟨gy, k * 40, none⟩) := hf 6 (by simp)
              simp only [resOf, spec, RSpec.resAt, z0, z1, z2, z3, z4, z5, z6, z7, ptrBlk] at S ⊢
              simp only [f2, f6]
              refine ⟨rfl, ?_⟩
              refine does_loadR 69 (.tmp 124) _ _ rfl _ (HRANGE.out w (S.sub (by repeat (first | exact Sub.nil _ | refine Sub.cons pk ?_)))) _ Tryd.underlying69 rfl 40 kR (rqL_length _) _ rfl ?_; exact ⟨rfl, S⟩
            · clear hi
              refine step_of_g rfl rfl ?_
              intro u G w hf S
              have f2 : u 2 = (.bool false) := hf 2 (by simp)
              have f3 : u 3 = .agg (rqL r).toArray := hf 3 (by simp)
              have f7 : u 7 = .agg (rqL r).toArray := hf 7 (by simp)
              simp only [resOf, spec, RSpec.resAt, z0, z1, z2, z3, z4, z5, z6, z7, ptrBlk] at S ⊢
              simp only [f2, f3, f7]
              refine ⟨rfl, ?_⟩
              simp only [does]
              go_simp
              try first | exact S | exact ⟨vv, S⟩ | exact vv
            · clear hi
              refine step_of rfl rfl rfl ?_
              intro u G w hf S
              have f2 : u 2 = (.bool false) := hf 2 (by simp)
              have f8 : u 8 = .bool false := hf 8 (by simp)
              simp only [resOf, spec, RSpec.resAt, z0, z1, z2, z3, z4, z5, z6, z7, ptrBlk] at S ⊢
              simp only [f2, f8]
              simp only [does]
              go_simp
              try first | exact S | exact ⟨vv, S⟩ | exact vv
          case fin1 =>
            intro u w hf S
            have f0 : u 0 = (.int .i64 0) := hf 0 (by simp)
            have f1 : u 1 = .bool false := hf 1 (by simp)
            have f2 : u 2 = (.bool false) := hf 2 (by simp)
            have f3 : u 3 = .agg (rqL r).toArray := hf 3 (by simp)
            have f4 : u 4 = (.slice (some ⟨gy, 0, none⟩) N c7) := hf 4 (by simp)
            have f5 : u 5 = (.int .i64 (k : Int)) := hf 5 (by simp)
            have f6 : u 6 = .pointer (some ⟨gy, k * 40, none⟩) := hf 6 (by simp)
            have f7 : u 7 = .agg (rqL r).toArray := hf 7 (by simp)
            have f8 : u 8 = .bool false := hf 8 (by simp)
            have f9 : u 9 = .bool false := hf 9 (by simp)
            simp only [resOf, spec, RSpec.resAt, z0, z1, z2, z3, z4, z5, z6, z7, ptrBlk] at S
            clear hf
            simp only [List.length_cons, List.length_nil, Nat.zero_add, Nat.reduceAdd, List.drop_succ_cons, List.drop_zero, f0, f1, f2, f3, f4, f5, f6, f7, f8, f9]
            clear f0 f1 f2 f3 f4 f5 f6 f7 f8 f9
            clear hne eg
            go_wp2_with (first | ((with_reducible refine iO _ (.load 69 _) ?_); first | (refine step_loadR 69 _ _ _ rfl _ (S.old_range hy) _ Tryd.underlying69 rfl 40 kR lN _ rfl gw ?_) | (refine step_loadP S 69 _ _ _ rfl _ _ _ pk 40 _ pT lN _ Tryd.underlying69 rfl kR gw ?_)) | ((with_reducible refine iO _ (.convert 25 9 _) ?_); refine step_conv 25 9 5 _ _ _ rfl Tryd.underlying25 Tryd.underlying5 Tryd.underlying9 bS gw ?_) | ((with_reducible refine iO _ (.load 25 _) ?_); refine step_load1 25 _ _ _ rfl (cL) _ Tryd.underlying25 rfl gw ?_) | ((with_reducible refine iD 17 (.alloc 69) ?_); refine step_alloc (dst := some 17) S 69 (.agg ((rqL rqZ).toArray)) ((rqL rqZ).toArray) kR rfl gw ?_; clear S; intro g17 w S) | ((with_reducible refine iO none (.store 69 (.tmp 17) (.tmp 116)) ?_); refine step_store S 69 (.tmp 17) (.tmp 116) _ _ rfl rfl _ _ pk 40 kR lN lN on1 gw ?_; clear S; intro w S) | ((with_reducible refine iO _ (.load 69 _) ?_); first | (refine step_load S 69 _ _ rfl _ _ _ pk _ Tryd.underlying69 rfl 40 kR lN gw ?_) | (refine step_loadO 69 _ _ rfl _ _ _ (S.old_heap (Hid.out (by assumption))) _ Tryd.underlying69 rfl 40 kR lN gw ?_) | (refine step_loadR 69 _ _ _ rfl _ (S.old_range hy) _ Tryd.underlying69 rfl 40 kR lN _ rfl gw ?_)) | fail)
            go_roundw
            case rel => exact ⟨k + 1, by omega, by go_num, S.sub (by repeat (first | exact Sub.nil _ | refine Sub.cons pk ?_))⟩
            case measure => simp [intOf]; omega
        · obtain rfl : k = N := by omega
          have hki : ¬ (k : Int) < (k : Int) := by omega
          go_wp2_with (first | ((with_reducible refine iO _ (.load 69 _) ?_); first | (refine step_loadR 69 _ _ _ rfl _ (S.old_range hy) _ Tryd.underlying69 rfl 40 kR lN _ rfl gw ?_) | (refine step_loadP S 69 _ _ _ rfl _ _ _ pk 40 _ pT lN _ Tryd.underlying69 rfl kR gw ?_)) | ((with_reducible refine iO _ (.convert 25 9 _) ?_); refine step_conv 25 9 5 _ _ _ rfl Tryd.underlying25 Tryd.underlying5 Tryd.underlying9 bS gw ?_) | ((with_reducible refine iO _ (.load 25 _) ?_); refine step_load1 25 _ _ _ rfl (cL) _ Tryd.underlying25 rfl gw ?_) | ((with_reducible refine iD 17 (.alloc 69) ?_); refine step_alloc (dst := some 17) S 69 (.agg ((rqL rqZ).toArray)) ((rqL rqZ).toArray) kR rfl gw ?_; clear S; intro g17 w S) | ((with_reducible refine iO none (.store 69 (.tmp 17) (.tmp 116)) ?_); refine step_store S 69 (.tmp 17) (.tmp 116) _ _ rfl rfl _ _ pk 40 kR lN lN on1 gw ?_; clear S; intro w S) | ((with_reducible refine iO _ (.load 69 _) ?_); first | (refine step_load S 69 _ _ rfl _ _ _ pk _ Tryd.underlying69 rfl 40 kR lN gw ?_) | (refine step_loadO 69 _ _ rfl _ _ _ (S.old_heap (Hid.out (by assumption))) _ Tryd.underlying69 rfl 40 kR lN gw ?_) | (refine step_loadR 69 _ _ _ rfl _ (S.old_range hy) _ Tryd.underlying69 rfl 40 kR lN _ rfl gw ?_)) | fail)
          go_ret
          exact ⟨rfl, S.nil⟩
end Go.Proofs.YtfhkmmagpnojmaaDoor
