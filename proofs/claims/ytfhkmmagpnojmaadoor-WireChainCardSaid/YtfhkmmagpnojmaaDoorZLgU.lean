/- The records of a log from a number on: the program's and the reference's. No condition but the reach. -/
import Derived.Test.YtfhkmmagpnojmaaDoorZBd
import Derived.Test.YtfhkmmagpnojmaaDoorZLgT
set_option linter.unusedSimpArgs false
set_option linter.unusedVariables false
namespace Go.Proofs.YtfhkmmagpnojmaaDoor
open Go.RowKit

set_option maxRecDepth 100000 in
set_option maxHeartbeats 1000000 in
theorem cloneRc_s (v : Value) (l : List Rcd) (w0 : World) (h : Sl w0 35 v l.length (l.flatMap rcdL)) (hl : l.length * 56 ≤ 140737488355328) :
    Calls Tryd.prog 54 #[v] w0 (MadeRc w0 l) := by
  have S := Has.start w0
  obtain ⟨a, c, rfl, hc1, hc2⟩ := Sl.shape h
  have e1 := @Lib.run_eql_slice_nil Tryd.prog
  cases a with
  | none =>
    obtain ⟨hn, hc, hx⟩ := Sl.empty h
    have hx' : l = [] := List.eq_nil_of_length_eq_zero hn
    subst hx'
    subst hc
    clear hx hn hc1 hc2 h
    go_enter Tryd.func54, Tryd.ntmps54
    go_wp2
    go_ret
    exact ⟨_, rfl, S.nilRc⟩
  | some ad =>
    have hle : ((([] : List Rcd).length + l.length) * 56) ≤ 140737488355328 := by simpa using hl
    have H := Lib.hid h; have HLE := Lib.hid hle; clear h hle
    go_enter Tryd.func54, Tryd.ntmps54
    go_wp2_with (first | ((with_reducible refine iD 5 (.buildSlice 31 0 _) ?_); refine step_build0 S 31 50 Tryd.underlying31 35 kR rfl ?_; clear S; intro v5 w S; replace S : Has w0 w [rowRc v5 []] := S) | (at_builtin; refine step_appendRc S (.tmp 5) (.tmp 6) _ _ rfl pk _ _ rfl sL lE rfl ?_; clear S; intro v7 w S; (try simp only [z4] at S)) | fail)
    go_ret
    exact ⟨_, rfl, S⟩
/-- How many records are left out. -/
def skipN (C n first : Nat) : Nat := min (max first (C - n) - (C - n)) n
theorem sinceR_ok (g : Lg) (first : UInt32) (h : lgV g = true) : sinceR g first = g.recs.drop (skipN g.cnt.toNat g.recs.length first.toNat) := if_pos h
theorem sinceR_bad (g : Lg) (first : UInt32) (h : lgV g = false) : sinceR g first = [] := if_neg (by rw [h]; decide)
def MadeRcE (w : World) (l : List Rcd) (E : Int) (e : Ending) (w' : World) : Prop := ∃ v, e = .returned (.tuple #[v, .int .i64 E]) ∧ Has w w' [rowRc v l]
set_option maxRecDepth 100000 in
set_option maxHeartbeats 8000000 in
theorem since_s (g : Lg) (rv : Value) (first : UInt32) (w0 : World) (hr : Sl w0 35 rv g.recs.length (g.recs.flatMap rcdL)) :
    Calls Tryd.prog 26 #[.agg (lgL g rv).toArray, .int .u32 (first.toNat : Int)] w0 (MadeRcE w0 (sinceR g first) (lgE g)) := by
  have S := Has.start w0
  obtain ⟨a0, c0, rfl, k1, k2⟩ := Sl.shape hr
  unfold maxLen at k2
  have pc := fun w h => checkLog_s g (.slice a0 g.recs.length c0) w h
  have q0 := lgL_0 g (.slice a0 g.recs.length c0)
  have q33 := lgL_33 g (.slice a0 g.recs.length c0)
  cases hv : lgV g with
  | false =>
    have hE : lgE g = 8 := if_neg (by rw [hv]; decide)
    rw [sinceR_bad g first hv, hE]
    rw [hE] at pc
    have PC := Lib.hid pc; have HR := Lib.hid hr; have Q0 := Lib.hid q0; have Q33 := Lib.hid q33; clear pc hr q0 q33
    clear hE hv
    go_enter Tryd.func26, Tryd.ntmps26
    go_wp2_with (first | ((with_reducible refine iD 2 (.box 40 (.tmp 0)) ?_); refine step_boxA (dst := some 2) S 40 (.tmp 0) _ rfl rfl ?_; clear S; intro g2 w S) | ((with_reducible refine iO _ (.load 40 _) ?_); first | (refine step_load S 40 _ _ rfl _ _ _ pk _ Tryd.underlying40 rfl 34 kR lN rfl ?_) | (refine step_loadO 40 _ _ rfl _ _ _ (S.old_heap (Hid.out (by assumption))) _ Tryd.underlying40 rfl 34 kR lN rfl ?_) | (refine step_loadR 40 _ _ _ rfl _ (S.old_range hy) _ Tryd.underlying40 rfl 34 kR lN _ rfl rfl ?_)) | (go_at_call 23; (with_reducible refine (PC.out _ (S.old HR.out)).mono ?_); rintro e w1 ⟨rfl, T⟩; replace S := S.call T; clear T; (try simp only [z4, z5] at S)) | ((with_reducible refine iO _ (.load 38 _) ?_); refine step_load1 38 _ _ _ rfl (cL) _ Tryd.underlying38 rfl rfl ?_) | ((with_reducible refine iO _ (.load 31 _) ?_); refine step_load1 31 _ _ _ rfl (cL) _ Tryd.underlying31 rfl rfl ?_) | ((with_reducible refine iO _ (.slice 31 _ _ _ _) ?_); refine step_cutL 31 50 35 _ _ _ _ _ _ _ _ rfl rfl (by first | rfl | omega) (by first | (first | omega | assumption | (exact Hid.out (by assumption)) | (simp only [List.length_append, List.length_cons, List.length_nil]; omega)) | decide) Tryd.underlying31 kR rfl ?_) | fail)
    go_ret2
    exact ⟨_, rfl, S.nil.nilRc⟩
  | true =>
  have hE : lgE g = 0 := if_pos hv
  have hn := (lgV_parts g hv).1
  rw [sinceR_ok g first hv, hE]
  rw [hE] at pc
  have hcl := g.cnt.toNat_lt
  have hfl := first.toNat_lt
  obtain ⟨l, hl⟩ : ∃ l, l = g.recs := ⟨_, rfl⟩
  rw [← hl] at hr pc q0 q33 hn k1 ⊢
  obtain ⟨C, hC⟩ : ∃ C, C = g.cnt.toNat := ⟨_, rfl⟩
  rw [← hC] at q0 hcl hn ⊢
  obtain ⟨F, hF⟩ : ∃ F, F = first.toNat := ⟨_, rfl⟩
  rw [← hF] at hfl ⊢
  obtain ⟨s, hs⟩ : ∃ s, s = skipN C l.length F := ⟨_, rfl⟩
  rw [← hs]
  have hsl : s ≤ l.length := by rw [hs]; unfold skipN; omega
  have hcut : Sl w0 35 (.slice (cutA a0 c0 s 35) (l.length - s) (c0 - s)) (l.length - s) ((l.drop s).flatMap rcdL) := by
    have := Sl.cut hr s (l.length - s) (by omega)
    rw [drop_flat rcdL 35 rcdL_length, List.take_of_length_le (by rw [flat_len rcdL 35 rcdL_length, List.length_drop]; exact Nat.le_refl _)] at this
    exact this
  have hdl : (l.drop s).length = l.length - s := by simp
  rw [← hdl] at hcut
  have pk := fun w h => cloneRc_s (.slice (cutA a0 c0 s 35) (l.drop s).length (c0 - s)) (l.drop s) w h (by omega)
  rw [hdl] at hcut pk
  obtain ⟨M, hM⟩ : ∃ M, M = l.drop s := ⟨_, rfl⟩
  rw [← hM] at hcut pk ⊢
  obtain ⟨B, hB⟩ : ∃ B, B = C - l.length := ⟨_, rfl⟩
  obtain ⟨n, hnn⟩ : ∃ n, n = l.length := ⟨_, rfl⟩
  rw [← hnn] at hr pc q0 q33 hn k1 hsl hcut pk hB hs ⊢
  have e1 : IntKind.u32.wrap (n : Int) = (n : Int) := by rw [IntKind.wrap_u32]; omega
  have e2 : IntKind.u32.wrap ((C : Int) - (n : Int)) = (B : Int) := by rw [IntKind.wrap_u32]; omega
  have e3 : (n : Int) % 4294967296 = (n : Int) := by omega
  clear hE hv hl hC hF hdl hM hnn
  rcases Nat.lt_or_ge B F with h1 | h1
  · obtain ⟨D, hD⟩ : ∃ D, D = F - B := ⟨_, rfl⟩
    have e4 : IntKind.u32.wrap ((F : Int) - (B : Int)) = (D : Int) := by rw [IntKind.wrap_u32]; omega
    have i1 : (B : Int) < (F : Int) := by omega
    have i2 : ¬ (F : Int) < (B : Int) := by omega
    have i3 : ¬ (F : Int) ≤ (B : Int) := by omega
    have i7 : (B : Int) ≤ (F : Int) := by omega
    rcases Nat.lt_or_ge D n with h2 | h2
    · have hsD : s = D := by rw [hs]; unfold skipN; omega
      subst hsD
      have i4 : (s : Int) < (n : Int) := by omega
      have i5 : ¬ (n : Int) < (s : Int) := by omega
      have i6 : (s : Int) ≤ (n : Int) := by omega
      have PC := Lib.hid pc; have HR := Lib.hid hr; have Q0 := Lib.hid q0; have Q33 := Lib.hid q33; have HCUT := Lib.hid hcut; have PK := Lib.hid pk; have HCL := Lib.hid hcl; have HFL := Lib.hid hfl; have HN := Lib.hid hn; have HS := Lib.hid hs; have HD := Lib.hid hD; have HB := Lib.hid hB; clear pc hr q0 q33 hcut pk hcl hfl hn hs hD hB
      go_enter Tryd.func26, Tryd.ntmps26
      go_wp2_with (first | ((with_reducible refine iD 34 (.slice 31 (.tmp 32) _ _ _) ?_); refine step_cutL 31 50 35 (.tmp 32) _ _ _ _ _ _ s rfl rfl rfl hsl Tryd.underlying31 kR gw ?_) | ((with_reducible refine iD 2 (.box 40 (.tmp 0)) ?_); refine step_boxA (dst := some 2) S 40 (.tmp 0) _ rfl rfl ?_; clear S; intro g2 w S) | ((with_reducible refine iO _ (.load 40 _) ?_); first | (refine step_load S 40 _ _ rfl _ _ _ pk _ Tryd.underlying40 rfl 34 kR lN rfl ?_) | (refine step_loadO 40 _ _ rfl _ _ _ (S.old_heap (Hid.out (by assumption))) _ Tryd.underlying40 rfl 34 kR lN rfl ?_) | (refine step_loadR 40 _ _ _ rfl _ (S.old_range hy) _ Tryd.underlying40 rfl 34 kR lN _ rfl rfl ?_)) | (go_at_call 23; (with_reducible refine (PC.out _ (S.old HR.out)).mono ?_); rintro e w1 ⟨rfl, T⟩; replace S := S.call T; clear T; (try simp only [z4, z5] at S)) | ((with_reducible refine iO _ (.load 38 _) ?_); refine step_load1 38 _ _ _ rfl (cL) _ Tryd.underlying38 rfl rfl ?_) | ((with_reducible refine iO _ (.load 31 _) ?_); refine step_load1 31 _ _ _ rfl (cL) _ Tryd.underlying31 rfl rfl ?_) | (go_at_call 54; (with_reducible refine (PK.out _ (S.old HCUT.out)).mono ?_); rintro e w1 ⟨v35, rfl, T⟩; replace S := S.call T; clear T; (try simp only [z4, z5] at S)) | fail)
      go_ret2
      exact ⟨_, rfl, S.sub (by repeat (first | exact Sub.nil _ | refine Sub.cons pk ?_))⟩
    · have hsD : s = n := by rw [hs]; unfold skipN; omega
      subst hsD
      rw [Nat.sub_self] at hcut pk
      have i4 : ¬ (D : Int) < (s : Int) := by omega
      have i6 : (s : Int) ≤ (D : Int) := by omega
      have i5 : (D : Int) = (s : Int) ∨ (s : Int) < (D : Int) := by omega
      rcases i5 with i5 | i5
      · rw [i5] at e4
        clear i5 i4 i6
        have PC := Lib.hid pc; have HR := Lib.hid hr; have Q0 := Lib.hid q0; have Q33 := Lib.hid q33; have HCUT := Lib.hid hcut; have PK := Lib.hid pk; have HCL := Lib.hid hcl; have HFL := Lib.hid hfl; have HN := Lib.hid hn; have HS := Lib.hid hs; have HD := Lib.hid hD; have HB := Lib.hid hB; clear pc hr q0 q33 hcut pk hcl hfl hn hs hD hB
        go_enter Tryd.func26, Tryd.ntmps26
        go_wp2_with (first | ((with_reducible refine iD 34 (.slice 31 (.tmp 32) _ _ _) ?_); refine step_cutL 31 50 35 (.tmp 32) _ _ _ _ _ _ s rfl rfl rfl hsl Tryd.underlying31 kR gw ?_) | ((with_reducible refine iD 2 (.box 40 (.tmp 0)) ?_); refine step_boxA (dst := some 2) S 40 (.tmp 0) _ rfl rfl ?_; clear S; intro g2 w S) | ((with_reducible refine iO _ (.load 40 _) ?_); first | (refine step_load S 40 _ _ rfl _ _ _ pk _ Tryd.underlying40 rfl 34 kR lN rfl ?_) | (refine step_loadO 40 _ _ rfl _ _ _ (S.old_heap (Hid.out (by assumption))) _ Tryd.underlying40 rfl 34 kR lN rfl ?_) | (refine step_loadR 40 _ _ _ rfl _ (S.old_range hy) _ Tryd.underlying40 rfl 34 kR lN _ rfl rfl ?_)) | (go_at_call 23; (with_reducible refine (PC.out _ (S.old HR.out)).mono ?_); rintro e w1 ⟨rfl, T⟩; replace S := S.call T; clear T; (try simp only [z4, z5] at S)) | ((with_reducible refine iO _ (.load 38 _) ?_); refine step_load1 38 _ _ _ rfl (cL) _ Tryd.underlying38 rfl rfl ?_) | ((with_reducible refine iO _ (.load 31 _) ?_); refine step_load1 31 _ _ _ rfl (cL) _ Tryd.underlying31 rfl rfl ?_) | (go_at_call 54; (with_reducible refine (PK.out _ (S.old HCUT.out)).mono ?_); rintro e w1 ⟨v35, rfl, T⟩; replace S := S.call T; clear T; (try simp only [z4, z5] at S)) | fail)
        go_ret2
        exact ⟨_, rfl, S.sub (by repeat (first | exact Sub.nil _ | refine Sub.cons pk ?_))⟩
      · have i8 : ¬ (D : Int) ≤ (s : Int) := by omega
        have PC := Lib.hid pc; have HR := Lib.hid hr; have Q0 := Lib.hid q0; have Q33 := Lib.hid q33; have HCUT := Lib.hid hcut; have PK := Lib.hid pk; have HCL := Lib.hid hcl; have HFL := Lib.hid hfl; have HN := Lib.hid hn; have HS := Lib.hid hs; have HD := Lib.hid hD; have HB := Lib.hid hB; clear pc hr q0 q33 hcut pk hcl hfl hn hs hD hB
        go_enter Tryd.func26, Tryd.ntmps26
        go_wp2_with (first | ((with_reducible refine iD 34 (.slice 31 (.tmp 32) _ _ _) ?_); refine step_cutL 31 50 35 (.tmp 32) _ _ _ _ _ _ s rfl rfl rfl hsl Tryd.underlying31 kR gw ?_) | ((with_reducible refine iD 2 (.box 40 (.tmp 0)) ?_); refine step_boxA (dst := some 2) S 40 (.tmp 0) _ rfl rfl ?_; clear S; intro g2 w S) | ((with_reducible refine iO _ (.load 40 _) ?_); first | (refine step_load S 40 _ _ rfl _ _ _ pk _ Tryd.underlying40 rfl 34 kR lN rfl ?_) | (refine step_loadO 40 _ _ rfl _ _ _ (S.old_heap (Hid.out (by assumption))) _ Tryd.underlying40 rfl 34 kR lN rfl ?_) | (refine step_loadR 40 _ _ _ rfl _ (S.old_range hy) _ Tryd.underlying40 rfl 34 kR lN _ rfl rfl ?_)) | (go_at_call 23; (with_reducible refine (PC.out _ (S.old HR.out)).mono ?_); rintro e w1 ⟨rfl, T⟩; replace S := S.call T; clear T; (try simp only [z4, z5] at S)) | ((with_reducible refine iO _ (.load 38 _) ?_); refine step_load1 38 _ _ _ rfl (cL) _ Tryd.underlying38 rfl rfl ?_) | ((with_reducible refine iO _ (.load 31 _) ?_); refine step_load1 31 _ _ _ rfl (cL) _ Tryd.underlying31 rfl rfl ?_) | (go_at_call 54; (with_reducible refine (PK.out _ (S.old HCUT.out)).mono ?_); rintro e w1 ⟨v35, rfl, T⟩; replace S := S.call T; clear T; (try simp only [z4, z5] at S)) | fail)
        go_ret2
        exact ⟨_, rfl, S.sub (by repeat (first | exact Sub.nil _ | refine Sub.cons pk ?_))⟩
  · have hsD : s = 0 := by rw [hs]; unfold skipN; omega
    subst hsD
    have i4 : ¬ (n : Int) < 0 := by omega
    have i6 : 0 ≤ (n : Int) := by omega
    simp only [Nat.sub_zero] at hcut pk
    rcases Nat.lt_or_ge F B with h2 | h2
    · have i1 : (F : Int) < (B : Int) := by omega
      have i2 : ¬ (B : Int) < (F : Int) := by omega
      have i3 : (F : Int) ≤ (B : Int) := by omega
      have PC := Lib.hid pc; have HR := Lib.hid hr; have Q0 := Lib.hid q0; have Q33 := Lib.hid q33; have HCUT := Lib.hid hcut; have PK := Lib.hid pk; have HCL := Lib.hid hcl; have HFL := Lib.hid hfl; have HN := Lib.hid hn; have HS := Lib.hid hs; have HB := Lib.hid hB; clear pc hr q0 q33 hcut pk hcl hfl hn hs hB
      go_enter Tryd.func26, Tryd.ntmps26
      go_wp2_with (first | ((with_reducible refine iD 34 (.slice 31 (.tmp 32) _ _ _) ?_); refine step_cutL 31 50 35 (.tmp 32) _ a0 n c0 .u32 0 0 rfl rfl rfl hsl Tryd.underlying31 kR gw ?_) | ((with_reducible refine iD 2 (.box 40 (.tmp 0)) ?_); refine step_boxA (dst := some 2) S 40 (.tmp 0) _ rfl rfl ?_; clear S; intro g2 w S) | ((with_reducible refine iO _ (.load 40 _) ?_); first | (refine step_load S 40 _ _ rfl _ _ _ pk _ Tryd.underlying40 rfl 34 kR lN rfl ?_) | (refine step_loadO 40 _ _ rfl _ _ _ (S.old_heap (Hid.out (by assumption))) _ Tryd.underlying40 rfl 34 kR lN rfl ?_) | (refine step_loadR 40 _ _ _ rfl _ (S.old_range hy) _ Tryd.underlying40 rfl 34 kR lN _ rfl rfl ?_)) | (go_at_call 23; (with_reducible refine (PC.out _ (S.old HR.out)).mono ?_); rintro e w1 ⟨rfl, T⟩; replace S := S.call T; clear T; (try simp only [z4, z5] at S)) | ((with_reducible refine iO _ (.load 38 _) ?_); refine step_load1 38 _ _ _ rfl (cL) _ Tryd.underlying38 rfl rfl ?_) | ((with_reducible refine iO _ (.load 31 _) ?_); refine step_load1 31 _ _ _ rfl (cL) _ Tryd.underlying31 rfl rfl ?_) | (go_at_call 54; (with_reducible refine (PK.out _ (S.old HCUT.out)).mono ?_); rintro e w1 ⟨v35, rfl, T⟩; replace S := S.call T; clear T; (try simp only [z4, z5] at S)) | fail)
      go_ret2
      exact ⟨_, rfl, S.sub (by repeat (first | exact Sub.nil _ | refine Sub.cons pk ?_))⟩
    · obtain rfl : F = B := by omega
      have PC := Lib.hid pc; have HR := Lib.hid hr; have Q0 := Lib.hid q0; have Q33 := Lib.hid q33; have HCUT := Lib.hid hcut; have PK := Lib.hid pk; have HCL := Lib.hid hcl; have HFL := Lib.hid hfl; have HN := Lib.hid hn; have HS := Lib.hid hs; have HB := Lib.hid hB; clear pc hr q0 q33 hcut pk hcl hfl hn hs hB
      go_enter Tryd.func26, Tryd.ntmps26
      go_wp2_with (first | ((with_reducible refine iD 34 (.slice 31 (.tmp 32) _ _ _) ?_); refine step_cutL 31 50 35 (.tmp 32) _ a0 n c0 .u32 0 0 rfl rfl rfl hsl Tryd.underlying31 kR gw ?_) | ((with_reducible refine iD 2 (.box 40 (.tmp 0)) ?_); refine step_boxA (dst := some 2) S 40 (.tmp 0) _ rfl rfl ?_; clear S; intro g2 w S) | ((with_reducible refine iO _ (.load 40 _) ?_); first | (refine step_load S 40 _ _ rfl _ _ _ pk _ Tryd.underlying40 rfl 34 kR lN rfl ?_) | (refine step_loadO 40 _ _ rfl _ _ _ (S.old_heap (Hid.out (by assumption))) _ Tryd.underlying40 rfl 34 kR lN rfl ?_) | (refine step_loadR 40 _ _ _ rfl _ (S.old_range hy) _ Tryd.underlying40 rfl 34 kR lN _ rfl rfl ?_)) | (go_at_call 23; (with_reducible refine (PC.out _ (S.old HR.out)).mono ?_); rintro e w1 ⟨rfl, T⟩; replace S := S.call T; clear T; (try simp only [z4, z5] at S)) | ((with_reducible refine iO _ (.load 38 _) ?_); refine step_load1 38 _ _ _ rfl (cL) _ Tryd.underlying38 rfl rfl ?_) | ((with_reducible refine iO _ (.load 31 _) ?_); refine step_load1 31 _ _ _ rfl (cL) _ Tryd.underlying31 rfl rfl ?_) | (go_at_call 54; (with_reducible refine (PK.out _ (S.old HCUT.out)).mono ?_); rintro e w1 ⟨v35, rfl, T⟩; replace S := S.call T; clear T; (try simp only [z4, z5] at S)) | fail)
      go_ret2
      exact ⟨_, rfl, S.sub (by repeat (first | exact Sub.nil _ | refine Sub.cons pk ?_))⟩
end Go.Proofs.YtfhkmmagpnojmaaDoor
