/- The program's Verify. No condition but the table of constants and the reach. -/
import Derived.Test.YtfhkmmagpnojmaaDoorZBd
import Derived.Test.YtfhkmmagpnojmaaDoorZVer
set_option linter.unusedSimpArgs false
set_option linter.unusedVariables false
namespace Go.Proofs.YtfhkmmagpnojmaaDoor
open Go.RowKit

/-- How many records hold, one after another, from a previous link on. -/
def vfN (prev : List UInt8) : List Rcd → List (List UInt8) → Nat
  | x :: xs, b :: bs => if lnkD prev x.tick x.kind x.code b = x.link then 1 + vfN x.link xs bs else 0
  | _, _ => 0
def vfR (prev : List UInt8) (l : List Rcd) (bs : List (List UInt8)) : Nat × Int :=
  if 32 < l.length then (0, 4) else if bs.length ≠ l.length then (0, 2) else if chV l = false then (0, 8) else if (bs.any fun b => decide (64 < b.length)) = true then (0, 4) else (vfN prev l bs, 0)
abbrev cdV (x : Rcd) : Int := x.code.v
theorem vfN_step (L : List UInt8) (l : List Rcd) (bs : List (List UInt8)) (k : Nat) (x : Rcd) (b : List UInt8) (hx : l[k]? = some x) (hb : bs[k]? = some b) :
    vfN L (l.drop k) (bs.drop k) = if lnkD L x.tick x.kind x.code b = x.link then 1 + vfN x.link (l.drop (k + 1)) (bs.drop (k + 1)) else 0 := by
  obtain ⟨h1, rfl⟩ := List.getElem?_eq_some_iff.1 hx
  obtain ⟨h2, rfl⟩ := List.getElem?_eq_some_iff.1 hb
  rw [List.drop_eq_getElem_cons h1, List.drop_eq_getElem_cons h2]
  rfl
set_option maxRecDepth 100000 in
set_option maxHeartbeats 8000000 in
theorem verify_s (prev : List UInt8) (rv fv : Value) (l : List Rcd) (ps : List (Value × List UInt8)) (w0 : World) (hp : prev.length = 32) (hr : Sl w0 35 rv l.length (l.flatMap rcdL)) (hf : Fr w0 fv ps) (hK : KT w0) :
    Calls Tryd.prog 18 #[.agg (arr8 prev), rv, fv] w0 fun e w' => e = .returned (.tuple #[.int .i64 ((vfR prev l (ps.map (·.2))).1 : Int), .int .i64 (vfR prev l (ps.map (·.2))).2]) ∧ Has w0 w' [] := by
  have S := Has.start w0
  obtain ⟨a0, c0, rfl, k1, k2⟩ := Sl.shape hr
  obtain ⟨a1, c1, rfl, k3, k4⟩ := Sl.shape hf.1
  unfold maxLen at k2 k4
  by_cases h1 : 32 < l.length
  · rw [show vfR prev l (ps.map (·.2)) = (0, 4) from if_pos h1]
    have i1 : 32 < (l.length : Int) := by omega
    have HR := Lib.hid hr; have HF := Lib.hid hf; have HK := Lib.hid hK; clear hr hf hK
    go_enter Tryd.func18, Tryd.ntmps18
    go_wp2_with (first | ((with_reducible refine iD 3 (.box 22 (.tmp 0)) ?_); refine step_boxA (dst := some 3) S 22 (.tmp 0) _ rfl gw ?_; clear S; intro g3 w S) | ((with_reducible refine iO _ (.load 50 _) ?_); first | (refine step_loadR 50 _ _ _ rfl _ (S.old_range hy) _ Tryd.underlying50 rfl 35 kR lN _ rfl gw ?_) | (refine step_loadP S 50 _ _ _ rfl _ _ _ pk 35 _ pT lN _ Tryd.underlying50 rfl kR gw ?_)) | ((with_reducible refine iD 9 (.alloc 50) ?_); refine step_alloc (dst := some 9) S 50 (.agg ((rcdL rcdZ).toArray)) ((rcdL rcdZ).toArray) kR rfl gw ?_; clear S; intro g9 w S) | ((with_reducible refine iO none (.store 50 (.tmp 9) (.tmp 32)) ?_); refine step_store S 50 (.tmp 9) (.tmp 32) _ _ rfl rfl _ _ pk 35 kR lN lN on1 gw ?_; clear S; intro w S) | ((with_reducible refine iO _ (.load 22 _) ?_); first | (refine step_load S 22 _ _ rfl _ _ _ pk _ Tryd.underlying22 rfl 32 kR lN gw ?_) | (refine step_loadO 22 _ _ rfl _ _ _ (S.old_heap (Hid.out (by assumption))) _ Tryd.underlying22 rfl 32 kR lN gw ?_) | (refine step_loadR 22 _ _ _ rfl _ (S.old_range hy) _ Tryd.underlying22 rfl 32 kR lN _ rfl gw ?_)) | ((with_reducible refine iO _ (.load 23 _) ?_); refine step_load1 23 _ _ _ rfl (cL) _ Tryd.underlying23 rfl gw ?_) | ((with_reducible refine iO _ (.load 5 _) ?_); refine step_load1 5 _ _ _ rfl (cL) _ Tryd.underlying5 rfl gw ?_) | ((with_reducible refine iO _ (.load 24 _) ?_); refine step_load1 24 _ _ _ rfl (cL) _ Tryd.underlying24 rfl gw ?_) | ((with_reducible refine iO _ (.load 25 _) ?_); refine step_load1 25 _ _ _ rfl (cL) _ Tryd.underlying25 rfl gw ?_) | ((with_reducible refine iD 10 (.alloc 22) ?_); refine step_alloc (dst := some 10) S 22 (.agg (arr8 (List.replicate 32 0))) (arr8 (List.replicate 32 0)) kR rfl gw ?_; clear S; intro g10 w S) | ((with_reducible refine iO none (.store 22 (.tmp 10) (.tmp 46)) ?_); refine step_store S 22 (.tmp 10) (.tmp 46) _ _ rfl rfl _ _ pk 32 kR lN lN on1 gw ?_; clear S; intro w S) | ((with_reducible refine iO _ (.load 22 _) ?_); first | (refine step_loadR 22 _ _ _ rfl _ (S.old_range hy) _ Tryd.underlying22 rfl 32 kR lN _ rfl gw ?_) | (refine step_loadP S 22 _ _ _ rfl _ _ _ pk 32 _ pT lN _ Tryd.underlying22 rfl kR gw ?_)) | ((with_reducible refine iO none (.store 22 (.tmp 3) (.tmp 58)) ?_); refine step_store S 22 (.tmp 3) (.tmp 58) _ _ rfl rfl _ _ pk 32 kR lN lN on1 gw ?_; clear S; intro w S) | fail)
    go_ret2
    exact ⟨rfl, S.nil⟩
  have i1 : ¬ 32 < (l.length : Int) := by omega
  by_cases h2 : ps.length = l.length
  rotate_left
  · rw [show vfR prev l (ps.map (·.2)) = (0, 2) by unfold vfR; rw [if_neg h1, List.length_map, if_pos h2]]
    have i2 : ((ps.length : Int) == (l.length : Int)) = false := beq_false_of_ne (fun h => h2 (by omega))
    have HR := Lib.hid hr; have HF := Lib.hid hf; have HK := Lib.hid hK; clear hr hf hK
    go_enter Tryd.func18, Tryd.ntmps18
    go_wp2_with (first | ((with_reducible refine iD 3 (.box 22 (.tmp 0)) ?_); refine step_boxA (dst := some 3) S 22 (.tmp 0) _ rfl gw ?_; clear S; intro g3 w S) | ((with_reducible refine iO _ (.load 50 _) ?_); first | (refine step_loadR 50 _ _ _ rfl _ (S.old_range hy) _ Tryd.underlying50 rfl 35 kR lN _ rfl gw ?_) | (refine step_loadP S 50 _ _ _ rfl _ _ _ pk 35 _ pT lN _ Tryd.underlying50 rfl kR gw ?_)) | ((with_reducible refine iD 9 (.alloc 50) ?_); refine step_alloc (dst := some 9) S 50 (.agg ((rcdL rcdZ).toArray)) ((rcdL rcdZ).toArray) kR rfl gw ?_; clear S; intro g9 w S) | ((with_reducible refine iO none (.store 50 (.tmp 9) (.tmp 32)) ?_); refine step_store S 50 (.tmp 9) (.tmp 32) _ _ rfl rfl _ _ pk 35 kR lN lN on1 gw ?_; clear S; intro w S) | ((with_reducible refine iO _ (.load 22 _) ?_); first | (refine step_load S 22 _ _ rfl _ _ _ pk _ Tryd.underlying22 rfl 32 kR lN gw ?_) | (refine step_loadO 22 _ _ rfl _ _ _ (S.old_heap (Hid.out (by assumption))) _ Tryd.underlying22 rfl 32 kR lN gw ?_) | (refine step_loadR 22 _ _ _ rfl _ (S.old_range hy) _ Tryd.underlying22 rfl 32 kR lN _ rfl gw ?_)) | ((with_reducible refine iO _ (.load 23 _) ?_); refine step_load1 23 _ _ _ rfl (cL) _ Tryd.underlying23 rfl gw ?_) | ((with_reducible refine iO _ (.load 5 _) ?_); refine step_load1 5 _ _ _ rfl (cL) _ Tryd.underlying5 rfl gw ?_) | ((with_reducible refine iO _ (.load 24 _) ?_); refine step_load1 24 _ _ _ rfl (cL) _ Tryd.underlying24 rfl gw ?_) | ((with_reducible refine iO _ (.load 25 _) ?_); refine step_load1 25 _ _ _ rfl (cL) _ Tryd.underlying25 rfl gw ?_) | ((with_reducible refine iD 10 (.alloc 22) ?_); refine step_alloc (dst := some 10) S 22 (.agg (arr8 (List.replicate 32 0))) (arr8 (List.replicate 32 0)) kR rfl gw ?_; clear S; intro g10 w S) | ((with_reducible refine iO none (.store 22 (.tmp 10) (.tmp 46)) ?_); refine step_store S 22 (.tmp 10) (.tmp 46) _ _ rfl rfl _ _ pk 32 kR lN lN on1 gw ?_; clear S; intro w S) | ((with_reducible refine iO _ (.load 22 _) ?_); first | (refine step_loadR 22 _ _ _ rfl _ (S.old_range hy) _ Tryd.underlying22 rfl 32 kR lN _ rfl gw ?_) | (refine step_loadP S 22 _ _ _ rfl _ _ _ pk 32 _ pT lN _ Tryd.underlying22 rfl kR gw ?_)) | ((with_reducible refine iO none (.store 22 (.tmp 3) (.tmp 58)) ?_); refine step_store S 22 (.tmp 3) (.tmp 58) _ _ rfl rfl _ _ pk 32 kR lN lN on1 gw ?_; clear S; intro w S) | fail)
    go_ret2
    exact ⟨rfl, S.nil⟩
  have hbc := build_ch
  have pch := fun n w h => chainV_s n (.slice a0 l.length c0) l w h
  have pco := fun w h => containsF_s (.slice a1 ps.length c1) ps 52 Tryd.f52 (fun x => decide (64 < x.2.length)) w h Tryd.func52 kR kR (fun x _ w h => long_s x.1 x.2 w h)
  cases h3 : chV l with
  | false =>
    rw [show vfR prev l (ps.map (·.2)) = (0, 8) by unfold vfR; rw [if_neg h1, List.length_map, if_neg (by omega), if_pos h3]]
    rw [h3] at pch
    have i2 : ((ps.length : Int) == (l.length : Int)) = true := by rw [h2]; simp
    have HR := Lib.hid hr; have HF := Lib.hid hf; have HK := Lib.hid hK; have PCH := Lib.hid pch; have PCO := Lib.hid pco; have H2 := Lib.hid h2; clear hr hf hK pch pco h2
    go_enter Tryd.func18, Tryd.ntmps18
    go_wp2_with (first | ((with_reducible refine iD 3 (.box 22 (.tmp 0)) ?_); refine step_boxA (dst := some 3) S 22 (.tmp 0) _ rfl gw ?_; clear S; intro g3 w S) | (go_at_call 50; (with_reducible refine (PCH.out _ _ (S.old HR.out)).mono ?_); rintro e w1 ⟨rfl, T⟩; replace S := S.call T; clear T; (try simp only [z4, z5] at S)) | ((with_reducible refine iO _ (.load 50 _) ?_); first | (refine step_loadR 50 _ _ _ rfl _ (S.old_range hy) _ Tryd.underlying50 rfl 35 kR lN _ rfl gw ?_) | (refine step_loadP S 50 _ _ _ rfl _ _ _ pk 35 _ pT lN _ Tryd.underlying50 rfl kR gw ?_)) | ((with_reducible refine iD 9 (.alloc 50) ?_); refine step_alloc (dst := some 9) S 50 (.agg ((rcdL rcdZ).toArray)) ((rcdL rcdZ).toArray) kR rfl gw ?_; clear S; intro g9 w S) | ((with_reducible refine iO none (.store 50 (.tmp 9) (.tmp 32)) ?_); refine step_store S 50 (.tmp 9) (.tmp 32) _ _ rfl rfl _ _ pk 35 kR lN lN on1 gw ?_; clear S; intro w S) | ((with_reducible refine iO _ (.load 22 _) ?_); first | (refine step_load S 22 _ _ rfl _ _ _ pk _ Tryd.underlying22 rfl 32 kR lN gw ?_) | (refine step_loadO 22 _ _ rfl _ _ _ (S.old_heap (Hid.out (by assumption))) _ Tryd.underlying22 rfl 32 kR lN gw ?_) | (refine step_loadR 22 _ _ _ rfl _ (S.old_range hy) _ Tryd.underlying22 rfl 32 kR lN _ rfl gw ?_)) | ((with_reducible refine iO _ (.load 23 _) ?_); refine step_load1 23 _ _ _ rfl (cL) _ Tryd.underlying23 rfl gw ?_) | ((with_reducible refine iO _ (.load 5 _) ?_); refine step_load1 5 _ _ _ rfl (cL) _ Tryd.underlying5 rfl gw ?_) | ((with_reducible refine iO _ (.load 24 _) ?_); refine step_load1 24 _ _ _ rfl (cL) _ Tryd.underlying24 rfl gw ?_) | ((with_reducible refine iO _ (.load 25 _) ?_); refine step_load1 25 _ _ _ rfl (cL) _ Tryd.underlying25 rfl gw ?_) | ((with_reducible refine iD 10 (.alloc 22) ?_); refine step_alloc (dst := some 10) S 22 (.agg (arr8 (List.replicate 32 0))) (arr8 (List.replicate 32 0)) kR rfl gw ?_; clear S; intro g10 w S) | ((with_reducible refine iO none (.store 22 (.tmp 10) (.tmp 46)) ?_); refine step_store S 22 (.tmp 10) (.tmp 46) _ _ rfl rfl _ _ pk 32 kR lN lN on1 gw ?_; clear S; intro w S) | ((with_reducible refine iO _ (.load 22 _) ?_); first | (refine step_loadR 22 _ _ _ rfl _ (S.old_range hy) _ Tryd.underlying22 rfl 32 kR lN _ rfl gw ?_) | (refine step_loadP S 22 _ _ _ rfl _ _ _ pk 32 _ pT lN _ Tryd.underlying22 rfl kR gw ?_)) | ((with_reducible refine iO none (.store 22 (.tmp 3) (.tmp 58)) ?_); refine step_store S 22 (.tmp 3) (.tmp 58) _ _ rfl rfl _ _ pk 32 kR lN lN on1 gw ?_; clear S; intro w S) | fail)
    go_ret2
    exact ⟨rfl, S.nil⟩
  | true =>
  have h3' := (chV_iff l).1 h3
  rw [h3] at pch
  obtain ⟨P, hP⟩ : ∃ P, P = ps.any fun x => decide (64 < x.2.length) := ⟨_, rfl⟩
  have hP2 : ((ps.map (·.2)).any fun b => decide (64 < b.length)) = P := by rw [hP, List.any_map]; rfl
  rw [← hP] at pco
  cases P with
  | true =>
    rw [show vfR prev l (ps.map (·.2)) = (0, 4) by unfold vfR; rw [if_neg h1, List.length_map, if_neg (by omega), if_neg (by rw [h3]; decide), if_pos hP2]]
    have i2 : ((ps.length : Int) == (l.length : Int)) = true := by rw [h2]; simp
    clear hP hP2 h3
    have HR := Lib.hid hr; have HF := Lib.hid hf; have HK := Lib.hid hK; have PCH := Lib.hid pch; have PCO := Lib.hid pco; have H2 := Lib.hid h2; clear hr hf hK pch pco h2
    go_enter Tryd.func18, Tryd.ntmps18
    go_wp2_with (first | ((with_reducible refine iD 3 (.box 22 (.tmp 0)) ?_); refine step_boxA (dst := some 3) S 22 (.tmp 0) _ rfl gw ?_; clear S; intro g3 w S) | (go_at_call 50; (with_reducible refine (PCH.out _ _ (S.old HR.out)).mono ?_); rintro e w1 ⟨rfl, T⟩; replace S := S.call T; clear T; (try simp only [z4, z5] at S)) | (go_at_call 51; (with_reducible refine (PCO.out _ (S.oldF HF.out)).mono ?_); rintro e w1 ⟨rfl, T⟩; replace S := S.call T; clear T; (try simp only [z4, z5] at S)) | ((with_reducible refine iO _ (.load 50 _) ?_); first | (refine step_loadR 50 _ _ _ rfl _ (S.old_range hy) _ Tryd.underlying50 rfl 35 kR lN _ rfl gw ?_) | (refine step_loadP S 50 _ _ _ rfl _ _ _ pk 35 _ pT lN _ Tryd.underlying50 rfl kR gw ?_)) | ((with_reducible refine iD 9 (.alloc 50) ?_); refine step_alloc (dst := some 9) S 50 (.agg ((rcdL rcdZ).toArray)) ((rcdL rcdZ).toArray) kR rfl gw ?_; clear S; intro g9 w S) | ((with_reducible refine iO none (.store 50 (.tmp 9) (.tmp 32)) ?_); refine step_store S 50 (.tmp 9) (.tmp 32) _ _ rfl rfl _ _ pk 35 kR lN lN on1 gw ?_; clear S; intro w S) | ((with_reducible refine iO _ (.load 22 _) ?_); first | (refine step_load S 22 _ _ rfl _ _ _ pk _ Tryd.underlying22 rfl 32 kR lN gw ?_) | (refine step_loadO 22 _ _ rfl _ _ _ (S.old_heap (Hid.out (by assumption))) _ Tryd.underlying22 rfl 32 kR lN gw ?_) | (refine step_loadR 22 _ _ _ rfl _ (S.old_range hy) _ Tryd.underlying22 rfl 32 kR lN _ rfl gw ?_)) | ((with_reducible refine iO _ (.load 23 _) ?_); refine step_load1 23 _ _ _ rfl (cL) _ Tryd.underlying23 rfl gw ?_) | ((with_reducible refine iO _ (.load 5 _) ?_); refine step_load1 5 _ _ _ rfl (cL) _ Tryd.underlying5 rfl gw ?_) | ((with_reducible refine iO _ (.load 24 _) ?_); refine step_load1 24 _ _ _ rfl (cL) _ Tryd.underlying24 rfl gw ?_) | ((with_reducible refine iO _ (.load 25 _) ?_); refine step_load1 25 _ _ _ rfl (cL) _ Tryd.underlying25 rfl gw ?_) | ((with_reducible refine iD 10 (.alloc 22) ?_); refine step_alloc (dst := some 10) S 22 (.agg (arr8 (List.replicate 32 0))) (arr8 (List.replicate 32 0)) kR rfl gw ?_; clear S; intro g10 w S) | ((with_reducible refine iO none (.store 22 (.tmp 10) (.tmp 46)) ?_); refine step_store S 22 (.tmp 10) (.tmp 46) _ _ rfl rfl _ _ pk 32 kR lN lN on1 gw ?_; clear S; intro w S) | ((with_reducible refine iO _ (.load 22 _) ?_); first | (refine step_loadR 22 _ _ _ rfl _ (S.old_range hy) _ Tryd.underlying22 rfl 32 kR lN _ rfl gw ?_) | (refine step_loadP S 22 _ _ _ rfl _ _ _ pk 32 _ pT lN _ Tryd.underlying22 rfl kR gw ?_)) | ((with_reducible refine iO none (.store 22 (.tmp 3) (.tmp 58)) ?_); refine step_store S 22 (.tmp 3) (.tmp 58) _ _ rfl rfl _ _ pk 32 kR lN lN on1 gw ?_; clear S; intro w S) | fail)
    go_ret2
    exact ⟨rfl, S.nil⟩
  | false =>
  obtain ⟨N, hN⟩ : ∃ N, N = vfN prev l (ps.map (·.2)) := ⟨_, rfl⟩
  rw [show vfR prev l (ps.map (·.2)) = (N, 0) by unfold vfR; rw [if_neg h1, List.length_map, if_neg (by omega), if_neg (by rw [h3]; decide), if_neg (by rw [hP2]; decide), hN]]
  have i2 : ((ps.length : Int) == (l.length : Int)) = true := by rw [h2]; simp
  have hlen : ∀ p ∈ ps, p.2.length ≤ 64 := fun p hm => by
    have := List.any_eq_false.1 hP.symm p hm
    simp only [decide_eq_true_eq] at this
    omega
  have hval := h3'.2
  have eg : Tryd.prog.eqGuardType Tryd.prog.depth 22 = false := by kernel_rfl
  clear hP hP2 h3 h3'
  have H2 := Lib.hid h2; have HR := Lib.hid hr; have HF := Lib.hid hf; have HK := Lib.hid hK; have PCH := Lib.hid pch; have PCO := Lib.hid pco; have HLEN := Lib.hid hlen; have HVAL := Lib.hid hval; have HN := Lib.hid hN; have HP := Lib.hid hp; clear h2 hr hf hK pch pco hlen hval hN hp
  go_enter Tryd.func18, Tryd.ntmps18
  go_wp2_with (first | ((with_reducible refine iD 3 (.box 22 (.tmp 0)) ?_); refine step_boxA (dst := some 3) S 22 (.tmp 0) _ rfl gw ?_; clear S; intro g3 w S) | (go_at_call 50; (with_reducible refine (PCH.out _ _ (S.old HR.out)).mono ?_); rintro e w1 ⟨rfl, T⟩; replace S := S.call T; clear T; (try simp only [z4, z5] at S)) | (go_at_call 51; (with_reducible refine (PCO.out _ (S.oldF HF.out)).mono ?_); rintro e w1 ⟨rfl, T⟩; replace S := S.call T; clear T; (try simp only [z4, z5] at S)) | ((with_reducible refine iO _ (.load 50 _) ?_); first | (refine step_loadR 50 _ _ _ rfl _ (S.old_range hy) _ Tryd.underlying50 rfl 35 kR lN _ rfl gw ?_) | (refine step_loadP S 50 _ _ _ rfl _ _ _ pk 35 _ pT lN _ Tryd.underlying50 rfl kR gw ?_)) | ((with_reducible refine iD 9 (.alloc 50) ?_); refine step_alloc (dst := some 9) S 50 (.agg ((rcdL rcdZ).toArray)) ((rcdL rcdZ).toArray) kR rfl gw ?_; clear S; intro g9 w S) | ((with_reducible refine iO none (.store 50 (.tmp 9) (.tmp 32)) ?_); refine step_store S 50 (.tmp 9) (.tmp 32) _ _ rfl rfl _ _ pk 35 kR lN lN on1 gw ?_; clear S; intro w S) | ((with_reducible refine iO _ (.load 22 _) ?_); first | (refine step_load S 22 _ _ rfl _ _ _ pk _ Tryd.underlying22 rfl 32 kR lN gw ?_) | (refine step_loadO 22 _ _ rfl _ _ _ (S.old_heap (Hid.out (by assumption))) _ Tryd.underlying22 rfl 32 kR lN gw ?_) | (refine step_loadR 22 _ _ _ rfl _ (S.old_range hy) _ Tryd.underlying22 rfl 32 kR lN _ rfl gw ?_)) | ((with_reducible refine iO _ (.load 23 _) ?_); refine step_load1 23 _ _ _ rfl (cL) _ Tryd.underlying23 rfl gw ?_) | ((with_reducible refine iO _ (.load 5 _) ?_); refine step_load1 5 _ _ _ rfl (cL) _ Tryd.underlying5 rfl gw ?_) | ((with_reducible refine iO _ (.load 24 _) ?_); refine step_load1 24 _ _ _ rfl (cL) _ Tryd.underlying24 rfl gw ?_) | ((with_reducible refine iO _ (.load 25 _) ?_); refine step_load1 25 _ _ _ rfl (cL) _ Tryd.underlying25 rfl gw ?_) | ((with_reducible refine iD 10 (.alloc 22) ?_); refine step_alloc (dst := some 10) S 22 (.agg (arr8 (List.replicate 32 0))) (arr8 (List.replicate 32 0)) kR rfl gw ?_; clear S; intro g10 w S) | ((with_reducible refine iO none (.store 22 (.tmp 10) (.tmp 46)) ?_); refine step_store S 22 (.tmp 10) (.tmp 46) _ _ rfl rfl _ _ pk 32 kR lN lN on1 gw ?_; clear S; intro w S) | ((with_reducible refine iO _ (.load 22 _) ?_); first | (refine step_loadR 22 _ _ _ rfl _ (S.old_range hy) _ Tryd.underlying22 rfl 32 kR lN _ rfl gw ?_) | (refine step_loadP S 22 _ _ _ rfl _ _ _ pk 32 _ pT lN _ Tryd.underlying22 rfl kR gw ?_)) | ((with_reducible refine iO none (.store 22 (.tmp 3) (.tmp 58)) ?_); refine step_store S 22 (.tmp 3) (.tmp 58) _ _ rfl rfl _ _ pk 32 kR lN lN on1 gw ?_; clear S; intro w S) | fail)
  go_loopw [28] (fun u wr => ∃ (k : Nat) (L : List UInt8), k ≤ l.length ∧ u = .int .i64 (k : Int) ∧ L.length = 32 ∧ N = k + vfN L (l.drop k) ((ps.map (·.2)).drop k) ∧ Has w0 wr [blk g3 (.cells (arr8 L) 22 (0, 0))]) (fun u _ => l.length - (intOf u).toNat)
  case atStart => exact ⟨0, prev, Nat.zero_le _, rfl, HP.out, by rw [HN.out]; simp, S⟩
  case round =>
    clear S
    obtain ⟨k, L, hk, rfl, hL, hn, S⟩ := hrel
    by_cases hlt : k < l.length
    · have hx : l[k]? = some l[k] := List.getElem?_eq_getElem hlt
      have hlt2 : k < ps.length := by rw [H2.out]; exact hlt
      have hy : ps[k]? = some ps[k] := List.getElem?_eq_getElem hlt2
      have hyb : (ps.map (·.2))[k]? = some (ps[k]).2 := by rw [List.getElem?_map, hy]; rfl
      obtain ⟨b, off, rfl, hcell⟩ := HR.out.atA (by omega)
      obtain ⟨b2, off2, rfl, hcell2⟩ := HF.out.1.atA (by omega)
      have hrg := HR.out.elem rcdL_length (by decide) k _ hx
      have hcf := hcell2 k (ps[k]).1 (by rw [List.getElem?_map, hy]; rfl)
      have hm : ps[k] ∈ ps := List.getElem_mem hlt2
      have hbs := HF.out.2 _ hm
      have hl64 := HLEN.out _ hm
      have hv := HVAL.out _ (List.getElem_mem hlt)
      rw [vfN_step L l (ps.map (·.2)) k _ _ hx hyb] at hn
      obtain ⟨x, hxe⟩ : ∃ x, x = l[k] := ⟨_, rfl⟩
      obtain ⟨p, hpe⟩ : ∃ p, p = ps[k] := ⟨_, rfl⟩
      rw [← hxe] at hrg hv hn
      rw [← hpe] at hcf hbs hl64 hn
      have hE0 : lnkE x.tick x.kind x.code p.2.length = 0 := by
        unfold lnkE
        rw [if_neg (by rw [show lkV x.tick x.kind x.code = true from hv]; decide), if_neg (by omega)]
      have pk := fun w h1 h2 => link_s L x.tick x.kind x.code p.1 p.2 w hL h1 h2 (by omega)
      rw [hE0, show lnkR L x.tick x.kind x.code p.2 = lnkD L x.tick x.kind x.code p.2 from if_pos hE0] at pk
      obtain ⟨D, hD⟩ : ∃ D, D = lnkD L x.tick x.kind x.code p.2 := ⟨_, rfl⟩
      have hDl : D.length = 32 := by rw [hD]; exact sumD_length _
      rw [← hD] at hn pk
      have hki : (k : Int) < (l.length : Int) := by omega
      have hki3 : (k : Int) < (ps.length : Int) := by omega
      have hki2 : (k : Int) < 9223372036854775807 := by omega
      have he := fun w' => neq32 D x.link hDl x.len w'
      have hxl := x.len
      by_cases hd : D = x.link
      · rw [if_pos hd] at hn
        have hnx : N = (k + 1) + vfN x.link (l.drop (k + 1)) ((ps.map (·.2)).drop (k + 1)) := by omega
        rw [decide_eq_false (by simpa using hd)] at he
        clear hx hy hyb hcell hcell2 hm hl64 hv hxe hpe hE0 hD hn
        have HRG := Lib.hid hrg; have HCF := Lib.hid hcf; have HBS := Lib.hid hbs; have HDL := Lib.hid hDl; have HNX := Lib.hid hnx; have PK := Lib.hid pk; have HL := Lib.hid hL; have HD := Lib.hid hd; have HXL := Lib.hid hxl; clear hrg hcf hbs hDl hnx pk hL hd hxl
        clear hlt2
        go_upto_region 12 with (first | ((with_reducible refine iD 3 (.box 22 (.tmp 0)) ?_); refine step_boxA (dst := some 3) S 22 (.tmp 0) _ rfl gw ?_; clear S; intro g3 w S) | ((with_reducible refine iO _ (.load 50 _) ?_); first | (refine step_loadR 50 _ _ _ rfl _ (S.old_range hy) _ Tryd.underlying50 rfl 35 kR lN _ rfl gw ?_) | (refine step_loadP S 50 _ _ _ rfl _ _ _ pk 35 _ pT lN _ Tryd.underlying50 rfl kR gw ?_)) | ((with_reducible refine iD 9 (.alloc 50) ?_); refine step_alloc (dst := some 9) S 50 (.agg ((rcdL rcdZ).toArray)) ((rcdL rcdZ).toArray) kR rfl gw ?_; clear S; intro g9 w S) | ((with_reducible refine iO none (.store 50 (.tmp 9) (.tmp 32)) ?_); refine step_store S 50 (.tmp 9) (.tmp 32) _ _ rfl rfl _ _ pk 35 kR lN lN on1 gw ?_; clear S; intro w S) | ((with_reducible refine iO _ (.load 22 _) ?_); first | (refine step_load S 22 _ _ rfl _ _ _ pk _ Tryd.underlying22 rfl 32 kR lN gw ?_) | (refine step_loadO 22 _ _ rfl _ _ _ (S.old_heap (Hid.out (by assumption))) _ Tryd.underlying22 rfl 32 kR lN gw ?_) | (refine step_loadR 22 _ _ _ rfl _ (S.old_range hy) _ Tryd.underlying22 rfl 32 kR lN _ rfl gw ?_)) | ((with_reducible refine iO _ (.load 23 _) ?_); refine step_load1 23 _ _ _ rfl (cL) _ Tryd.underlying23 rfl gw ?_) | ((with_reducible refine iO _ (.load 5 _) ?_); refine step_load1 5 _ _ _ rfl (cL) _ Tryd.underlying5 rfl gw ?_) | ((with_reducible refine iO _ (.load 24 _) ?_); refine step_load1 24 _ _ _ rfl (cL) _ Tryd.underlying24 rfl gw ?_) | ((with_reducible refine iO _ (.load 25 _) ?_); refine step_load1 25 _ _ _ rfl (cL) _ Tryd.underlying25 rfl gw ?_) | ((with_reducible refine iD 10 (.alloc 22) ?_); refine step_alloc (dst := some 10) S 22 (.agg (arr8 (List.replicate 32 0))) (arr8 (List.replicate 32 0)) kR rfl gw ?_; clear S; intro g10 w S) | ((with_reducible refine iO none (.store 22 (.tmp 10) (.tmp 46)) ?_); refine step_store S 22 (.tmp 10) (.tmp 46) _ _ rfl rfl _ _ pk 32 kR lN lN on1 gw ?_; clear S; intro w S) | ((with_reducible refine iO _ (.load 22 _) ?_); first | (refine step_loadR 22 _ _ _ rfl _ (S.old_range hy) _ Tryd.underlying22 rfl 32 kR lN _ rfl gw ?_) | (refine step_loadP S 22 _ _ _ rfl _ _ _ pk 32 _ pT lN _ Tryd.underlying22 rfl kR gw ?_)) | ((with_reducible refine iO none (.store 22 (.tmp 3) (.tmp 58)) ?_); refine step_store S 22 (.tmp 3) (.tmp 58) _ _ rfl rfl _ _ pk 32 kR lN lN on1 gw ?_; clear S; intro w S) | fail)
        refine wp_rely S [⟨[], [], [], fun _ v => v = .agg (arr8 L), fun _ v => []⟩, ⟨[], [], [], fun _ v => v = .pointer (some ⟨g9, 0, none⟩), fun _ v => []⟩, ⟨[1], [], [], fun _ v => v = .int .u64 (x.tick.toNat : Int), fun _ v => []⟩, ⟨[], [], [], fun _ v => v = .pointer (some ⟨g9, 1, none⟩), fun _ v => []⟩, ⟨[3], [], [], fun _ v => v = by8 x.kind, fun _ v => []⟩, ⟨[], [], [], fun _ v => v = .pointer (some ⟨g9, 2, none⟩), fun _ v => []⟩, ⟨[5], [], [], fun _ v => v = .int .i64 (cdV x), fun _ v => []⟩, ⟨[], [], [], fun _ v => v = (.slice (some ⟨b2, off2, none⟩) ps.length c1), fun _ v => []⟩, ⟨[], [], [], fun _ v => v = (.int .i64 (k : Int)), fun _ v => []⟩, ⟨[7, 8], [], [], fun _ v => v = .pointer (some ⟨b2, off2 + k, none⟩), fun _ v => []⟩, ⟨[7, 8, 9], [], [], fun _ v => v = p.1, fun _ v => []⟩, ⟨[0, 1, 2, 3, 4, 5, 6, 7, 8, 9, 10], [], [], fun _ v => v = .tuple #[.agg (arr8 D), .int .i64 0], fun _ v => []⟩, ⟨[0, 1, 2, 3, 4, 5, 6, 7, 8, 9, 10, 11], [], [], fun _ v => v = (.tuple #[.agg (arr8 D), .int .i64 0]), fun _ v => []⟩, ⟨[0, 1, 2, 3, 4, 5, 6, 7, 8, 9, 10, 11, 12], [], [], fun _ v => v = .agg (arr8 D), fun _ v => []⟩, ⟨[0, 1, 2, 3, 4, 5, 6, 7, 8, 9, 10, 11, 12], [], [], fun _ v => v = .int .i64 0, fun _ v => []⟩, ⟨[], [], [], fun _ v => ∃ g, v = .pointer (some ⟨g, 0, none⟩), fun _ v => [blk (ptrBlk v) (.cells (arr8 (List.replicate 32 0)) 22 (0, 0))]⟩, ⟨[0, 1, 2, 3, 4, 5, 6, 7, 8, 9, 10, 11, 12, 13, 15], [15], [], fun _ v => True, fun d v => [blk (ptrBlk (d 15)) (.cells ((arr8 D)) 22 (0, 0))]⟩, ⟨[0, 1, 2, 3, 4, 5, 6, 7, 8, 9, 10, 11, 12, 13, 14, 15, 16], [], [], fun _ v => v = (.int .i64 0), fun _ v => []⟩] ?A1 ?hA1 kR kR kR [0, 1, 2, 3, 4, 5, 6, 7, 8, 9, 10, 11, 12, 13, 14, 16, 17] kR ?hok1 ?fin1
        case hA1 => intro u; simp only [putAll, List.length_cons, List.length_nil, Nat.zero_add, Nat.reduceAdd, dstAt, List.getElem?_toArray, List.getElem?_cons_zero, List.getElem?_cons_succ, Option.bind_some, Act.put, List.setIfInBounds_toArray, List.set_cons_zero, List.set_cons_succ]; rfl
        case hok1 =>
          intro i hi
          obtain rfl | rfl | rfl | rfl | rfl | rfl | rfl | rfl | rfl | rfl | rfl | rfl | rfl | rfl | rfl | rfl | rfl | rfl : i = 0 ∨ i = 1 ∨ i = 2 ∨ i = 3 ∨ i = 4 ∨ i = 5 ∨ i = 6 ∨ i = 7 ∨ i = 8 ∨ i = 9 ∨ i = 10 ∨ i = 11 ∨ i = 12 ∨ i = 13 ∨ i = 14 ∨ i = 15 ∨ i = 16 ∨ i = 17 := by simp only [List.length_cons, List.length_nil, Nat.zero_add, Nat.reduceAdd] at hi; omega
          · clear hi
            refine step_of rfl rfl rfl ?_
            intro u G w hf S
            simp only [resOf, spec, RSpec.resAt, z0, z1, z2, z3, z4, z5, z6, z7, ptrBlk] at S ⊢
            refine does_load 22 (.tmp 3) g3 rfl _ _ _ (S.get (r := blk g3 _) pk) _ Tryd.underlying22 rfl 32 kR lN ?_; exact ⟨rfl, S⟩
          · clear hi
            refine step_of rfl rfl rfl ?_
            intro u G w hf S
            simp only [resOf, spec, RSpec.resAt, z0, z1, z2, z3, z4, z5, z6, z7, ptrBlk] at S ⊢
            simp only [does]
            go_simp
            try first | exact S | exact ⟨vv, S⟩ | exact vv
          · clear hi
            refine step_of rfl rfl rfl ?_
            intro u G w hf S
            have f1 : u 1 = .pointer (some ⟨g9, 0, none⟩) := hf 1 (by simp)
            simp only [resOf, spec, RSpec.resAt, z0, z1, z2, z3, z4, z5, z6, z7, ptrBlk] at S ⊢
            simp only [f1]
            refine does_load1 23 (.tmp 35) _ _ rfl (S.cell (g := g9) pk co) _ Tryd.underlying23 rfl ?_; exact ⟨rfl, S⟩
          · clear hi
            refine step_of rfl rfl rfl ?_
            intro u G w hf S
            simp only [resOf, spec, RSpec.resAt, z0, z1, z2, z3, z4, z5, z6, z7, ptrBlk] at S ⊢
            simp only [does]
            go_simp
            try first | exact S | exact ⟨vv, S⟩ | exact vv
          · clear hi
            refine step_of rfl rfl rfl ?_
            intro u G w hf S
            have f3 : u 3 = .pointer (some ⟨g9, 1, none⟩) := hf 3 (by simp)
            simp only [resOf, spec, RSpec.resAt, z0, z1, z2, z3, z4, z5, z6, z7, ptrBlk] at S ⊢
            simp only [f3]
            refine does_load1 5 (.tmp 37) _ _ rfl (S.cell (g := g9) pk co) _ Tryd.underlying5 rfl ?_; exact ⟨rfl, S⟩
          · clear hi
            refine step_of rfl rfl rfl ?_
            intro u G w hf S
            simp only [resOf, spec, RSpec.resAt, z0, z1, z2, z3, z4, z5, z6, z7, ptrBlk] at S ⊢
            simp only [does]
            go_simp
            try first | exact S | exact ⟨vv, S⟩ | exact vv
          · clear hi
            refine step_of rfl rfl rfl ?_
            intro u G w hf S
            have f5 : u 5 = .pointer (some ⟨g9, 2, none⟩) := hf 5 (by simp)
            simp only [resOf, spec, RSpec.resAt, z0, z1, z2, z3, z4, z5, z6, z7, ptrBlk] at S ⊢
            simp only [f5]
            refine does_load1 24 (.tmp 39) _ _ rfl (S.cell (g := g9) pk co) _ Tryd.underlying24 rfl ?_; exact ⟨rfl, S⟩
          · clear hi
            refine step_of rfl rfl rfl ?_
            intro u G w hf S
            simp only [resOf, spec, RSpec.resAt, z0, z1, z2, z3, z4, z5, z6, z7, ptrBlk] at S ⊢
            simp only [does]
            go_simp
            try first | exact S | exact ⟨vv, S⟩ | exact vv
          · clear hi
            refine step_of rfl rfl rfl ?_
            intro u G w hf S
            simp only [resOf, spec, RSpec.resAt, z0, z1, z2, z3, z4, z5, z6, z7, ptrBlk] at S ⊢
            simp only [does]
            go_simp
            try first | exact S | exact ⟨vv, S⟩ | exact vv
          · clear hi
            refine step_of rfl rfl rfl ?_
            intro u G w hf S
            have f7 : u 7 = (.slice (some ⟨b2, off2, none⟩) ps.length c1) := hf 7 (by simp)
            have f8 : u 8 = (.int .i64 (k : Int)) := hf 8 (by simp)
            simp only [resOf, spec, RSpec.resAt, z0, z1, z2, z3, z4, z5, z6, z7, ptrBlk] at S ⊢
            simp only [f7, f8]
            simp only [does]
            go_simp
            try first | exact S | exact ⟨vv, S⟩ | exact vv
          · clear hi
            refine step_of rfl rfl rfl ?_
            intro u G w hf S
            have f9 : u 9 = .pointer (some ⟨b2, off2 + k, none⟩) := hf 9 (by simp)
            simp only [resOf, spec, RSpec.resAt, z0, z1, z2, z3, z4, z5, z6, z7, ptrBlk] at S ⊢
            simp only [f9]
            refine does_load1 25 (.tmp 43) _ _ rfl (S.old_cell hy) _ Tryd.underlying25 rfl ?_; exact ⟨rfl, S⟩
          · clear hi
            refine step_of rfl rfl rfl ?_
            intro u G w hf S
            have f0 : u 0 = .agg (arr8 L) := hf 0 (by simp)
            have f2 : u 2 = .int .u64 (x.tick.toNat : Int) := hf 2 (by simp)
            have f4 : u 4 = by8 x.kind := hf 4 (by simp)
            have f6 : u 6 = .int .i64 (cdV x) := hf 6 (by simp)
            have f10 : u 10 = p.1 := hf 10 (by simp)
            simp only [resOf, spec, RSpec.resAt, z0, z1, z2, z3, z4, z5, z6, z7, ptrBlk] at S ⊢
            simp only [f0, f2, f4, f6, f10]
            refine does_fn (args := [(.agg (arr8 L)), (.int .u64 (x.tick.toNat : Int)), (by8 x.kind), (.int .i64 (cdV x)), (p.1)]) Tryd.func16 kR kR (PK.out w (S.oldB HBS.out) kT) rfl ?_
            rintro e w1 ⟨rfl, T⟩
            exact ⟨_, rfl, rfl, S.call T⟩
          · clear hi
            refine step_of rfl rfl rfl ?_
            intro u G w hf S
            have f11 : u 11 = .tuple #[.agg (arr8 D), .int .i64 0] := hf 11 (by simp)
            simp only [resOf, spec, RSpec.resAt, z0, z1, z2, z3, z4, z5, z6, z7, ptrBlk] at S ⊢
            simp only [f11]
            simp only [does]
            go_simp
            try first | exact S | exact ⟨vv, S⟩ | exact vv
          · clear hi
            refine step_of rfl rfl rfl ?_
            intro u G w hf S
            have f12 : u 12 = (.tuple #[.agg (arr8 D), .int .i64 0]) := hf 12 (by simp)
            simp only [resOf, spec, RSpec.resAt, z0, z1, z2, z3, z4, z5, z6, z7, ptrBlk] at S ⊢
            simp only [f12]
            simp only [does]
            go_simp
            try first | exact S | exact ⟨vv, S⟩ | exact vv
          · clear hi
            refine step_of rfl rfl rfl ?_
            intro u G w hf S
            have f12 : u 12 = (.tuple #[.agg (arr8 D), .int .i64 0]) := hf 12 (by simp)
            simp only [resOf, spec, RSpec.resAt, z0, z1, z2, z3, z4, z5, z6, z7, ptrBlk] at S ⊢
            simp only [f12]
            simp only [does]
            go_simp
            try first | exact S | exact ⟨vv, S⟩ | exact vv
          · clear hi
            refine step_of rfl rfl rfl ?_
            intro u G w hf S
            simp only [resOf, spec, RSpec.resAt, z0, z1, z2, z3, z4, z5, z6, z7, ptrBlk] at S ⊢
            refine does_alloc S 22 (.agg (arr8 (List.replicate 32 0))) (arr8 (List.replicate 32 0)) kR rfl ?_; intro g w1 S; exact ⟨⟨g, rfl⟩, S⟩
          · clear hi
            refine step_of rfl rfl rfl ?_
            intro u G w hf S
            have f13 : u 13 = .agg (arr8 D) := hf 13 (by simp)
            have f15 : ∃ g, u 15 = .pointer (some ⟨g, 0, none⟩) := hf 15 (by simp)
            obtain ⟨g10, f15⟩ := f15
            have m15 : mask [0, 1, 2, 3, 4, 5, 6, 7, 8, 9, 10, 11, 12, 13, 15] u 15 = u 15 := rfl
            simp only [resOf, spec, RSpec.resAt, List.getD_cons_zero, List.getD_cons_succ, List.flatMap_cons, List.flatMap_nil, List.nil_append, List.cons_append, List.append_nil, List.append_assoc, m15, ptrBlk] at S ⊢
            simp only [m15, f13, f15] at S ⊢
            try simp only [ptrBlk] at S
            refine does_store S 22 (.tmp 10) (.tmp 46) _ rfl rfl 32 kR lN lN on1 ?_; intro w1 S; exact ⟨trivial, S⟩
          · clear hi
            refine step_of rfl rfl rfl ?_
            intro u G w hf S
            have f14 : u 14 = .int .i64 0 := hf 14 (by simp)
            have f15 : ∃ g, u 15 = .pointer (some ⟨g, 0, none⟩) := hf 15 (by simp)
            obtain ⟨g10, f15⟩ := f15
            simp only [resOf, spec, RSpec.resAt, z0, z1, z2, z3, z4, z5, z6, z7, ptrBlk] at S ⊢
            simp only [f14, f15]
            simp only [does]
            go_simp
            try first | exact S | exact ⟨vv, S⟩ | exact vv
        case fin1 =>
          intro u w hf S
          have f0 : u 0 = .agg (arr8 L) := hf 0 (by simp)
          have f1 : u 1 = .pointer (some ⟨g9, 0, none⟩) := hf 1 (by simp)
          have f2 : u 2 = .int .u64 (x.tick.toNat : Int) := hf 2 (by simp)
          have f3 : u 3 = .pointer (some ⟨g9, 1, none⟩) := hf 3 (by simp)
          have f4 : u 4 = by8 x.kind := hf 4 (by simp)
          have f5 : u 5 = .pointer (some ⟨g9, 2, none⟩) := hf 5 (by simp)
          have f6 : u 6 = .int .i64 (cdV x) := hf 6 (by simp)
          have f7 : u 7 = (.slice (some ⟨b2, off2, none⟩) ps.length c1) := hf 7 (by simp)
          have f8 : u 8 = (.int .i64 (k : Int)) := hf 8 (by simp)
          have f9 : u 9 = .pointer (some ⟨b2, off2 + k, none⟩) := hf 9 (by simp)
          have f10 : u 10 = p.1 := hf 10 (by simp)
          have f11 : u 11 = .tuple #[.agg (arr8 D), .int .i64 0] := hf 11 (by simp)
          have f12 : u 12 = (.tuple #[.agg (arr8 D), .int .i64 0]) := hf 12 (by simp)
          have f13 : u 13 = .agg (arr8 D) := hf 13 (by simp)
          have f14 : u 14 = .int .i64 0 := hf 14 (by simp)
          have f15 : ∃ g, u 15 = .pointer (some ⟨g, 0, none⟩) := hf 15 (by simp)
          obtain ⟨g10, f15⟩ := f15
          have f17 : u 17 = (.int .i64 0) := hf 17 (by simp)
          have m16_15 : mask [0, 1, 2, 3, 4, 5, 6, 7, 8, 9, 10, 11, 12, 13, 15] u 15 = u 15 := rfl
          simp only [resOf, spec, RSpec.resAt, List.getD_cons_zero, List.getD_cons_succ, List.flatMap_cons, List.flatMap_nil, List.nil_append, List.cons_append, List.append_nil, List.append_assoc, m16_15, ptrBlk] at S
          clear hf
          simp only [List.length_cons, List.length_nil, Nat.zero_add, Nat.reduceAdd, List.drop_succ_cons, List.drop_zero, f0, f1, f2, f3, f4, f5, f6, f7, f8, f9, f10, f11, f12, f13, f14, f15, f17]
          try simp only [f0, f1, f2, f3, f4, f5, f6, f7, f8, f9, f10, f11, f12, f13, f14, f15, f17, ptrBlk] at S
          clear f0 f1 f2 f3 f4 f5 f6 f7 f8 f9 f10 f11 f12 f13 f14 f15 f17 m16_15
          go_wp2_with (first | ((with_reducible refine iD 3 (.box 22 (.tmp 0)) ?_); refine step_boxA (dst := some 3) S 22 (.tmp 0) _ rfl gw ?_; clear S; intro g3 w S) | ((with_reducible refine iO _ (.load 50 _) ?_); first | (refine step_loadR 50 _ _ _ rfl _ (S.old_range hy) _ Tryd.underlying50 rfl 35 kR lN _ rfl gw ?_) | (refine step_loadP S 50 _ _ _ rfl _ _ _ pk 35 _ pT lN _ Tryd.underlying50 rfl kR gw ?_)) | ((with_reducible refine iD 9 (.alloc 50) ?_); refine step_alloc (dst := some 9) S 50 (.agg ((rcdL rcdZ).toArray)) ((rcdL rcdZ).toArray) kR rfl gw ?_; clear S; intro g9 w S) | ((with_reducible refine iO none (.store 50 (.tmp 9) (.tmp 32)) ?_); refine step_store S 50 (.tmp 9) (.tmp 32) _ _ rfl rfl _ _ pk 35 kR lN lN on1 gw ?_; clear S; intro w S) | ((with_reducible refine iO _ (.load 22 _) ?_); first | (refine step_load S 22 _ _ rfl _ _ _ pk _ Tryd.underlying22 rfl 32 kR lN gw ?_) | (refine step_loadO 22 _ _ rfl _ _ _ (S.old_heap (Hid.out (by assumption))) _ Tryd.underlying22 rfl 32 kR lN gw ?_) | (refine step_loadR 22 _ _ _ rfl _ (S.old_range hy) _ Tryd.underlying22 rfl 32 kR lN _ rfl gw ?_)) | ((with_reducible refine iO _ (.load 23 _) ?_); refine step_load1 23 _ _ _ rfl (cL) _ Tryd.underlying23 rfl gw ?_) | ((with_reducible refine iO _ (.load 5 _) ?_); refine step_load1 5 _ _ _ rfl (cL) _ Tryd.underlying5 rfl gw ?_) | ((with_reducible refine iO _ (.load 24 _) ?_); refine step_load1 24 _ _ _ rfl (cL) _ Tryd.underlying24 rfl gw ?_) | ((with_reducible refine iO _ (.load 25 _) ?_); refine step_load1 25 _ _ _ rfl (cL) _ Tryd.underlying25 rfl gw ?_) | ((with_reducible refine iD 10 (.alloc 22) ?_); refine step_alloc (dst := some 10) S 22 (.agg (arr8 (List.replicate 32 0))) (arr8 (List.replicate 32 0)) kR rfl gw ?_; clear S; intro g10 w S) | ((with_reducible refine iO none (.store 22 (.tmp 10) (.tmp 46)) ?_); refine step_store S 22 (.tmp 10) (.tmp 46) _ _ rfl rfl _ _ pk 32 kR lN lN on1 gw ?_; clear S; intro w S) | ((with_reducible refine iO _ (.load 22 _) ?_); first | (refine step_loadR 22 _ _ _ rfl _ (S.old_range hy) _ Tryd.underlying22 rfl 32 kR lN _ rfl gw ?_) | (refine step_loadP S 22 _ _ _ rfl _ _ _ pk 32 _ pT lN _ Tryd.underlying22 rfl kR gw ?_)) | ((with_reducible refine iO none (.store 22 (.tmp 3) (.tmp 58)) ?_); refine step_store S 22 (.tmp 3) (.tmp 58) _ _ rfl rfl _ _ pk 32 kR lN lN on1 gw ?_; clear S; intro w S) | fail)
          go_roundw
          case rel =>
            refine ⟨k + 1, D, by omega, by go_num, HDL.out, ?_, S.sub (by repeat (first | exact Sub.nil _ | refine Sub.cons pk ?_))⟩
            rw [HD.out]
            exact HNX.out
          case measure => simp [intOf]; omega
      · rw [if_neg hd] at hn
        rw [decide_eq_true hd] at he
        clear hx hy hyb hcell hcell2 hm hl64 hv hxe hpe hE0 hD
        have hn1 : N = k := by omega
        clear hn
        have HRG := Lib.hid hrg; have HCF := Lib.hid hcf; have HBS := Lib.hid hbs; have HDL := Lib.hid hDl; have HN1 := Lib.hid hn1; have PK := Lib.hid pk; have HL := Lib.hid hL; have HD := Lib.hid hd; have HXL := Lib.hid hxl; clear hrg hcf hbs hDl hn1 pk hL hd hxl
        clear hlt2
        go_upto_region 12 with (first | ((with_reducible refine iD 3 (.box 22 (.tmp 0)) ?_); refine step_boxA (dst := some 3) S 22 (.tmp 0) _ rfl gw ?_; clear S; intro g3 w S) | ((with_reducible refine iO _ (.load 50 _) ?_); first | (refine step_loadR 50 _ _ _ rfl _ (S.old_range hy) _ Tryd.underlying50 rfl 35 kR lN _ rfl gw ?_) | (refine step_loadP S 50 _ _ _ rfl _ _ _ pk 35 _ pT lN _ Tryd.underlying50 rfl kR gw ?_)) | ((with_reducible refine iD 9 (.alloc 50) ?_); refine step_alloc (dst := some 9) S 50 (.agg ((rcdL rcdZ).toArray)) ((rcdL rcdZ).toArray) kR rfl gw ?_; clear S; intro g9 w S) | ((with_reducible refine iO none (.store 50 (.tmp 9) (.tmp 32)) ?_); refine step_store S 50 (.tmp 9) (.tmp 32) _ _ rfl rfl _ _ pk 35 kR lN lN on1 gw ?_; clear S; intro w S) | ((with_reducible refine iO _ (.load 22 _) ?_); first | (refine step_load S 22 _ _ rfl _ _ _ pk _ Tryd.underlying22 rfl 32 kR lN gw ?_) | (refine step_loadO 22 _ _ rfl _ _ _ (S.old_heap (Hid.out (by assumption))) _ Tryd.underlying22 rfl 32 kR lN gw ?_) | (refine step_loadR 22 _ _ _ rfl _ (S.old_range hy) _ Tryd.underlying22 rfl 32 kR lN _ rfl gw ?_)) | ((with_reducible refine iO _ (.load 23 _) ?_); refine step_load1 23 _ _ _ rfl (cL) _ Tryd.underlying23 rfl gw ?_) | ((with_reducible refine iO _ (.load 5 _) ?_); refine step_load1 5 _ _ _ rfl (cL) _ Tryd.underlying5 rfl gw ?_) | ((with_reducible refine iO _ (.load 24 _) ?_); refine step_load1 24 _ _ _ rfl (cL) _ Tryd.underlying24 rfl gw ?_) | ((with_reducible refine iO _ (.load 25 _) ?_); refine step_load1 25 _ _ _ rfl (cL) _ Tryd.underlying25 rfl gw ?_) | ((with_reducible refine iD 10 (.alloc 22) ?_); refine step_alloc (dst := some 10) S 22 (.agg (arr8 (List.replicate 32 0))) (arr8 (List.replicate 32 0)) kR rfl gw ?_; clear S; intro g10 w S) | ((with_reducible refine iO none (.store 22 (.tmp 10) (.tmp 46)) ?_); refine step_store S 22 (.tmp 10) (.tmp 46) _ _ rfl rfl _ _ pk 32 kR lN lN on1 gw ?_; clear S; intro w S) | ((with_reducible refine iO _ (.load 22 _) ?_); first | (refine step_loadR 22 _ _ _ rfl _ (S.old_range hy) _ Tryd.underlying22 rfl 32 kR lN _ rfl gw ?_) | (refine step_loadP S 22 _ _ _ rfl _ _ _ pk 32 _ pT lN _ Tryd.underlying22 rfl kR gw ?_)) | ((with_reducible refine iO none (.store 22 (.tmp 3) (.tmp 58)) ?_); refine step_store S 22 (.tmp 3) (.tmp 58) _ _ rfl rfl _ _ pk 32 kR lN lN on1 gw ?_; clear S; intro w S) | fail)
        refine wp_rely S [⟨[], [], [], fun _ v => v = .agg (arr8 L), fun _ v => []⟩, ⟨[], [], [], fun _ v => v = .pointer (some ⟨g9, 0, none⟩), fun _ v => []⟩, ⟨[1], [], [], fun _ v => v = .int .u64 (x.tick.toNat : Int), fun _ v => []⟩, ⟨[], [], [], fun _ v => v = .pointer (some ⟨g9, 1, none⟩), fun _ v => []⟩, ⟨[3], [], [], fun _ v => v = by8 x.kind, fun _ v => []⟩, ⟨[], [], [], fun _ v => v = .pointer (some ⟨g9, 2, none⟩), fun _ v => []⟩, ⟨[5], [], [], fun _ v => v = .int .i64 (cdV x), fun _ v => []⟩, ⟨[], [], [], fun _ v => v = (.slice (some ⟨b2, off2, none⟩) ps.length c1), fun _ v => []⟩, ⟨[], [], [], fun _ v => v = (.int .i64 (k : Int)), fun _ v => []⟩, ⟨[7, 8], [], [], fun _ v => v = .pointer (some ⟨b2, off2 + k, none⟩), fun _ v => []⟩, ⟨[7, 8, 9], [], [], fun _ v => v = p.1, fun _ v => []⟩, ⟨[0, 1, 2, 3, 4, 5, 6, 7, 8, 9, 10], [], [], fun _ v => v = .tuple #[.agg (arr8 D), .int .i64 0], fun _ v => []⟩, ⟨[0, 1, 2, 3, 4, 5, 6, 7, 8, 9, 10, 11], [], [], fun _ v => v = (.tuple #[.agg (arr8 D), .int .i64 0]), fun _ v => []⟩, ⟨[0, 1, 2, 3, 4, 5, 6, 7, 8, 9, 10, 11, 12], [], [], fun _ v => v = .agg (arr8 D), fun _ v => []⟩, ⟨[0, 1, 2, 3, 4, 5, 6, 7, 8, 9, 10, 11, 12], [], [], fun _ v => v = .int .i64 0, fun _ v => []⟩, ⟨[], [], [], fun _ v => ∃ g, v = .pointer (some ⟨g, 0, none⟩), fun _ v => [blk (ptrBlk v) (.cells (arr8 (List.replicate 32 0)) 22 (0, 0))]⟩, ⟨[0, 1, 2, 3, 4, 5, 6, 7, 8, 9, 10, 11, 12, 13, 15], [15], [], fun _ v => True, fun d v => [blk (ptrBlk (d 15)) (.cells ((arr8 D)) 22 (0, 0))]⟩, ⟨[0, 1, 2, 3, 4, 5, 6, 7, 8, 9, 10, 11, 12, 13, 14, 15, 16], [], [], fun _ v => v = (.int .i64 0), fun _ v => []⟩] ?A2 ?hA2 kR kR kR [0, 1, 2, 3, 4, 5, 6, 7, 8, 9, 10, 11, 12, 13, 14, 16, 17] kR ?hok2 ?fin2
        case hA2 => intro u; simp only [putAll, List.length_cons, List.length_nil, Nat.zero_add, Nat.reduceAdd, dstAt, List.getElem?_toArray, List.getElem?_cons_zero, List.getElem?_cons_succ, Option.bind_some, Act.put, List.setIfInBounds_toArray, List.set_cons_zero, List.set_cons_succ]; rfl
        case hok2 =>
          intro i hi
          obtain rfl | rfl | rfl | rfl | rfl | rfl | rfl | rfl | rfl | rfl | rfl | rfl | rfl | rfl | rfl | rfl | rfl | rfl : i = 0 ∨ i = 1 ∨ i = 2 ∨ i = 3 ∨ i = 4 ∨ i = 5 ∨ i = 6 ∨ i = 7 ∨ i = 8 ∨ i = 9 ∨ i = 10 ∨ i = 11 ∨ i = 12 ∨ i = 13 ∨ i = 14 ∨ i = 15 ∨ i = 16 ∨ i = 17 := by simp only [List.length_cons, List.length_nil, Nat.zero_add, Nat.reduceAdd] at hi; omega
          · clear hi
            refine step_of rfl rfl rfl ?_
            intro u G w hf S
            simp only [resOf, spec, RSpec.resAt, z0, z1, z2, z3, z4, z5, z6, z7, ptrBlk] at S ⊢
            refine does_load 22 (.tmp 3) g3 rfl _ _ _ (S.get (r := blk g3 _) pk) _ Tryd.underlying22 rfl 32 kR lN ?_; exact ⟨rfl, S⟩
          · clear hi
            refine step_of rfl rfl rfl ?_
            intro u G w hf S
            simp only [resOf, spec, RSpec.resAt, z0, z1, z2, z3, z4, z5, z6, z7, ptrBlk] at S ⊢
            simp only [does]
            go_simp
            try first | exact S | exact ⟨vv, S⟩ | exact vv
          · clear hi
            refine step_of rfl rfl rfl ?_
            intro u G w hf S
            have f1 : u 1 = .pointer (some ⟨g9, 0, none⟩) := hf 1 (by simp)
            simp only [resOf, spec, RSpec.resAt, z0, z1, z2, z3, z4, z5, z6, z7, ptrBlk] at S ⊢
            simp only [f1]
            refine does_load1 23 (.tmp 35) _ _ rfl (S.cell (g := g9) pk co) _ Tryd.underlying23 rfl ?_; exact ⟨rfl, S⟩
          · clear hi
            refine step_of rfl rfl rfl ?_
            intro u G w hf S
            simp only [resOf, spec, RSpec.resAt, z0, z1, z2, z3, z4, z5, z6, z7, ptrBlk] at S ⊢
            simp only [does]
            go_simp
            try first | exact S | exact ⟨vv, S⟩ | exact vv
          · clear hi
            refine step_of rfl rfl rfl ?_
            intro u G w hf S
            have f3 : u 3 = .pointer (some ⟨g9, 1, none⟩) := hf 3 (by simp)
            simp only [resOf, spec, RSpec.resAt, z0, z1, z2, z3, z4, z5, z6, z7, ptrBlk] at S ⊢
            simp only [f3]
            refine does_load1 5 (.tmp 37) _ _ rfl (S.cell (g := g9) pk co) _ Tryd.underlying5 rfl ?_; exact ⟨rfl, S⟩
          · clear hi
            refine step_of rfl rfl rfl ?_
            intro u G w hf S
            simp only [resOf, spec, RSpec.resAt, z0, z1, z2, z3, z4, z5, z6, z7, ptrBlk] at S ⊢
            simp only [does]
            go_simp
            try first | exact S | exact ⟨vv, S⟩ | exact vv
          · clear hi
            refine step_of rfl rfl rfl ?_
            intro u G w hf S
            have f5 : u 5 = .pointer (some ⟨g9, 2, none⟩) := hf 5 (by simp)
            simp only [resOf, spec, RSpec.resAt, z0, z1, z2, z3, z4, z5, z6, z7, ptrBlk] at S ⊢
            simp only [f5]
            refine does_load1 24 (.tmp 39) _ _ rfl (S.cell (g := g9) pk co) _ Tryd.underlying24 rfl ?_; exact ⟨rfl, S⟩
          · clear hi
            refine step_of rfl rfl rfl ?_
            intro u G w hf S
            simp only [resOf, spec, RSpec.resAt, z0, z1, z2, z3, z4, z5, z6, z7, ptrBlk] at S ⊢
            simp only [does]
            go_simp
            try first | exact S | exact ⟨vv, S⟩ | exact vv
          · clear hi
            refine step_of rfl rfl rfl ?_
            intro u G w hf S
            simp only [resOf, spec, RSpec.resAt, z0, z1, z2, z3, z4, z5, z6, z7, ptrBlk] at S ⊢
            simp only [does]
            go_simp
            try first | exact S | exact ⟨vv, S⟩ | exact vv
          · clear hi
            refine step_of rfl rfl rfl ?_
            intro u G w hf S
            have f7 : u 7 = (.slice (some ⟨b2, off2, none⟩) ps.length c1) := hf 7 (by simp)
            have f8 : u 8 = (.int .i64 (k : Int)) := hf 8 (by simp)
            simp only [resOf, spec, RSpec.resAt, z0, z1, z2, z3, z4, z5, z6, z7, ptrBlk] at S ⊢
            simp only [f7, f8]
            simp only [does]
            go_simp
            try first | exact S | exact ⟨vv, S⟩ | exact vv
          · clear hi
            refine step_of rfl rfl rfl ?_
            intro u G w hf S
            have f9 : u 9 = .pointer (some ⟨b2, off2 + k, none⟩) := hf 9 (by simp)
            simp only [resOf, spec, RSpec.resAt, z0, z1, z2, z3, z4, z5, z6, z7, ptrBlk] at S ⊢
            simp only [f9]
            refine does_load1 25 (.tmp 43) _ _ rfl (S.old_cell hy) _ Tryd.underlying25 rfl ?_; exact ⟨rfl, S⟩
          · clear hi
            refine step_of rfl rfl rfl ?_
            intro u G w hf S
            have f0 : u 0 = .agg (arr8 L) := hf 0 (by simp)
            have f2 : u 2 = .int .u64 (x.tick.toNat : Int) := hf 2 (by simp)
            have f4 : u 4 = by8 x.kind := hf 4 (by simp)
            have f6 : u 6 = .int .i64 (cdV x) := hf 6 (by simp)
            have f10 : u 10 = p.1 := hf 10 (by simp)
            simp only [resOf, spec, RSpec.resAt, z0, z1, z2, z3, z4, z5, z6, z7, ptrBlk] at S ⊢
            simp only [f0, f2, f4, f6, f10]
            refine does_fn (args := [(.agg (arr8 L)), (.int .u64 (x.tick.toNat : Int)), (by8 x.kind), (.int .i64 (cdV x)), (p.1)]) Tryd.func16 kR kR (PK.out w (S.oldB HBS.out) kT) rfl ?_
            rintro e w1 ⟨rfl, T⟩
            exact ⟨_, rfl, rfl, S.call T⟩
          · clear hi
            refine step_of rfl rfl rfl ?_
            intro u G w hf S
            have f11 : u 11 = .tuple #[.agg (arr8 D), .int .i64 0] := hf 11 (by simp)
            simp only [resOf, spec, RSpec.resAt, z0, z1, z2, z3, z4, z5, z6, z7, ptrBlk] at S ⊢
            simp only [f11]
            simp only [does]
            go_simp
            try first | exact S | exact ⟨vv, S⟩ | exact vv
          · clear hi
            refine step_of rfl rfl rfl ?_
            intro u G w hf S
            have f12 : u 12 = (.tuple #[.agg (arr8 D), .int .i64 0]) := hf 12 (by simp)
            simp only [resOf, spec, RSpec.resAt, z0, z1, z2, z3, z4, z5, z6, z7, ptrBlk] at S ⊢
            simp only [f12]
            simp only [does]
            go_simp
            try first | exact S | exact ⟨vv, S⟩ | exact vv
          · clear hi
            refine step_of rfl rfl rfl ?_
            intro u G w hf S
            have f12 : u 12 = (.tuple #[.agg (arr8 D), .int .i64 0]) := hf 12 (by simp)
            simp only [resOf, spec, RSpec.resAt, z0, z1, z2, z3, z4, z5, z6, z7, ptrBlk] at S ⊢
            simp only [f12]
            simp only [does]
            go_simp
            try first | exact S | exact ⟨vv, S⟩ | exact vv
          · clear hi
            refine step_of rfl rfl rfl ?_
            intro u G w hf S
            simp only [resOf, spec, RSpec.resAt, z0, z1, z2, z3, z4, z5, z6, z7, ptrBlk] at S ⊢
            refine does_alloc S 22 (.agg (arr8 (List.replicate 32 0))) (arr8 (List.replicate 32 0)) kR rfl ?_; intro g w1 S; exact ⟨⟨g, rfl⟩, S⟩
          · clear hi
            refine step_of rfl rfl rfl ?_
            intro u G w hf S
            have f13 : u 13 = .agg (arr8 D) := hf 13 (by simp)
            have f15 : ∃ g, u 15 = .pointer (some ⟨g, 0, none⟩) := hf 15 (by simp)
            obtain ⟨g10, f15⟩ := f15
            have m15 : mask [0, 1, 2, 3, 4, 5, 6, 7, 8, 9, 10, 11, 12, 13, 15] u 15 = u 15 := rfl
            simp only [resOf, spec, RSpec.resAt, List.getD_cons_zero, List.getD_cons_succ, List.flatMap_cons, List.flatMap_nil, List.nil_append, List.cons_append, List.append_nil, List.append_assoc, m15, ptrBlk] at S ⊢
            simp only [m15, f13, f15] at S ⊢
            try simp only [ptrBlk] at S
            refine does_store S 22 (.tmp 10) (.tmp 46) _ rfl rfl 32 kR lN lN on1 ?_; intro w1 S; exact ⟨trivial, S⟩
          · clear hi
            refine step_of rfl rfl rfl ?_
            intro u G w hf S
            have f14 : u 14 = .int .i64 0 := hf 14 (by simp)
            have f15 : ∃ g, u 15 = .pointer (some ⟨g, 0, none⟩) := hf 15 (by simp)
            obtain ⟨g10, f15⟩ := f15
            simp only [resOf, spec, RSpec.resAt, z0, z1, z2, z3, z4, z5, z6, z7, ptrBlk] at S ⊢
            simp only [f14, f15]
            simp only [does]
            go_simp
            try first | exact S | exact ⟨vv, S⟩ | exact vv
        case fin2 =>
          intro u w hf S
          have f0 : u 0 = .agg (arr8 L) := hf 0 (by simp)
          have f1 : u 1 = .pointer (some ⟨g9, 0, none⟩) := hf 1 (by simp)
          have f2 : u 2 = .int .u64 (x.tick.toNat : Int) := hf 2 (by simp)
          have f3 : u 3 = .pointer (some ⟨g9, 1, none⟩) := hf 3 (by simp)
          have f4 : u 4 = by8 x.kind := hf 4 (by simp)
          have f5 : u 5 = .pointer (some ⟨g9, 2, none⟩) := hf 5 (by simp)
          have f6 : u 6 = .int .i64 (cdV x) := hf 6 (by simp)
          have f7 : u 7 = (.slice (some ⟨b2, off2, none⟩) ps.length c1) := hf 7 (by simp)
          have f8 : u 8 = (.int .i64 (k : Int)) := hf 8 (by simp)
          have f9 : u 9 = .pointer (some ⟨b2, off2 + k, none⟩) := hf 9 (by simp)
          have f10 : u 10 = p.1 := hf 10 (by simp)
          have f11 : u 11 = .tuple #[.agg (arr8 D), .int .i64 0] := hf 11 (by simp)
          have f12 : u 12 = (.tuple #[.agg (arr8 D), .int .i64 0]) := hf 12 (by simp)
          have f13 : u 13 = .agg (arr8 D) := hf 13 (by simp)
          have f14 : u 14 = .int .i64 0 := hf 14 (by simp)
          have f15 : ∃ g, u 15 = .pointer (some ⟨g, 0, none⟩) := hf 15 (by simp)
          obtain ⟨g10, f15⟩ := f15
          have f17 : u 17 = (.int .i64 0) := hf 17 (by simp)
          have m16_15 : mask [0, 1, 2, 3, 4, 5, 6, 7, 8, 9, 10, 11, 12, 13, 15] u 15 = u 15 := rfl
          simp only [resOf, spec, RSpec.resAt, List.getD_cons_zero, List.getD_cons_succ, List.flatMap_cons, List.flatMap_nil, List.nil_append, List.cons_append, List.append_nil, List.append_assoc, m16_15, ptrBlk] at S
          clear hf
          simp only [List.length_cons, List.length_nil, Nat.zero_add, Nat.reduceAdd, List.drop_succ_cons, List.drop_zero, f0, f1, f2, f3, f4, f5, f6, f7, f8, f9, f10, f11, f12, f13, f14, f15, f17]
          try simp only [f0, f1, f2, f3, f4, f5, f6, f7, f8, f9, f10, f11, f12, f13, f14, f15, f17, ptrBlk] at S
          clear f0 f1 f2 f3 f4 f5 f6 f7 f8 f9 f10 f11 f12 f13 f14 f15 f17 m16_15
          go_wp2_with (first | ((with_reducible refine iD 3 (.box 22 (.tmp 0)) ?_); refine step_boxA (dst := some 3) S 22 (.tmp 0) _ rfl gw ?_; clear S; intro g3 w S) | ((with_reducible refine iO _ (.load 50 _) ?_); first | (refine step_loadR 50 _ _ _ rfl _ (S.old_range hy) _ Tryd.underlying50 rfl 35 kR lN _ rfl gw ?_) | (refine step_loadP S 50 _ _ _ rfl _ _ _ pk 35 _ pT lN _ Tryd.underlying50 rfl kR gw ?_)) | ((with_reducible refine iD 9 (.alloc 50) ?_); refine step_alloc (dst := some 9) S 50 (.agg ((rcdL rcdZ).toArray)) ((rcdL rcdZ).toArray) kR rfl gw ?_; clear S; intro g9 w S) | ((with_reducible refine iO none (.store 50 (.tmp 9) (.tmp 32)) ?_); refine step_store S 50 (.tmp 9) (.tmp 32) _ _ rfl rfl _ _ pk 35 kR lN lN on1 gw ?_; clear S; intro w S) | ((with_reducible refine iO _ (.load 22 _) ?_); first | (refine step_load S 22 _ _ rfl _ _ _ pk _ Tryd.underlying22 rfl 32 kR lN gw ?_) | (refine step_loadO 22 _ _ rfl _ _ _ (S.old_heap (Hid.out (by assumption))) _ Tryd.underlying22 rfl 32 kR lN gw ?_) | (refine step_loadR 22 _ _ _ rfl _ (S.old_range hy) _ Tryd.underlying22 rfl 32 kR lN _ rfl gw ?_)) | ((with_reducible refine iO _ (.load 23 _) ?_); refine step_load1 23 _ _ _ rfl (cL) _ Tryd.underlying23 rfl gw ?_) | ((with_reducible refine iO _ (.load 5 _) ?_); refine step_load1 5 _ _ _ rfl (cL) _ Tryd.underlying5 rfl gw ?_) | ((with_reducible refine iO _ (.load 24 _) ?_); refine step_load1 24 _ _ _ rfl (cL) _ Tryd.underlying24 rfl gw ?_) | ((with_reducible refine iO _ (.load 25 _) ?_); refine step_load1 25 _ _ _ rfl (cL) _ Tryd.underlying25 rfl gw ?_) | ((with_reducible refine iD 10 (.alloc 22) ?_); refine step_alloc (dst := some 10) S 22 (.agg (arr8 (List.replicate 32 0))) (arr8 (List.replicate 32 0)) kR rfl gw ?_; clear S; intro g10 w S) | ((with_reducible refine iO none (.store 22 (.tmp 10) (.tmp 46)) ?_); refine step_store S 22 (.tmp 10) (.tmp 46) _ _ rfl rfl _ _ pk 32 kR lN lN on1 gw ?_; clear S; intro w S) | ((with_reducible refine iO _ (.load 22 _) ?_); first | (refine step_loadR 22 _ _ _ rfl _ (S.old_range hy) _ Tryd.underlying22 rfl 32 kR lN _ rfl gw ?_) | (refine step_loadP S 22 _ _ _ rfl _ _ _ pk 32 _ pT lN _ Tryd.underlying22 rfl kR gw ?_)) | ((with_reducible refine iO none (.store 22 (.tmp 3) (.tmp 58)) ?_); refine step_store S 22 (.tmp 3) (.tmp 58) _ _ rfl rfl _ _ pk 32 kR lN lN on1 gw ?_; clear S; intro w S) | fail)
          go_ret2
          exact ⟨by rw [show N = k from HN1.out]; rfl, S.nil⟩
    · obtain rfl : k = l.length := by omega
      have hnN : N = l.length := by
        rw [List.drop_of_length_le (Nat.le_refl _)] at hn
        simpa [vfN] using hn
      have hki : ¬ (l.length : Int) < (l.length : Int) := by omega
      have HNN := Lib.hid hnN; clear hnN
      clear hn
      go_wp2_with (first | ((with_reducible refine iD 3 (.box 22 (.tmp 0)) ?_); refine step_boxA (dst := some 3) S 22 (.tmp 0) _ rfl gw ?_; clear S; intro g3 w S) | ((with_reducible refine iO _ (.load 50 _) ?_); first | (refine step_loadR 50 _ _ _ rfl _ (S.old_range hy) _ Tryd.underlying50 rfl 35 kR lN _ rfl gw ?_) | (refine step_loadP S 50 _ _ _ rfl _ _ _ pk 35 _ pT lN _ Tryd.underlying50 rfl kR gw ?_)) | ((with_reducible refine iD 9 (.alloc 50) ?_); refine step_alloc (dst := some 9) S 50 (.agg ((rcdL rcdZ).toArray)) ((rcdL rcdZ).toArray) kR rfl gw ?_; clear S; intro g9 w S) | ((with_reducible refine iO none (.store 50 (.tmp 9) (.tmp 32)) ?_); refine step_store S 50 (.tmp 9) (.tmp 32) _ _ rfl rfl _ _ pk 35 kR lN lN on1 gw ?_; clear S; intro w S) | ((with_reducible refine iO _ (.load 22 _) ?_); first | (refine step_load S 22 _ _ rfl _ _ _ pk _ Tryd.underlying22 rfl 32 kR lN gw ?_) | (refine step_loadO 22 _ _ rfl _ _ _ (S.old_heap (Hid.out (by assumption))) _ Tryd.underlying22 rfl 32 kR lN gw ?_) | (refine step_loadR 22 _ _ _ rfl _ (S.old_range hy) _ Tryd.underlying22 rfl 32 kR lN _ rfl gw ?_)) | ((with_reducible refine iO _ (.load 23 _) ?_); refine step_load1 23 _ _ _ rfl (cL) _ Tryd.underlying23 rfl gw ?_) | ((with_reducible refine iO _ (.load 5 _) ?_); refine step_load1 5 _ _ _ rfl (cL) _ Tryd.underlying5 rfl gw ?_) | ((with_reducible refine iO _ (.load 24 _) ?_); refine step_load1 24 _ _ _ rfl (cL) _ Tryd.underlying24 rfl gw ?_) | ((with_reducible refine iO _ (.load 25 _) ?_); refine step_load1 25 _ _ _ rfl (cL) _ Tryd.underlying25 rfl gw ?_) | ((with_reducible refine iD 10 (.alloc 22) ?_); refine step_alloc (dst := some 10) S 22 (.agg (arr8 (List.replicate 32 0))) (arr8 (List.replicate 32 0)) kR rfl gw ?_; clear S; intro g10 w S) | ((with_reducible refine iO none (.store 22 (.tmp 10) (.tmp 46)) ?_); refine step_store S 22 (.tmp 10) (.tmp 46) _ _ rfl rfl _ _ pk 32 kR lN lN on1 gw ?_; clear S; intro w S) | ((with_reducible refine iO _ (.load 22 _) ?_); first | (refine step_loadR 22 _ _ _ rfl _ (S.old_range hy) _ Tryd.underlying22 rfl 32 kR lN _ rfl gw ?_) | (refine step_loadP S 22 _ _ _ rfl _ _ _ pk 32 _ pT lN _ Tryd.underlying22 rfl kR gw ?_)) | ((with_reducible refine iO none (.store 22 (.tmp 3) (.tmp 58)) ?_); refine step_store S 22 (.tmp 3) (.tmp 58) _ _ rfl rfl _ _ pk 32 kR lN lN on1 gw ?_; clear S; intro w S) | fail)
      go_ret2
      exact ⟨by rw [HNN.out]; rfl, S.nil⟩
end Go.Proofs.YtfhkmmagpnojmaaDoor
