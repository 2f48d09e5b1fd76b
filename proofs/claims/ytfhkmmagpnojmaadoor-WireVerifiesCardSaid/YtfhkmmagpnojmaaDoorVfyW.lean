/- WireVerifies: the walk. No condition but the table of constants and the reach. -/
import Derived.Test.YtfhkmmagpnojmaaDoorBd
import Derived.Test.YtfhkmmagpnojmaaDoorVfyR
set_option linter.unusedSimpArgs false
set_option linter.unusedVariables false
namespace Go.Proofs.YtfhkmmagpnojmaaDoor
open Go.RowKit

set_option maxRecDepth 100000 in
set_option maxHeartbeats 8000000 in
theorem wireVerifies_walk (prev : List UInt8) (rv fv : Value) (l : List Rcd) (ps : List (Value × List UInt8)) (w0 : World) (hp : prev.length = 32) (hr : Sl w0 35 rv l.length (l.flatMap rcdL)) (hf : Fr w0 fv ps) (hK : KT w0) :
    Calls Tryd.prog 4 #[.agg (arr8 prev), rv, fv] w0 fun e w' => e = .returned (.bool true) ∧ Has w0 w' [] := by
  have S := Has.start w0
  obtain ⟨a0, c0, rfl, k1, k2⟩ := Sl.shape hr
  obtain ⟨a1, c1, rfl, k3, k4⟩ := Sl.shape hf.1
  have p1 := fun w h1 h2 h3 => verify_s prev (.slice a0 l.length c0) (.slice a1 ps.length c1) l ps w hp h1 h2 h3
  have p2 := fun w h1 h2 => refVerify_s prev (.slice a0 l.length c0) (.slice a1 ps.length c1) l ps w hp h1 h2
  obtain ⟨R, hR⟩ : ∃ R, R = vfR prev l (ps.map (·.2)) := ⟨_, rfl⟩
  rw [← hR] at p1 p2
  obtain ⟨N, E⟩ := R
  have HR := Lib.hid hr; have HF := Lib.hid hf; have HK := Lib.hid hK; have HP := Lib.hid hp; have P1 := Lib.hid p1; have P2 := Lib.hid p2; clear hr hf hK hp p1 p2
  clear hR
  go_enter Tryd.func4, Tryd.ntmps4
  go_wp2_with (first | ((with_reducible show wpList _ _ _ (⟨some 3, .box 22 (.tmp 0), _, _, _, _⟩ :: _) _ _); refine step_boxA (dst := some 3) S 22 (.tmp 0) _ rfl gw ?_; clear S; intro g3 w S) | ((with_reducible show wpList _ _ _ (⟨_, .load 22 _, _, _, _, _⟩ :: _) _ _); first | (refine step_load S 22 _ _ rfl _ _ _ pk _ Tryd.underlying22 rfl 32 (by kernel_rfl) (by first | rfl | (first | rfl | assumption | (exact Hid.out (by assumption)) | (rw [arr8_size]; first | rfl | assumption | (exact Hid.out (by assumption)) | exact List.length_replicate ..) | (simp [arr8_size]; done))) gw ?_) | (refine step_loadO 22 _ _ rfl _ _ _ (S.old_heap (Hid.out (by assumption))) _ Tryd.underlying22 rfl 32 (by kernel_rfl) (by first | rfl | (first | rfl | assumption | (exact Hid.out (by assumption)) | (rw [arr8_size]; first | rfl | assumption | (exact Hid.out (by assumption)) | exact List.length_replicate ..) | (simp [arr8_size]; done))) gw ?_) | (refine step_loadR 22 _ _ _ rfl _ (S.old_range hy) _ Tryd.underlying22 rfl 32 (by kernel_rfl) (by first | rfl | (first | rfl | assumption | (exact Hid.out (by assumption)) | (rw [arr8_size]; first | rfl | assumption | (exact Hid.out (by assumption)) | exact List.length_replicate ..) | (simp [arr8_size]; done))) _ rfl gw ?_)) | (go_at_call 18; (with_reducible refine (P1.out _ (S.old HR.out) (S.oldF HF.out) (S.kt (Hid.out (by assumption)))).mono ?_); rintro e w1 ⟨rfl, T⟩; replace S := S.call T; clear T; (try simp only [List.nil_append, List.cons_append] at S)) | (go_at_call 19; (with_reducible refine (P2.out _ (S.old HR.out) (S.oldF HF.out)).mono ?_); rintro e w1 ⟨rfl, T⟩; replace S := S.call T; clear T; (try simp only [List.nil_append, List.cons_append] at S)) | fail)
  go_ret
  exact ⟨rfl, S.nil⟩

theorem wireVerifies_c (prev : List UInt8) (rv fv : Value) (l : List Rcd) (ps : List (Value × List UInt8)) (w0 : World) (hp : prev.length = 32) (hr : Sl w0 35 rv l.length (l.flatMap rcdL)) (hf : Sl w0 1 fv ps.length (ps.map (·.1))) (hb : ∀ z ∈ ps, Bs w0 z.1 z.2 ∧ z.2.length ≤ 140737488351232) (hK : KT w0) :
    Calls Tryd.prog 4 #[.agg (arr8 prev), rv, fv] w0 fun e w' => e = .returned (.bool true) ∧ Has w0 w' [] :=
  wireVerifies_walk prev rv fv l ps w0 hp hr ⟨hf, fun z hz => (hb z hz).1⟩ hK
end Go.Proofs.YtfhkmmagpnojmaaDoor
