/- AuthGrows, AuthNever: their walks. No condition but the tables and the reach. -/
import Derived.Test.YtioonimpobcglaaDoorAlv
set_option linter.unusedSimpArgs false
set_option linter.unusedVariables false
namespace Go.Proofs.YtioonimpobcglaaDoor
open Go.RowKit

theorem prm_step (r kind : Nat) (h1 : 1 ≤ r) (h2 : r < 3) (h : prmB r kind = true) : prmB (r + 1) kind = true := by
  rw [prmB_eq] at h ⊢
  have h := of_decide_eq_true h
  apply decide_eq_true
  omega

set_option maxRecDepth 100000 in
set_option maxHeartbeats 4000000 in
theorem grows_out (role kind : Nat) (w0 : World) (hK : KT w0) (hP : PT w0) (hr : role < 256) (hk : kind < 256) (h : role < 1 ∨ 3 < role ∨ kind < 1 ∨ 6 < kind) :
    Calls Tryd.prog 7 #[.int .u8 (role : Int), .int .u8 (kind : Int)] w0 fun e w' => e = .returned (.bool true) ∧ Has w0 w' [] := by
  have S := Has.start w0
  have p1 := fun w hK hP => alive_s w hK hP
  have p2 := fun w hP => permits_s role kind w hP hr hk
  rw [show prmB role kind = false by rw [prmB_eq]; apply decide_eq_false; omega] at p2
  have HX := Lib.hid h
  clear h
  have HK := Lib.hid hK; have HP := Lib.hid hP; have P1 := Lib.hid p1; have P2 := Lib.hid p2; clear hK hP p1 p2
  go_enter Tryd.func7, Tryd.ntmps7
  go_wp2_with (first | (go_at_call 31; (with_reducible refine (P1.out _ (S.kt (Hid.out (by assumption))) (S.pt HP.out)).mono ?_); rintro e w1 ⟨rfl, T⟩; replace S := S.call T; clear T; (try simp only [List.nil_append, List.cons_append] at S)) | (go_at_call 27; (with_reducible refine (P2.out _ (S.pt HP.out)).mono ?_); rintro e w1 ⟨rfl, T⟩; replace S := S.call T; clear T; (try simp only [List.nil_append, List.cons_append] at S)) | fail)
  all_goals first
    | (go_ret; exact ⟨rfl, S.nil⟩)
    | (exfalso; have := HX.out; omega)

set_option maxRecDepth 100000 in
set_option maxHeartbeats 4000000 in
theorem grows1t (kind : Nat) (w0 : World) (hK : KT w0) (hP : PT w0) (hk : 1 ≤ kind ∧ kind ≤ 6) (hB : prmB 1 kind = true) :
    Calls Tryd.prog 7 #[.int .u8 1, .int .u8 (kind : Int)] w0 fun e w' => e = .returned (.bool true) ∧ Has w0 w' [] := by
  have S := Has.start w0
  have p1 := fun w hK hP => alive_s w hK hP
  have p2 : ∀ w, PT w → Calls Tryd.prog 27 #[.int .u8 1, .int .u8 (kind : Int)] w fun e w' => e = .returned (.bool true) ∧ Has w w' [] := fun w h => by have := permits_s 1 kind w h (by decide) (by omega); rw [hB] at this; exact this
  have p3 : ∀ w, PT w → Calls Tryd.prog 27 #[.int .u8 1, .int .u8 4] w fun e w' => e = .returned (.bool true) ∧ Has w w' [] := fun w h => permits_s 1 4 w h (by decide) (by decide)
  have p4 : ∀ w, PT w → Calls Tryd.prog 27 #[.int .u8 1, .int .u8 6] w fun e w' => e = .returned (.bool false) ∧ Has w w' [] := fun w h => permits_s 1 6 w h (by decide) (by decide)
  have p5 : ∀ w, PT w → Calls Tryd.prog 27 #[.int .u8 1, .int .u8 1] w fun e w' => e = .returned (.bool false) ∧ Has w w' [] := fun w h => permits_s 1 1 w h (by decide) (by decide)
  have p6 : ∀ w, PT w → Calls Tryd.prog 27 #[.int .u8 2, .int .u8 (kind : Int)] w fun e w' => e = .returned (.bool true) ∧ Has w w' [] := fun w h => by have := permits_s 2 kind w h (by decide) (by omega); rw [prm_step 1 kind (by decide) (by decide) hB] at this; exact this
  have n1 : ¬ (kind : Int) < 1 := by omega
  have n2 : ¬ (6 : Int) < (kind : Int) := by omega
  clear hB
  have HK := Lib.hid hK; have HP := Lib.hid hP; have P1 := Lib.hid p1; have P2 := Lib.hid p2; have P3 := Lib.hid p3; have P4 := Lib.hid p4; have P5 := Lib.hid p5; have P6 := Lib.hid p6; clear hK hP p1 p2 p3 p4 p5 p6
  go_enter Tryd.func7, Tryd.ntmps7
  go_wp2_with (first | (go_at_call 31; (with_reducible refine (P1.out _ (S.kt (Hid.out (by assumption))) (S.pt HP.out)).mono ?_); rintro e w1 ⟨rfl, T⟩; replace S := S.call T; clear T; (try simp only [List.nil_append, List.cons_append] at S)) | (go_at_call 27; (with_reducible refine (P2.out _ (S.pt HP.out)).mono ?_); rintro e w1 ⟨rfl, T⟩; replace S := S.call T; clear T; (try simp only [List.nil_append, List.cons_append] at S)) | (go_at_call 27; (with_reducible refine (P3.out _ (S.pt HP.out)).mono ?_); rintro e w1 ⟨rfl, T⟩; replace S := S.call T; clear T; (try simp only [List.nil_append, List.cons_append] at S)) | (go_at_call 27; (with_reducible refine (P4.out _ (S.pt HP.out)).mono ?_); rintro e w1 ⟨rfl, T⟩; replace S := S.call T; clear T; (try simp only [List.nil_append, List.cons_append] at S)) | (go_at_call 27; (with_reducible refine (P5.out _ (S.pt HP.out)).mono ?_); rintro e w1 ⟨rfl, T⟩; replace S := S.call T; clear T; (try simp only [List.nil_append, List.cons_append] at S)) | (go_at_call 27; (with_reducible refine (P6.out _ (S.pt HP.out)).mono ?_); rintro e w1 ⟨rfl, T⟩; replace S := S.call T; clear T; (try simp only [List.nil_append, List.cons_append] at S)) | fail)
  all_goals (go_ret; exact ⟨rfl, S.nil⟩)

set_option maxRecDepth 100000 in
set_option maxHeartbeats 4000000 in
theorem grows1f (kind : Nat) (w0 : World) (hK : KT w0) (hP : PT w0) (hk : 1 ≤ kind ∧ kind ≤ 6) (hB : prmB 1 kind = false) :
    Calls Tryd.prog 7 #[.int .u8 1, .int .u8 (kind : Int)] w0 fun e w' => e = .returned (.bool true) ∧ Has w0 w' [] := by
  have S := Has.start w0
  have p1 := fun w hK hP => alive_s w hK hP
  have p2 : ∀ w, PT w → Calls Tryd.prog 27 #[.int .u8 1, .int .u8 (kind : Int)] w fun e w' => e = .returned (.bool false) ∧ Has w w' [] := fun w h => by have := permits_s 1 kind w h (by decide) (by omega); rw [hB] at this; exact this
  have p3 : ∀ w, PT w → Calls Tryd.prog 27 #[.int .u8 1, .int .u8 4] w fun e w' => e = .returned (.bool true) ∧ Has w w' [] := fun w h => permits_s 1 4 w h (by decide) (by decide)
  have p4 : ∀ w, PT w → Calls Tryd.prog 27 #[.int .u8 1, .int .u8 6] w fun e w' => e = .returned (.bool false) ∧ Has w w' [] := fun w h => permits_s 1 6 w h (by decide) (by decide)
  have p5 : ∀ w, PT w → Calls Tryd.prog 27 #[.int .u8 1, .int .u8 1] w fun e w' => e = .returned (.bool false) ∧ Has w w' [] := fun w h => permits_s 1 1 w h (by decide) (by decide)
  have p6 := trivial
  have n1 : ¬ (kind : Int) < 1 := by omega
  have n2 : ¬ (6 : Int) < (kind : Int) := by omega
  clear hB
  have HK := Lib.hid hK; have HP := Lib.hid hP; have P1 := Lib.hid p1; have P2 := Lib.hid p2; have P3 := Lib.hid p3; have P4 := Lib.hid p4; have P5 := Lib.hid p5; have P6 := Lib.hid p6; clear hK hP p1 p2 p3 p4 p5 p6
  go_enter Tryd.func7, Tryd.ntmps7
  go_wp2_with (first | (go_at_call 31; (with_reducible refine (P1.out _ (S.kt (Hid.out (by assumption))) (S.pt HP.out)).mono ?_); rintro e w1 ⟨rfl, T⟩; replace S := S.call T; clear T; (try simp only [List.nil_append, List.cons_append] at S)) | (go_at_call 27; (with_reducible refine (P2.out _ (S.pt HP.out)).mono ?_); rintro e w1 ⟨rfl, T⟩; replace S := S.call T; clear T; (try simp only [List.nil_append, List.cons_append] at S)) | (go_at_call 27; (with_reducible refine (P3.out _ (S.pt HP.out)).mono ?_); rintro e w1 ⟨rfl, T⟩; replace S := S.call T; clear T; (try simp only [List.nil_append, List.cons_append] at S)) | (go_at_call 27; (with_reducible refine (P4.out _ (S.pt HP.out)).mono ?_); rintro e w1 ⟨rfl, T⟩; replace S := S.call T; clear T; (try simp only [List.nil_append, List.cons_append] at S)) | (go_at_call 27; (with_reducible refine (P5.out _ (S.pt HP.out)).mono ?_); rintro e w1 ⟨rfl, T⟩; replace S := S.call T; clear T; (try simp only [List.nil_append, List.cons_append] at S)) | fail)
  all_goals (go_ret; exact ⟨rfl, S.nil⟩)

set_option maxRecDepth 100000 in
set_option maxHeartbeats 4000000 in
theorem grows2t (kind : Nat) (w0 : World) (hK : KT w0) (hP : PT w0) (hk : 1 ≤ kind ∧ kind ≤ 6) (hB : prmB 2 kind = true) :
    Calls Tryd.prog 7 #[.int .u8 2, .int .u8 (kind : Int)] w0 fun e w' => e = .returned (.bool true) ∧ Has w0 w' [] := by
  have S := Has.start w0
  have p1 := fun w hK hP => alive_s w hK hP
  have p2 : ∀ w, PT w → Calls Tryd.prog 27 #[.int .u8 2, .int .u8 (kind : Int)] w fun e w' => e = .returned (.bool true) ∧ Has w w' [] := fun w h => by have := permits_s 2 kind w h (by decide) (by omega); rw [hB] at this; exact this
  have p3 : ∀ w, PT w → Calls Tryd.prog 27 #[.int .u8 2, .int .u8 4] w fun e w' => e = .returned (.bool true) ∧ Has w w' [] := fun w h => permits_s 2 4 w h (by decide) (by decide)
  have p4 : ∀ w, PT w → Calls Tryd.prog 27 #[.int .u8 2, .int .u8 6] w fun e w' => e = .returned (.bool false) ∧ Has w w' [] := fun w h => permits_s 2 6 w h (by decide) (by decide)
  have p5 : ∀ w, PT w → Calls Tryd.prog 27 #[.int .u8 2, .int .u8 1] w fun e w' => e = .returned (.bool true) ∧ Has w w' [] := fun w h => permits_s 2 1 w h (by decide) (by decide)
  have p6 : ∀ w, PT w → Calls Tryd.prog 27 #[.int .u8 3, .int .u8 (kind : Int)] w fun e w' => e = .returned (.bool true) ∧ Has w w' [] := fun w h => by have := permits_s 3 kind w h (by decide) (by omega); rw [prm_step 2 kind (by decide) (by decide) hB] at this; exact this
  have n1 : ¬ (kind : Int) < 1 := by omega
  have n2 : ¬ (6 : Int) < (kind : Int) := by omega
  clear hB
  have HK := Lib.hid hK; have HP := Lib.hid hP; have P1 := Lib.hid p1; have P2 := Lib.hid p2; have P3 := Lib.hid p3; have P4 := Lib.hid p4; have P5 := Lib.hid p5; have P6 := Lib.hid p6; clear hK hP p1 p2 p3 p4 p5 p6
  go_enter Tryd.func7, Tryd.ntmps7
  go_wp2_with (first | (go_at_call 31; (with_reducible refine (P1.out _ (S.kt (Hid.out (by assumption))) (S.pt HP.out)).mono ?_); rintro e w1 ⟨rfl, T⟩; replace S := S.call T; clear T; (try simp only [List.nil_append, List.cons_append] at S)) | (go_at_call 27; (with_reducible refine (P2.out _ (S.pt HP.out)).mono ?_); rintro e w1 ⟨rfl, T⟩; replace S := S.call T; clear T; (try simp only [List.nil_append, List.cons_append] at S)) | (go_at_call 27; (with_reducible refine (P3.out _ (S.pt HP.out)).mono ?_); rintro e w1 ⟨rfl, T⟩; replace S := S.call T; clear T; (try simp only [List.nil_append, List.cons_append] at S)) | (go_at_call 27; (with_reducible refine (P4.out _ (S.pt HP.out)).mono ?_); rintro e w1 ⟨rfl, T⟩; replace S := S.call T; clear T; (try simp only [List.nil_append, List.cons_append] at S)) | (go_at_call 27; (with_reducible refine (P5.out _ (S.pt HP.out)).mono ?_); rintro e w1 ⟨rfl, T⟩; replace S := S.call T; clear T; (try simp only [List.nil_append, List.cons_append] at S)) | (go_at_call 27; (with_reducible refine (P6.out _ (S.pt HP.out)).mono ?_); rintro e w1 ⟨rfl, T⟩; replace S := S.call T; clear T; (try simp only [List.nil_append, List.cons_append] at S)) | fail)
  all_goals (go_ret; exact ⟨rfl, S.nil⟩)

set_option maxRecDepth 100000 in
set_option maxHeartbeats 4000000 in
theorem grows2f (kind : Nat) (w0 : World) (hK : KT w0) (hP : PT w0) (hk : 1 ≤ kind ∧ kind ≤ 6) (hB : prmB 2 kind = false) :
    Calls Tryd.prog 7 #[.int .u8 2, .int .u8 (kind : Int)] w0 fun e w' => e = .returned (.bool true) ∧ Has w0 w' [] := by
  have S := Has.start w0
  have p1 := fun w hK hP => alive_s w hK hP
  have p2 : ∀ w, PT w → Calls Tryd.prog 27 #[.int .u8 2, .int .u8 (kind : Int)] w fun e w' => e = .returned (.bool false) ∧ Has w w' [] := fun w h => by have := permits_s 2 kind w h (by decide) (by omega); rw [hB] at this; exact this
  have p3 : ∀ w, PT w → Calls Tryd.prog 27 #[.int .u8 2, .int .u8 4] w fun e w' => e = .returned (.bool true) ∧ Has w w' [] := fun w h => permits_s 2 4 w h (by decide) (by decide)
  have p4 : ∀ w, PT w → Calls Tryd.prog 27 #[.int .u8 2, .int .u8 6] w fun e w' => e = .returned (.bool false) ∧ Has w w' [] := fun w h => permits_s 2 6 w h (by decide) (by decide)
  have p5 : ∀ w, PT w → Calls Tryd.prog 27 #[.int .u8 2, .int .u8 1] w fun e w' => e = .returned (.bool true) ∧ Has w w' [] := fun w h => permits_s 2 1 w h (by decide) (by decide)
  have p6 := trivial
  have n1 : ¬ (kind : Int) < 1 := by omega
  have n2 : ¬ (6 : Int) < (kind : Int) := by omega
  clear hB
  have HK := Lib.hid hK; have HP := Lib.hid hP; have P1 := Lib.hid p1; have P2 := Lib.hid p2; have P3 := Lib.hid p3; have P4 := Lib.hid p4; have P5 := Lib.hid p5; have P6 := Lib.hid p6; clear hK hP p1 p2 p3 p4 p5 p6
  go_enter Tryd.func7, Tryd.ntmps7
  go_wp2_with (first | (go_at_call 31; (with_reducible refine (P1.out _ (S.kt (Hid.out (by assumption))) (S.pt HP.out)).mono ?_); rintro e w1 ⟨rfl, T⟩; replace S := S.call T; clear T; (try simp only [List.nil_append, List.cons_append] at S)) | (go_at_call 27; (with_reducible refine (P2.out _ (S.pt HP.out)).mono ?_); rintro e w1 ⟨rfl, T⟩; replace S := S.call T; clear T; (try simp only [List.nil_append, List.cons_append] at S)) | (go_at_call 27; (with_reducible refine (P3.out _ (S.pt HP.out)).mono ?_); rintro e w1 ⟨rfl, T⟩; replace S := S.call T; clear T; (try simp only [List.nil_append, List.cons_append] at S)) | (go_at_call 27; (with_reducible refine (P4.out _ (S.pt HP.out)).mono ?_); rintro e w1 ⟨rfl, T⟩; replace S := S.call T; clear T; (try simp only [List.nil_append, List.cons_append] at S)) | (go_at_call 27; (with_reducible refine (P5.out _ (S.pt HP.out)).mono ?_); rintro e w1 ⟨rfl, T⟩; replace S := S.call T; clear T; (try simp only [List.nil_append, List.cons_append] at S)) | fail)
  all_goals (go_ret; exact ⟨rfl, S.nil⟩)

set_option maxRecDepth 100000 in
set_option maxHeartbeats 4000000 in
theorem grows3t (kind : Nat) (w0 : World) (hK : KT w0) (hP : PT w0) (hk : 1 ≤ kind ∧ kind ≤ 6) (hB : prmB 3 kind = true) :
    Calls Tryd.prog 7 #[.int .u8 3, .int .u8 (kind : Int)] w0 fun e w' => e = .returned (.bool true) ∧ Has w0 w' [] := by
  have S := Has.start w0
  have p1 := fun w hK hP => alive_s w hK hP
  have p2 : ∀ w, PT w → Calls Tryd.prog 27 #[.int .u8 3, .int .u8 (kind : Int)] w fun e w' => e = .returned (.bool true) ∧ Has w w' [] := fun w h => by have := permits_s 3 kind w h (by decide) (by omega); rw [hB] at this; exact this
  have p3 : ∀ w, PT w → Calls Tryd.prog 27 #[.int .u8 3, .int .u8 4] w fun e w' => e = .returned (.bool true) ∧ Has w w' [] := fun w h => permits_s 3 4 w h (by decide) (by decide)
  have p4 : ∀ w, PT w → Calls Tryd.prog 27 #[.int .u8 3, .int .u8 6] w fun e w' => e = .returned (.bool true) ∧ Has w w' [] := fun w h => permits_s 3 6 w h (by decide) (by decide)
  have p5 : ∀ w, PT w → Calls Tryd.prog 27 #[.int .u8 3, .int .u8 1] w fun e w' => e = .returned (.bool true) ∧ Has w w' [] := fun w h => permits_s 3 1 w h (by decide) (by decide)
  have p6 := trivial
  have n1 : ¬ (kind : Int) < 1 := by omega
  have n2 : ¬ (6 : Int) < (kind : Int) := by omega
  clear hB
  have HK := Lib.hid hK; have HP := Lib.hid hP; have P1 := Lib.hid p1; have P2 := Lib.hid p2; have P3 := Lib.hid p3; have P4 := Lib.hid p4; have P5 := Lib.hid p5; have P6 := Lib.hid p6; clear hK hP p1 p2 p3 p4 p5 p6
  go_enter Tryd.func7, Tryd.ntmps7
  go_wp2_with (first | (go_at_call 31; (with_reducible refine (P1.out _ (S.kt (Hid.out (by assumption))) (S.pt HP.out)).mono ?_); rintro e w1 ⟨rfl, T⟩; replace S := S.call T; clear T; (try simp only [List.nil_append, List.cons_append] at S)) | (go_at_call 27; (with_reducible refine (P2.out _ (S.pt HP.out)).mono ?_); rintro e w1 ⟨rfl, T⟩; replace S := S.call T; clear T; (try simp only [List.nil_append, List.cons_append] at S)) | (go_at_call 27; (with_reducible refine (P3.out _ (S.pt HP.out)).mono ?_); rintro e w1 ⟨rfl, T⟩; replace S := S.call T; clear T; (try simp only [List.nil_append, List.cons_append] at S)) | (go_at_call 27; (with_reducible refine (P4.out _ (S.pt HP.out)).mono ?_); rintro e w1 ⟨rfl, T⟩; replace S := S.call T; clear T; (try simp only [List.nil_append, List.cons_append] at S)) | (go_at_call 27; (with_reducible refine (P5.out _ (S.pt HP.out)).mono ?_); rintro e w1 ⟨rfl, T⟩; replace S := S.call T; clear T; (try simp only [List.nil_append, List.cons_append] at S)) | fail)
  all_goals (go_ret; exact ⟨rfl, S.nil⟩)

set_option maxRecDepth 100000 in
set_option maxHeartbeats 4000000 in
theorem grows3f (kind : Nat) (w0 : World) (hK : KT w0) (hP : PT w0) (hk : 1 ≤ kind ∧ kind ≤ 6) (hB : prmB 3 kind = false) :
    Calls Tryd.prog 7 #[.int .u8 3, .int .u8 (kind : Int)] w0 fun e w' => e = .returned (.bool true) ∧ Has w0 w' [] := by
  have S := Has.start w0
  have p1 := fun w hK hP => alive_s w hK hP
  have p2 : ∀ w, PT w → Calls Tryd.prog 27 #[.int .u8 3, .int .u8 (kind : Int)] w fun e w' => e = .returned (.bool false) ∧ Has w w' [] := fun w h => by have := permits_s 3 kind w h (by decide) (by omega); rw [hB] at this; exact this
  have p3 : ∀ w, PT w → Calls Tryd.prog 27 #[.int .u8 3, .int .u8 4] w fun e w' => e = .returned (.bool true) ∧ Has w w' [] := fun w h => permits_s 3 4 w h (by decide) (by decide)
  have p4 : ∀ w, PT w → Calls Tryd.prog 27 #[.int .u8 3, .int .u8 6] w fun e w' => e = .returned (.bool true) ∧ Has w w' [] := fun w h => permits_s 3 6 w h (by decide) (by decide)
  have p5 : ∀ w, PT w → Calls Tryd.prog 27 #[.int .u8 3, .int .u8 1] w fun e w' => e = .returned (.bool true) ∧ Has w w' [] := fun w h => permits_s 3 1 w h (by decide) (by decide)
  have p6 := trivial
  have n1 : ¬ (kind : Int) < 1 := by omega
  have n2 : ¬ (6 : Int) < (kind : Int) := by omega
  clear hB
  have HK := Lib.hid hK; have HP := Lib.hid hP; have P1 := Lib.hid p1; have P2 := Lib.hid p2; have P3 := Lib.hid p3; have P4 := Lib.hid p4; have P5 := Lib.hid p5; have P6 := Lib.hid p6; clear hK hP p1 p2 p3 p4 p5 p6
  go_enter Tryd.func7, Tryd.ntmps7
  go_wp2_with (first | (go_at_call 31; (with_reducible refine (P1.out _ (S.kt (Hid.out (by assumption))) (S.pt HP.out)).mono ?_); rintro e w1 ⟨rfl, T⟩; replace S := S.call T; clear T; (try simp only [List.nil_append, List.cons_append] at S)) | (go_at_call 27; (with_reducible refine (P2.out _ (S.pt HP.out)).mono ?_); rintro e w1 ⟨rfl, T⟩; replace S := S.call T; clear T; (try simp only [List.nil_append, List.cons_append] at S)) | (go_at_call 27; (with_reducible refine (P3.out _ (S.pt HP.out)).mono ?_); rintro e w1 ⟨rfl, T⟩; replace S := S.call T; clear T; (try simp only [List.nil_append, List.cons_append] at S)) | (go_at_call 27; (with_reducible refine (P4.out _ (S.pt HP.out)).mono ?_); rintro e w1 ⟨rfl, T⟩; replace S := S.call T; clear T; (try simp only [List.nil_append, List.cons_append] at S)) | (go_at_call 27; (with_reducible refine (P5.out _ (S.pt HP.out)).mono ?_); rintro e w1 ⟨rfl, T⟩; replace S := S.call T; clear T; (try simp only [List.nil_append, List.cons_append] at S)) | fail)
  all_goals (go_ret; exact ⟨rfl, S.nil⟩)

theorem authGrows_walk (role kind : Nat) (w0 : World) (hK : KT w0) (hP : PT w0) (hr : role < 256) (hk : kind < 256) :
    Calls Tryd.prog 7 #[.int .u8 (role : Int), .int .u8 (kind : Int)] w0 fun e w' => e = .returned (.bool true) ∧ Has w0 w' [] := by
  by_cases h : role < 1 ∨ 3 < role ∨ kind < 1 ∨ 6 < kind
  · exact grows_out role kind w0 hK hP hr hk h
  · have hk6 : 1 ≤ kind ∧ kind ≤ 6 := by omega
    obtain rfl | rfl | rfl : role = 1 ∨ role = 2 ∨ role = 3 := by omega
    · cases hB : prmB 1 kind with
      | true => exact grows1t kind w0 hK hP hk6 hB
      | false => exact grows1f kind w0 hK hP hk6 hB
    · cases hB : prmB 2 kind with
      | true => exact grows2t kind w0 hK hP hk6 hB
      | false => exact grows2f kind w0 hK hP hk6 hB
    · cases hB : prmB 3 kind with
      | true => exact grows3t kind w0 hK hP hk6 hB
      | false => exact grows3f kind w0 hK hP hk6 hB
end Go.Proofs.YtioonimpobcglaaDoor
