/- Hashes: what Write, Finish, Check of both and SameHash return, in terms of things made. No condition but the table of constants. -/
import Derived.Test.YthdhnpejakljkaaDoorStC
import Derived.Test.YthdhnpejakljkaaDoorStM
import Derived.Test.YthdhnpejakljkaaDoorRefWrite
import Derived.Test.YthdhnpejakljkaaDoorSum
import Derived.Test.YthdhnpejakljkaaDoorEq
set_option linter.unusedSimpArgs false
set_option linter.unusedVariables false
namespace Go.Proofs.YthdhnpejakljkaaDoor
open Go.RowKit

/-- A call that returns a hash whose tail is new memory, and an error. -/
def MadeH (w : World) (s : St) (ts : List UInt8) (n : Nat) (code : Int) (e : Ending) (w' : World) : Prop :=
  ∃ a c, e = .returned (.tuple #[.agg (cellsH s (.slice a ts.length c) n), .int .i64 code]) ∧ Has w w' [row8 (.slice a ts.length c) ts]
/-- .. whose tail can be read. -/
def ReadH (w : World) (s : St) (ts : List UInt8) (n : Nat) (code : Int) (e : Ending) (w' : World) : Prop :=
  ∃ a c, e = .returned (.tuple #[.agg (cellsH s (.slice a ts.length c) n), .int .i64 code]) ∧ Bs w' (.slice a ts.length c) ts ∧ Has w w' []

theorem write_s (s : St) (t v : Value) (ts bs : List UInt8) (n : Nat) (w : World) (ht : Bs w t ts) (hv : Bs w v bs) (hK : KT w) :
    Calls Tryd.prog 19 #[.agg (cellsH s t n), v] w (MadeH w (wS s ts n bs) (wT ts n bs) (wN ts.length n bs.length) (wE ts.length n bs.length)) :=
  (write_any s t v ts bs n w ht hv hK).mono fun e w' h => by
    obtain ⟨a, c, he, ho, hb⟩ := h
    exact ⟨a, c, he, Has.of_row8 hb ho⟩

theorem refWrite_s (s : St) (t v : Value) (ts bs : List UInt8) (n : Nat) (w : World) (ht : Bs w t ts) (hv : Bs w v bs) :
    Calls Tryd.prog 20 #[.agg (cellsH s t n), v] w (ReadH w (wS s ts n bs) (wT ts n bs) (wN ts.length n bs.length) (wE ts.length n bs.length)) :=
  (refWrite_any s t v ts bs n w ht hv).mono fun e w' h => by
    obtain ⟨a, c, he, ho, hb⟩ := h
    exact ⟨a, c, he, ho, Has.of_below hb⟩

theorem finish_s (s : St) (t : Value) (ts : List UInt8) (n : Nat) (w : World) (ht : Bs w t ts) (hK : KT w) :
    Calls Tryd.prog 23 #[.agg (cellsH s t n)] w fun e w' => e = .returned (.tuple #[.agg (arr8 (fD s ts n)), .int .i64 (chkE ts.length n)]) ∧ Has w w' [] :=
  (finish_any s t ts n w ht hK).mono fun _ _ h => ⟨h.1, Has.of_below h.2⟩

theorem refFinish_s (s : St) (t : Value) (ts : List UInt8) (n : Nat) (w : World) (ht : Bs w t ts) :
    Calls Tryd.prog 24 #[.agg (cellsH s t n)] w fun e w' => e = .returned (.tuple #[.agg (arr8 (fD s ts n)), .int .i64 (chkE ts.length n)]) ∧ Has w w' [] :=
  (refFinishH_any s t ts n w ht).mono fun _ _ h => ⟨h.1, Has.of_below h.2⟩

theorem check_s (s : St) (a : Option Addr) (m c n : Nat) (w : World) (hm : m ≤ 9223372036854775807) :
    Calls Tryd.prog 21 #[.agg (cellsH s (.slice a m c) n)] w fun e w' => e = .returned (.int .i64 (chkE m n)) ∧ Has w w' [] :=
  (check_any s a m c n w hm).mono fun _ _ h => ⟨h.1, Has.of_below h.2⟩

theorem refCheck_s (s : St) (a : Option Addr) (m c n : Nat) (w : World) (hm : m ≤ 9223372036854775807) :
    Calls Tryd.prog 22 #[.agg (cellsH s (.slice a m c) n)] w fun e w' => e = .returned (.int .i64 (chkE m n)) ∧ Has w w' [] :=
  (refCheck_any s a m c n w hm).mono fun _ _ h => ⟨h.1, Has.of_below h.2⟩

theorem cellsH_st (s : St) (t : Value) (n : Nat) : (((cellsH s t n).toList.drop 0).take 8).toArray = cellsS s := rfl

theorem cellsH_t (s : St) (t : Value) (n : Nat) : (cellsH s t n)[8]? = some t := rfl
theorem cellsH_n (s : St) (t : Value) (n : Nat) : (cellsH s t n)[9]? = some (.int .u64 (n : Int)) := rfl

theorem cellsH_one (s : St) (a : Option Addr) (m c n : Nat) : (cellsH s (.slice a m c) n).all (·.oneCell') = true := by simp [cellsH, U32_one, one_slice, one_int]

theorem eql8w (s : St) (w' : World) : (binOp .eql 23 (.agg (cellsS s)) (.agg (cellsS s))).run Tryd.prog w' = .ok (.bool true) w' := by
  have := eql_words (P := Tryd.prog) 23 22 8 Tryd.underlying23 Tryd.underlying22 (by kernel_rfl) [s.a, s.b, s.c, s.d, s.e, s.f, s.g, s.h] [s.a, s.b, s.c, s.d, s.e, s.f, s.g, s.h] rfl rfl w'
  rwa [decide_eq_true rfl] at this

set_option maxRecDepth 20000 in
set_option maxHeartbeats 1000000 in
theorem sameHash_s (s : St) (t1 t2 : Value) (ts : List UInt8) (n : Nat) (w0 : World) (h1 : Bs w0 t1 ts) (h2 : Bs w0 t2 ts) :
    Calls Tryd.prog 16 #[.agg (cellsH s t1 n), .agg (cellsH s t2 n)] w0 fun e w' => e = .returned (.bool true) ∧ Has w0 w' [] := by
  have S := Has.start w0
  have he := eql8w s
  have eg : Tryd.prog.eqGuardType Tryd.prog.depth 23 = false := by kernel_rfl
  have H1 := Lib.hid h1; have H2 := Lib.hid h2; clear h1 h2
  go_enter Tryd.func16, Tryd.ntmps16
  go_wp2_with (first | ((with_reducible show wpList _ _ _ (⟨some 2, .box 30 (.tmp 0), _, _, _, _⟩ :: _) _ _); refine step_boxA (dst := some 2) S 30 (.tmp 0) _ rfl rfl ?_; clear S; intro g2 w S) | ((with_reducible show wpList _ _ _ (⟨some 3, .box 30 (.tmp 1), _, _, _, _⟩ :: _) _ _); refine step_boxA (dst := some 3) S 30 (.tmp 1) _ rfl rfl ?_; clear S; intro g3 w S) | ((with_reducible show wpList _ _ _ (⟨some 6, .load 23 (.tmp 5), _, _, _, _⟩ :: _) _ _); refine step_loadP S 23 (.tmp 5) _ _ rfl _ _ _ (by (repeat (first | exact Pick.head _ _ | apply Pick.tail)); first | done | fail) 8 _ (by (first | exact cellsH_st .. | assumption | rfl)) (by first | rfl | (first | rfl | assumption | (exact Hid.out (by assumption)) | (rw [arr8_size]; first | rfl | assumption | (exact Hid.out (by assumption)) | exact List.length_replicate ..) | (simp [arr8_size]; done))) _ Tryd.underlying23 rfl (by kernel_rfl) rfl ?_) | ((with_reducible show wpList _ _ _ (⟨some 8, .load 23 (.tmp 7), _, _, _, _⟩ :: _) _ _); refine step_loadP S 23 (.tmp 7) _ _ rfl _ _ _ (by (repeat (first | exact Pick.head _ _ | apply Pick.tail)); first | done | fail) 8 _ (by (first | exact cellsH_st .. | assumption | rfl)) (by first | rfl | (first | rfl | assumption | (exact Hid.out (by assumption)) | (rw [arr8_size]; first | rfl | assumption | (exact Hid.out (by assumption)) | exact List.length_replicate ..) | (simp [arr8_size]; done))) _ Tryd.underlying23 rfl (by kernel_rfl) rfl ?_) | ((with_reducible show wpList _ _ _ (⟨some 12, .load 27 (.tmp 11), _, _, _, _⟩ :: _) _ _); first | (refine step_load1 27 (.tmp 11) _ _ rfl (S.cell (by (repeat (first | exact Pick.head _ _ | apply Pick.tail)); first | done | fail) (by (first | assumption | (exact Hid.out (by assumption)) | exact cellsH_t .. | exact cellsH_n .. | (simp only [List.setIfInBounds_toArray, List.set_cons_zero, List.set_cons_succ, List.getElem?_toArray, List.getElem?_cons_zero, List.getElem?_cons_succ]; rfl) | rfl))) _ Tryd.underlying27 rfl rfl ?_) | (refine step_load1 27 (.tmp 11) _ _ rfl (S.row_cell (by (repeat (first | exact Pick.head _ _ | apply Pick.tail)); first | done | fail) _ _ (by first | assumption | exact Hid.out (by assumption) | rfl)) _ Tryd.underlying27 rfl rfl ?_) | (refine step_load1 27 (.tmp 11) _ _ rfl (S.old_cell (by first | assumption | exact Hid.out (by assumption))) _ Tryd.underlying27 rfl rfl ?_)) | ((with_reducible show wpList _ _ _ (⟨some 13, .convert 27 9 (.tmp 12), _, _, _, _⟩ :: _) _ _); refine step_conv 27 9 5 (.tmp 12) _ _ rfl Tryd.underlying27 Tryd.underlying5 Tryd.underlying9 (by first | assumption | exact S.oldB (Hid.out (by assumption)) | exact Bs.mk0 _ _ | exact S.bs (by (repeat (first | exact Pick.head _ _ | apply Pick.tail)); first | done | fail) | exact S.bsr (by (repeat (first | exact Pick.head _ _ | apply Pick.tail)); first | done | fail)) rfl ?_) | ((with_reducible show wpList _ _ _ (⟨some 15, .load 27 (.tmp 14), _, _, _, _⟩ :: _) _ _); first | (refine step_load1 27 (.tmp 14) _ _ rfl (S.cell (by (repeat (first | exact Pick.head _ _ | apply Pick.tail)); first | done | fail) (by (first | assumption | (exact Hid.out (by assumption)) | exact cellsH_t .. | exact cellsH_n .. | (simp only [List.setIfInBounds_toArray, List.set_cons_zero, List.set_cons_succ, List.getElem?_toArray, List.getElem?_cons_zero, List.getElem?_cons_succ]; rfl) | rfl))) _ Tryd.underlying27 rfl rfl ?_) | (refine step_load1 27 (.tmp 14) _ _ rfl (S.row_cell (by (repeat (first | exact Pick.head _ _ | apply Pick.tail)); first | done | fail) _ _ (by first | assumption | exact Hid.out (by assumption) | rfl)) _ Tryd.underlying27 rfl rfl ?_) | (refine step_load1 27 (.tmp 14) _ _ rfl (S.old_cell (by first | assumption | exact Hid.out (by assumption))) _ Tryd.underlying27 rfl rfl ?_)) | ((with_reducible show wpList _ _ _ (⟨some 16, .convert 27 9 (.tmp 15), _, _, _, _⟩ :: _) _ _); refine step_conv 27 9 5 (.tmp 15) _ _ rfl Tryd.underlying27 Tryd.underlying5 Tryd.underlying9 (by first | assumption | exact S.oldB (Hid.out (by assumption)) | exact Bs.mk0 _ _ | exact S.bs (by (repeat (first | exact Pick.head _ _ | apply Pick.tail)); first | done | fail) | exact S.bsr (by (repeat (first | exact Pick.head _ _ | apply Pick.tail)); first | done | fail)) rfl ?_) | ((with_reducible show wpList _ _ _ (⟨some 21, .load 28 (.tmp 20), _, _, _, _⟩ :: _) _ _); first | (refine step_load1 28 (.tmp 20) _ _ rfl (S.cell (by (repeat (first | exact Pick.head _ _ | apply Pick.tail)); first | done | fail) (by (first | assumption | (exact Hid.out (by assumption)) | exact cellsH_t .. | exact cellsH_n .. | (simp only [List.setIfInBounds_toArray, List.set_cons_zero, List.set_cons_succ, List.getElem?_toArray, List.getElem?_cons_zero, List.getElem?_cons_succ]; rfl) | rfl))) _ Tryd.underlying28 rfl rfl ?_) | (refine step_load1 28 (.tmp 20) _ _ rfl (S.row_cell (by (repeat (first | exact Pick.head _ _ | apply Pick.tail)); first | done | fail) _ _ (by first | assumption | exact Hid.out (by assumption) | rfl)) _ Tryd.underlying28 rfl rfl ?_) | (refine step_load1 28 (.tmp 20) _ _ rfl (S.old_cell (by first | assumption | exact Hid.out (by assumption))) _ Tryd.underlying28 rfl rfl ?_)) | ((with_reducible show wpList _ _ _ (⟨some 23, .load 28 (.tmp 22), _, _, _, _⟩ :: _) _ _); first | (refine step_load1 28 (.tmp 22) _ _ rfl (S.cell (by (repeat (first | exact Pick.head _ _ | apply Pick.tail)); first | done | fail) (by (first | assumption | (exact Hid.out (by assumption)) | exact cellsH_t .. | exact cellsH_n .. | (simp only [List.setIfInBounds_toArray, List.set_cons_zero, List.set_cons_succ, List.getElem?_toArray, List.getElem?_cons_zero, List.getElem?_cons_succ]; rfl) | rfl))) _ Tryd.underlying28 rfl rfl ?_) | (refine step_load1 28 (.tmp 22) _ _ rfl (S.row_cell (by (repeat (first | exact Pick.head _ _ | apply Pick.tail)); first | done | fail) _ _ (by first | assumption | exact Hid.out (by assumption) | rfl)) _ Tryd.underlying28 rfl rfl ?_) | (refine step_load1 28 (.tmp 22) _ _ rfl (S.old_cell (by first | assumption | exact Hid.out (by assumption))) _ Tryd.underlying28 rfl rfl ?_)) | fail)
  go_ret
  exact ⟨rfl, S.nil⟩
end Go.Proofs.YthdhnpejakljkaaDoor
