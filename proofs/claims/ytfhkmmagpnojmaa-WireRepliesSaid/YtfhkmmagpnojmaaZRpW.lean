/- The method 'write' of a reply's body, for valid fields. No condition but the reach. -/
import Derived.Test.YtfhkmmagpnojmaaZBd
import Derived.Deep.Cut
import Derived.Test.YtfhkmmagpnojmaaZRpV
import Derived.Test.YtfhkmmagpnojmaaZEncR
import Derived.Test.YtfhkmmagpnojmaaZRcM
set_option linter.unusedSimpArgs false
set_option linter.unusedVariables false
namespace Go.Proofs.Ytfhkmmagpnojmaa
open Go.RowKit

set_option maxRecDepth 100000 in
set_option maxHeartbeats 1000000 in
theorem orderWrite_s (n : I64) (h : 0 ≤ n.v ∧ n.v ≤ 65535) (g : Nat) (v : Value) (xs : List UInt8) (w0 w1 : World) (F : List Res) (S : Has w0 w1 (wrt g v :: row8 v xs :: F)) (hl : xs.length + 8 ≤ 140737488355328) :
    Calls Try.prog 100 #[.int .i64 n.v, .pointer (some ⟨g, 0, none⟩)] w1 (Wrote w0 g (xs ++ numB n.v.toNat 2) F) := by
  have p1 := fun v w F S => wuint_i n.v n.v.toNat (by omega) 2 2 rfl g v xs w0 w F S (by omega) (by decide) (by omega)
  have e1 : n.v % 18446744073709551616 = n.v := by omega
  have e2 : IntKind.u64.wrap n.v = n.v := by rw [IntKind.wrap_u64]; omega
  have P1 := Lib.hid p1; clear p1
  go_enter Try.func100, Try.ntmps100
  go_wp2_with (first | (go_at_call 26; (with_reducible refine (P1.out v _ _ S).mono ?_); rintro e w1 ⟨rfl, v1, S1⟩) | fail)
  go_end0
  exact ⟨rfl, v1, S1⟩
set_option maxRecDepth 100000 in
set_option maxHeartbeats 1000000 in
theorem nothingWrite_s (g : Nat) (v : Value) (xs : List UInt8) (w0 w1 : World) (F : List Res) (S : Has w0 w1 (wrt g v :: row8 v xs :: F)) :
    Calls Try.prog 97 #[.agg #[], .pointer (some ⟨g, 0, none⟩)] w1 (Wrote w0 g xs F) := by
  go_enter Try.func97, Try.ntmps97
  go_wp2_with (first | ((with_reducible refine iD 2 (.box 113 (.tmp 0)) ?_); refine step_boxA (dst := some 2) S 113 (.tmp 0) _ rfl rfl ?_; clear S; intro g2 w S) | fail)
  go_end0
  exact ⟨rfl, v, S.drop (Pick.head _ _)⟩
set_option maxRecDepth 100000 in
set_option maxHeartbeats 2000000 in
theorem stateWrite_s (x : UInt8) (d : UInt64) (g : Nat) (v : Value) (xs : List UInt8) (w0 w1 : World) (F : List Res) (S : Has w0 w1 (wrt g v :: row8 v xs :: F)) (hl : xs.length + 16 ≤ 140737488355328) :
    Calls Try.prog 103 #[.agg #[.int .u8 (x.toNat : Int), .int .u64 (d.toNat : Int)], .pointer (some ⟨g, 0, none⟩)] w1 (Wrote w0 g (xs ++ numB x.toNat 1 ++ numB d.toNat 8) F) := by
  have hx := x.toNat_lt
  have hd := d.toNat_lt
  have p1 := fun v w F S => wuint_i (x.toNat : Int) x.toNat rfl 1 1 rfl g v xs w0 w F S (by omega) (by decide) (by omega)
  have l1 : (xs ++ numB x.toNat 1).length = xs.length + 1 := by rw [List.length_append, numB_length]
  obtain ⟨X1, hX1⟩ : ∃ X, X = xs ++ numB x.toNat 1 := ⟨_, rfl⟩
  rw [← hX1] at p1 l1 ⊢
  have p2 := fun v w F S => wuint_i (d.toNat : Int) d.toNat rfl 8 8 rfl g v X1 w0 w F S (by omega) (by decide) (by omega)
  have e1 : IntKind.u64.wrap (x.toNat : Int) = (x.toNat : Int) := by rw [IntKind.wrap_u64]; omega
  have P1 := Lib.hid p1; have P2 := Lib.hid p2; clear p1 p2
  clear hX1 l1 hx hd
  go_enter Try.func103, Try.ntmps103
  go_wp2_with (first | (go_at_call 26; (with_reducible refine (P1.out v _ _ (S.pick2 (r := wrt g v) (s := row8 v xs) pk pk)).mono ?_); rintro e w1 ⟨rfl, v1, S1⟩; clear S; have S := S1; clear S1; have _t := P1; clear P1) | (go_at_call 26; (with_reducible refine (P2.out v1 _ _ S).mono ?_); rintro e w1 ⟨rfl, v2, S1⟩; clear S; have S := S1; clear S1) | ((with_reducible refine iD 2 (.box 124 (.tmp 0)) ?_); refine step_boxA (dst := some 2) S 124 (.tmp 0) _ rfl rfl ?_; clear S; intro g2 w S) | ((with_reducible refine iO _ (.load 5 _) ?_); refine step_load1 5 _ _ _ rfl (cL) _ Try.underlying5 rfl rfl ?_) | ((with_reducible refine iO _ (.load 32 _) ?_); refine step_load1 32 _ _ _ rfl (cL) _ Try.underlying32 rfl rfl ?_) | fail)
  go_end0
  exact ⟨rfl, v2, S.drop (Pick.tail (Pick.tail (Pick.head _ _)))⟩
theorem flat_take1 {α : Type} (f : α → List UInt8) (l : List α) (k : Nat) (x : α) (h : l[k]? = some x) : (l.take (k + 1)).flatMap f = (l.take k).flatMap f ++ f x := by
  rw [List.take_add_one, h, List.flatMap_append]
  simp
set_option maxRecDepth 100000 in
set_option maxHeartbeats 8000000 in
theorem watchWrite_s (rv : Value) (l : List Sgt) (n : I64) (hv : ∀ x ∈ l, sgtV x = true) (h3 : l.length ≤ 3) (hn : 0 ≤ n.v ∧ n.v ≤ 8) (g : Nat) (v : Value) (xs : List UInt8) (w0 w1 : World) (F : List Res) (S : Has w0 w1 (wrt g v :: row8 v xs :: F)) (hr : Sl w0 3 rv l.length (l.flatMap sgtL)) (hl : xs.length + 100 ≤ 140737488355328) :
    Calls Try.prog 106 #[.agg #[rv, .int .i64 n.v], .pointer (some ⟨g, 0, none⟩)] w1 (Wrote w0 g (xs ++ numB l.length 1 ++ l.flatMap sgtB ++ numB n.v.toNat 1) F) := by
  obtain ⟨a0, c0, rfl, k1, k2⟩ := Sl.shape hr
  unfold maxLen at k2
  have p1 := fun v w F S => wuint_i (l.length : Int) l.length rfl 1 1 rfl g v xs w0 w F S (by omega) (by decide) (by omega)
  have l1 : (xs ++ numB l.length 1).length = xs.length + 1 := by rw [List.length_append, numB_length]
  have lf : ∀ k, ((l.take k).flatMap sgtB).length ≤ 12 := fun k => by
    rw [flatLen sgtB 4 sgtB_length, List.length_take]; omega
  obtain ⟨X1, hX1⟩ : ∃ X, X = xs ++ numB l.length 1 := ⟨_, rfl⟩
  rw [← hX1] at p1 l1 ⊢
  have e0 : IntKind.u64.wrap (l.length : Int) = (l.length : Int) := by rw [IntKind.wrap_u64]; omega
  have en : IntKind.u64.wrap n.v = n.v := by rw [IntKind.wrap_u64]; omega
  have hlx : X1.length + 90 ≤ 140737488355328 := by omega
  obtain ⟨N, hN⟩ : ∃ N, N = n.v := ⟨_, rfl⟩
  rw [← hN] at hn en ⊢
  have hv0 := hv
  have P1 := Lib.hid p1; have HR := Lib.hid hr; have HV0 := Lib.hid hv0; have LF := Lib.hid lf; have HLX := Lib.hid hlx; clear p1 hr hv0 lf hlx
  clear hX1 l1 hv hN
  go_enter Try.func106, Try.ntmps106
  go_wp2_with (first | (go_at_call 26; (with_reducible refine (P1.out v _ _ (S.pick2 (r := wrt g v) (s := row8 v xs) pk pk)).mono ?_); rintro e w1 ⟨rfl, v1, S1⟩; clear S; have S := S1; clear S1) | ((with_reducible refine iD 2 (.box 126 (.tmp 0)) ?_); refine step_boxA (dst := some 2) S 126 (.tmp 0) _ rfl rfl ?_; clear S; intro g2 w S) | ((with_reducible refine iO _ (.load 50 _) ?_); refine step_load1 50 _ _ _ rfl (cL) _ Try.underlying50 rfl rfl ?_) | ((with_reducible refine iO _ (.load 101 _) ?_); first | (refine step_loadR 101 _ _ _ rfl _ (S.old_range hy) _ Try.underlying101 rfl 3 kR lN _ rfl rfl ?_) | (refine step_loadP S 101 _ _ _ rfl _ _ _ pk 3 _ pT lN _ Try.underlying101 rfl kR rfl ?_)) | ((with_reducible refine iD 5 (.alloc 101) ?_); refine step_alloc (dst := some 5) S 101 (.agg ((sgtL sgtZ).toArray)) ((sgtL sgtZ).toArray) kR rfl rfl ?_; clear S; intro g5 w S) | ((with_reducible refine iO none (.store 101 (.tmp 5) (.tmp 18)) ?_); refine step_store S 101 (.tmp 5) (.tmp 18) _ _ rfl rfl _ _ pk 3 kR lN lN on1 rfl ?_; clear S; intro w S) | ((with_reducible refine iO _ (.load 3 _) ?_); refine step_load1 3 _ _ _ rfl (cL) _ Try.underlying3 rfl rfl ?_) | ((with_reducible refine iO _ (.load 5 _) ?_); refine step_load1 5 _ _ _ rfl (cL) _ Try.underlying5 rfl rfl ?_) | fail)
  go_loopw [15] (fun u wr => ∃ (k : Nat) (vv : Value), k ≤ l.length ∧ u = .int .i64 (k : Int) ∧ Has w0 wr (wrt g vv :: row8 vv (X1 ++ (l.take k).flatMap sgtB) :: blk g2 (.cells #[.slice a0 l.length c0, .int .i64 N] 126 (0, 0)) :: F)) (fun u _ => l.length - (intOf u).toNat)
  case atStart => exact ⟨0, _, Nat.zero_le _, rfl, by rw [List.take_zero, List.flatMap_nil, List.append_nil]; exact S⟩
  case round =>
    clear S
    obtain ⟨k, vv, hk, rfl, S⟩ := hrel
    by_cases hlt : k < l.length
    · have hki : (k : Int) < (l.length : Int) := by omega
      have hki2 : (k : Int) < 9223372036854775807 := by omega
      have hx : l[k]? = some l[k] := List.getElem?_eq_getElem hlt
      obtain ⟨b, off, rfl, _⟩ := HR.out.atA (by omega)
      have hrg := HR.out.elem sgtL_length (by decide) k _ hx
      have hmore := flat_take1 sgtB l k _ hx
      have hxv := HV0.out _ (List.getElem_mem hlt)
      obtain ⟨x, hxe⟩ : ∃ x, x = l[k] := ⟨_, rfl⟩
      rw [← hxe] at hrg hmore hxv
      unfold sgtV at hxv
      have hxv := of_decide_eq_true hxv
      have hle := HLX.out
      have hlk := LF.out k
      obtain ⟨Y0, hY0⟩ : ∃ X, X = X1 ++ (l.take k).flatMap sgtB := ⟨_, rfl⟩
      have hy0 : Y0.length + 70 ≤ 140737488355328 := by rw [hY0, List.length_append]; omega
      rw [← hY0] at S
      have q1 := fun v w F S => wuint_i x.place.v x.place.v.toNat (by omega) 1 1 rfl g v Y0 w0 w F S (by omega) (by decide) (by omega)
      have m1 : (Y0 ++ numB x.place.v.toNat 1).length = Y0.length + 1 := by rw [List.length_append, numB_length]
      obtain ⟨Y1, hY1⟩ : ∃ X, X = Y0 ++ numB x.place.v.toNat 1 := ⟨_, rfl⟩
      rw [← hY1] at q1 m1
      have hst := x.state.toNat_lt
      have q2 := fun v w F S => wuint_i (x.state.toNat : Int) x.state.toNat rfl 1 1 rfl g v Y1 w0 w F S (by omega) (by decide) (by omega)
      have m2 : (Y1 ++ numB x.state.toNat 1).length = Y0.length + 2 := by rw [List.length_append, numB_length, m1]
      obtain ⟨Y2, hY2⟩ : ∃ X, X = Y1 ++ numB x.state.toNat 1 := ⟨_, rfl⟩
      rw [← hY2] at q2 m2
      have q3 := fun v w F S => wuint_i x.order.v x.order.v.toNat (by omega) 2 2 rfl g v Y2 w0 w F S (by omega) (by decide) (by omega)
      have hend : X1 ++ (l.take (k + 1)).flatMap sgtB = Y2 ++ numB x.order.v.toNat 2 := by
        rw [hmore, hY2, hY1, hY0]
        unfold sgtB
        simp only [List.append_assoc]
      have f0 : (sgtL x).toArray[0]? = some (.int .i64 x.place.v) := rfl
      have f1 : (sgtL x).toArray[1]? = some (.int .u8 (x.state.toNat : Int)) := rfl
      have f2 : (sgtL x).toArray[2]? = some (.int .i64 x.order.v) := rfl
      have u1 : IntKind.u64.wrap x.place.v = x.place.v := by rw [IntKind.wrap_u64]; omega
      have u2 : IntKind.u64.wrap (x.state.toNat : Int) = (x.state.toNat : Int) := by rw [IntKind.wrap_u64]; omega
      have u3 : IntKind.u64.wrap x.order.v = x.order.v := by rw [IntKind.wrap_u64]; omega
      clear hx hmore hxv hxe hle hlk hY0 hY1 hY2 m1 m2 hst hy0
      have HRG := Lib.hid hrg; have Q1 := Lib.hid q1; have Q2 := Lib.hid q2; have Q3 := Lib.hid q3; have HEND := Lib.hid hend; have F0 := Lib.hid f0; have F1 := Lib.hid f1; have F2 := Lib.hid f2; clear hrg q1 q2 q3 hend f0 f1 f2
      go_wp2_with (first | (go_at_call 26; (with_reducible refine (Q1.out vv _ _ (S.pick2 (r := wrt g vv) (s := row8 vv Y0) pk pk)).mono ?_); rintro e w1 ⟨rfl, v1, S1⟩; clear S; have S := S1; clear S1; have _t := Q1; clear Q1) | (go_at_call 26; (with_reducible refine (Q2.out v1 _ _ S).mono ?_); rintro e w1 ⟨rfl, v2, S1⟩; clear S; have S := S1; clear S1; have _t2 := Q2; clear Q2) | (go_at_call 26; (with_reducible refine (Q3.out v2 _ _ S).mono ?_); rintro e w1 ⟨rfl, v3, S1⟩; clear S; have S := S1; clear S1) | ((with_reducible refine iD 2 (.box 126 (.tmp 0)) ?_); refine step_boxA (dst := some 2) S 126 (.tmp 0) _ rfl rfl ?_; clear S; intro g2 w S) | ((with_reducible refine iO _ (.load 50 _) ?_); refine step_load1 50 _ _ _ rfl (cL) _ Try.underlying50 rfl rfl ?_) | ((with_reducible refine iO _ (.load 101 _) ?_); first | (refine step_loadR 101 _ _ _ rfl _ (S.old_range hy) _ Try.underlying101 rfl 3 kR lN _ rfl rfl ?_) | (refine step_loadP S 101 _ _ _ rfl _ _ _ pk 3 _ pT lN _ Try.underlying101 rfl kR rfl ?_)) | ((with_reducible refine iD 5 (.alloc 101) ?_); refine step_alloc (dst := some 5) S 101 (.agg ((sgtL sgtZ).toArray)) ((sgtL sgtZ).toArray) kR rfl rfl ?_; clear S; intro g5 w S) | ((with_reducible refine iO none (.store 101 (.tmp 5) (.tmp 18)) ?_); refine step_store S 101 (.tmp 5) (.tmp 18) _ _ rfl rfl _ _ pk 3 kR lN lN on1 rfl ?_; clear S; intro w S) | ((with_reducible refine iO _ (.load 3 _) ?_); refine step_load1 3 _ _ _ rfl (cL) _ Try.underlying3 rfl rfl ?_) | ((with_reducible refine iO _ (.load 5 _) ?_); refine step_load1 5 _ _ _ rfl (cL) _ Try.underlying5 rfl rfl ?_) | fail)
      go_roundw
      case rel => exact ⟨k + 1, v3, by omega, by go_num, by rw [HEND.out]; exact S.drop (Pick.tail (Pick.tail (Pick.head _ _)))⟩
      case measure => simp [intOf]; omega
    · obtain rfl : k = l.length := by omega
      have hki : ¬ (l.length : Int) < (l.length : Int) := by omega
      rw [List.take_length] at S
      have hfl : (l.flatMap sgtB).length ≤ 12 := by rw [flatLen sgtB 4 sgtB_length]; omega
      have hle := HLX.out
      obtain ⟨Y, hY⟩ : ∃ Y, Y = X1 ++ l.flatMap sgtB := ⟨_, rfl⟩
      have hyl : Y.length + 8 ≤ 140737488355328 := by rw [hY, List.length_append]; omega
      rw [← hY] at S
      have q1 := fun v w F S => wuint_i N N.toNat (by omega) 1 1 rfl g v Y w0 w F S (by omega) (by decide) (by omega)
      have Q1 := Lib.hid q1; have HY := Lib.hid hY; clear q1 hY
      clear hfl hle hyl
      go_wp2_with (first | (go_at_call 26; (with_reducible refine (Q1.out vv _ _ S).mono ?_); rintro e w1 ⟨rfl, v1, S1⟩; clear S; have S := S1; clear S1) | ((with_reducible refine iD 2 (.box 126 (.tmp 0)) ?_); refine step_boxA (dst := some 2) S 126 (.tmp 0) _ rfl rfl ?_; clear S; intro g2 w S) | ((with_reducible refine iO _ (.load 50 _) ?_); refine step_load1 50 _ _ _ rfl (cL) _ Try.underlying50 rfl rfl ?_) | ((with_reducible refine iO _ (.load 101 _) ?_); first | (refine step_loadR 101 _ _ _ rfl _ (S.old_range hy) _ Try.underlying101 rfl 3 kR lN _ rfl rfl ?_) | (refine step_loadP S 101 _ _ _ rfl _ _ _ pk 3 _ pT lN _ Try.underlying101 rfl kR rfl ?_)) | ((with_reducible refine iD 5 (.alloc 101) ?_); refine step_alloc (dst := some 5) S 101 (.agg ((sgtL sgtZ).toArray)) ((sgtL sgtZ).toArray) kR rfl rfl ?_; clear S; intro g5 w S) | ((with_reducible refine iO none (.store 101 (.tmp 5) (.tmp 18)) ?_); refine step_store S 101 (.tmp 5) (.tmp 18) _ _ rfl rfl _ _ pk 3 kR lN lN on1 rfl ?_; clear S; intro w S) | ((with_reducible refine iO _ (.load 3 _) ?_); refine step_load1 3 _ _ _ rfl (cL) _ Try.underlying3 rfl rfl ?_) | ((with_reducible refine iO _ (.load 5 _) ?_); refine step_load1 5 _ _ _ rfl (cL) _ Try.underlying5 rfl rfl ?_) | fail)
      go_end0
      exact ⟨rfl, v1, by rw [← HY.out]; exact S.drop (Pick.tail (Pick.tail (Pick.head _ _)))⟩
end Go.Proofs.Ytfhkmmagpnojmaa
