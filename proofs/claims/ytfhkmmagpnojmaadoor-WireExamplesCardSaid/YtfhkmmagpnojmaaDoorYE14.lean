/- Several texts under one header: what the claim needs of RpX, RpE1, RpS. No condition but those that each names. -/
import Derived.Test.YtfhkmmagpnojmaaDoorYE1
import Derived.Test.YtfhkmmagpnojmaaDoorYE13
import Derived.Deep.Cut
import Derived.Test.YtfhkmmagpnojmaaDoorYE10
import Derived.Test.YtfhkmmagpnojmaaDoorYE6
import Derived.Test.YtfhkmmagpnojmaaDoorYE5
import Derived.Test.YtfhkmmagpnojmaaDoorYE4
set_option linter.unusedSimpArgs false
set_option linter.unusedVariables false

/- The method 'write' of a chain; of any valid body. No condition but the reach. -/
namespace Go.Proofs.YtfhkmmagpnojmaaDoor
open Go.RowKit

/-- The link of a record in memory reads as bytes. -/
theorem Has.bs_link {w0 w : World} {l F : List Res} {g : Nat} {x : Rcd} {ty : TypeId} {fr : Nat × Nat} (S : Has w0 w l) (h : Pick l (blk g (.cells (rcdL x).toArray ty fr)) F) : Bs w (.slice (some ⟨g, 3, none⟩) 32 32) x.link := by
  have hb := Bs.mk (w := w) (xs := x.link) (b := g) (off := 3) (cap := 32) (by rw [x.len]; exact Nat.le_refl _) (by decide) (fun i hi => S.cell h (by
    show (rcdL x).toArray[3 + i]? = _
    rw [List.getElem?_toArray, rcdL, List.getElem?_append_right (by simp)]
    simp [hi]))
  rwa [x.len] at hb
set_option maxRecDepth 100000 in
set_option maxHeartbeats 8000000 in
theorem chainWrite_s (rv : Value) (l : List Rcd) (n : UInt32) (hv : ∀ x ∈ l, rcdV x = true) (h32 : l.length ≤ 32) (g : Nat) (v : Value) (xs : List UInt8) (w0 w1 : World) (F : List Res) (S : Has w0 w1 (wrt g v :: row8 v xs :: F)) (hr : Sl w0 35 rv l.length (l.flatMap rcdL)) (hl : xs.length + 2000 ≤ 140737488355328) :
    Calls Tryd.prog 125 #[.agg #[.int .u32 (n.toNat : Int), rv], .pointer (some ⟨g, 0, none⟩)] w1 (Wrote w0 g (xs ++ numB n.toNat 4 ++ numB l.length 1 ++ l.flatMap rcdB) F) := by
  obtain ⟨a0, c0, rfl, k1, k2⟩ := Sl.shape hr
  unfold maxLen at k2
  have hn := n.toNat_lt
  have p0 := fun v w F S => wuint_i (n.toNat : Int) n.toNat rfl 4 4 rfl g v xs w0 w F S (by omega) (by decide) (by omega)
  have l0 : (xs ++ numB n.toNat 4).length = xs.length + 4 := by rw [List.length_append, numB_length]
  obtain ⟨X0, hX0⟩ : ∃ X, X = xs ++ numB n.toNat 4 := ⟨_, rfl⟩
  rw [← hX0] at p0 l0 ⊢
  have p1 := fun v w F S => wuint_i (l.length : Int) l.length rfl 1 1 rfl g v X0 w0 w F S (by omega) (by decide) (by omega)
  have l1 : (X0 ++ numB l.length 1).length = xs.length + 5 := by rw [List.length_append, numB_length, l0]
  have lf : ∀ k, ((l.take k).flatMap rcdB).length ≤ 1376 := fun k => by
    rw [flatLen rcdB 43 rcdB_length, List.length_take]; omega
  obtain ⟨X1, hX1⟩ : ∃ X, X = X0 ++ numB l.length 1 := ⟨_, rfl⟩
  rw [← hX1] at p1 l1 ⊢
  have e0 : IntKind.u64.wrap (l.length : Int) = (l.length : Int) := by rw [IntKind.wrap_u64]; omega
  have en : IntKind.u64.wrap (n.toNat : Int) = (n.toNat : Int) := by rw [IntKind.wrap_u64]; omega
  have hlx : X1.length + 1900 ≤ 140737488355328 := by omega
  obtain ⟨N, hN⟩ : ∃ N : Int, N = (n.toNat : Int) := ⟨_, rfl⟩
  rw [← hN] at en p0 ⊢
  have hv0 := hv
  have P0 := Lib.hid p0; have P1 := Lib.hid p1; have HR := Lib.hid hr; have HV0 := Lib.hid hv0; have LF := Lib.hid lf; have HLX := Lib.hid hlx; clear p0 p1 hr hv0 lf hlx
  clear hX0 hX1 l0 l1 hv hN hn
  go_enter Tryd.func125, Tryd.ntmps125
  go_wp2_with (first | (go_at_call 48; (with_reducible refine (P0.out v _ _ (S.pick2 (r := wrt g v) (s := row8 v xs) pk pk)).mono ?_); rintro e w1 ⟨rfl, v0, S1⟩; clear S; have S := S1; clear S1; have _t := P0; clear P0) | (go_at_call 48; (with_reducible refine (P1.out v0 _ _ S).mono ?_); rintro e w1 ⟨rfl, v1, S1⟩; clear S; have S := S1; clear S1) | ((with_reducible refine iD 2 (.box 108 (.tmp 0)) ?_); refine step_boxA (dst := some 2) S 108 (.tmp 0) _ rfl rfl ?_; clear S; intro g2 w S) | ((with_reducible refine iO _ (.load 38 _) ?_); refine step_load1 38 _ _ _ rfl (cL) _ Tryd.underlying38 rfl rfl ?_) | ((with_reducible refine iO _ (.load 31 _) ?_); refine step_load1 31 _ _ _ rfl (cL) _ Tryd.underlying31 rfl rfl ?_) | fail)
  go_loopw [20] (fun u wr => ∃ (k : Nat) (vv : Value), k ≤ l.length ∧ u = .int .i64 (k : Int) ∧ Has w0 wr (wrt g vv :: row8 vv (X1 ++ (l.take k).flatMap rcdB) :: blk g2 (.cells #[.int .u32 N, .slice a0 l.length c0] 108 (0, 0)) :: F)) (fun u _ => l.length - (intOf u).toNat)
  case atStart => exact ⟨0, _, Nat.zero_le _, rfl, by rw [List.take_zero, List.flatMap_nil, List.append_nil]; exact S⟩
  case round =>
    clear S
    obtain ⟨k, vv, hk, rfl, S⟩ := hrel
    by_cases hlt : k < l.length
    · have hki : (k : Int) < (l.length : Int) := by omega
      have hki2 : (k : Int) < 9223372036854775807 := by omega
      have hx : l[k]? = some l[k] := List.getElem?_eq_getElem hlt
      obtain ⟨b, off, rfl, _⟩ := HR.out.atA (by omega)
      have hrg := HR.out.elem rcdL_length (by decide) k _ hx
      have hmore := flat_take1 rcdB l k _ hx
      have hxv := HV0.out _ (List.getElem_mem hlt)
      obtain ⟨x, hxe⟩ : ∃ x, x = l[k] := ⟨_, rfl⟩
      rw [← hxe] at hrg hmore hxv
      unfold rcdV at hxv
      have hxv := of_decide_eq_true hxv
      have hle := HLX.out
      have hlk := LF.out k
      have ht := x.tick.toNat_lt
      have hkd := x.kind.toNat_lt
      obtain ⟨Y0, hY0⟩ : ∃ X, X = X1 ++ (l.take k).flatMap rcdB := ⟨_, rfl⟩
      have hy0 : Y0.length + 500 ≤ 140737488355328 := by rw [hY0, List.length_append]; omega
      rw [← hY0] at S
      have q1 := fun v w F S => wuint_i (x.tick.toNat : Int) x.tick.toNat rfl 8 8 rfl g v Y0 w0 w F S (by omega) (by decide) (by omega)
      have m1 : (Y0 ++ numB x.tick.toNat 8).length = Y0.length + 8 := by rw [List.length_append, numB_length]
      obtain ⟨Y1, hY1⟩ : ∃ X, X = Y0 ++ numB x.tick.toNat 8 := ⟨_, rfl⟩
      rw [← hY1] at q1 m1
      have q2 := fun v w F S => wuint_i (x.kind.toNat : Int) x.kind.toNat rfl 1 1 rfl g v Y1 w0 w F S (by omega) (by decide) (by omega)
      have m2 : (Y1 ++ numB x.kind.toNat 1).length = Y0.length + 9 := by rw [List.length_append, numB_length, m1]
      obtain ⟨Y2, hY2⟩ : ∃ X, X = Y1 ++ numB x.kind.toNat 1 := ⟨_, rfl⟩
      rw [← hY2] at q2 m2
      have q3 := fun v w F S => wuint_i x.code.v x.code.v.toNat (by omega) 2 2 rfl g v Y2 w0 w F S (by omega) (by decide) (by omega)
      have m3 : (Y2 ++ numB x.code.v.toNat 2).length = Y0.length + 11 := by rw [List.length_append, numB_length, m2]
      obtain ⟨Y3, hY3⟩ : ∃ X, X = Y2 ++ numB x.code.v.toNat 2 := ⟨_, rfl⟩
      rw [← hY3] at q3 m3
      have m4 : Y3.length + x.link.length ≤ 140737488355328 := by rw [x.len]; omega
      have hend : X1 ++ (l.take (k + 1)).flatMap rcdB = Y3 ++ x.link := by
        rw [hmore, hY3, hY2, hY1, hY0]
        unfold rcdB
        simp only [List.append_assoc]
      have g0 := rcdL_0 x
      have g1 := rcdL_1 x
      have g2' := rcdL_2 x
      have u1 : IntKind.u64.wrap (x.kind.toNat : Int) = (x.kind.toNat : Int) := by rw [IntKind.wrap_u64]; omega
      have u3 : IntKind.u64.wrap x.code.v = x.code.v := by rw [IntKind.wrap_u64]; omega
      clear hx hmore hxv hxe hle hlk hY0 hY1 hY2 hY3 m1 m2 m3 hy0 ht hkd
      have HRG := Lib.hid hrg; have Q1 := Lib.hid q1; have Q2 := Lib.hid q2; have Q3 := Lib.hid q3; have HEND := Lib.hid hend; have G0 := Lib.hid g0; have G1 := Lib.hid g1; have G2' := Lib.hid g2'; have M4 := Lib.hid m4; clear hrg q1 q2 q3 hend g0 g1 g2' m4
      go_upto_region 9 with (first | (go_at_call 48; (with_reducible refine (Q1.out vv _ _ (S.pick2 (r := wrt g vv) (s := row8 vv Y0) pk pk)).mono ?_); rintro e w1 ⟨rfl, v1, S1⟩; clear S; have S := S1; clear S1; have _t := Q1; clear Q1) | (go_at_call 48; (with_reducible refine (Q2.out v1 _ _ S).mono ?_); rintro e w1 ⟨rfl, v2, S1⟩; clear S; have S := S1; clear S1; have _t2 := Q2; clear Q2) | (go_at_call 48; (with_reducible refine (Q3.out v2 _ _ S).mono ?_); rintro e w1 ⟨rfl, v3, S1⟩; clear S; have S := S1; clear S1) | ((with_reducible refine iO _ (.load 50 _) ?_); first | (refine step_loadR 50 _ _ _ rfl _ (S.old_range hy) _ Tryd.underlying50 rfl 35 kR lN _ rfl rfl ?_) | (refine step_loadP S 50 _ _ _ rfl _ _ _ pk 35 _ pT lN _ Tryd.underlying50 rfl kR rfl ?_)) | ((with_reducible refine iD 5 (.alloc 50) ?_); refine step_alloc (dst := some 5) S 50 (.agg ((rcdL rcdZ).toArray)) ((rcdL rcdZ).toArray) kR rfl rfl ?_; clear S; intro g5 w S) | ((with_reducible refine iO none (.store 50 (.tmp 5) (.tmp 23)) ?_); refine step_store S 50 (.tmp 5) (.tmp 23) _ _ rfl rfl _ _ pk 35 kR lN lN on1 rfl ?_; clear S; intro w S) | ((with_reducible refine iO _ (.load 23 _) ?_); refine step_load1 23 _ _ _ rfl (cL) _ Tryd.underlying23 rfl rfl ?_) | ((with_reducible refine iO _ (.load 5 _) ?_); refine step_load1 5 _ _ _ rfl (cL) _ Tryd.underlying5 rfl rfl ?_) | ((with_reducible refine iO _ (.load 24 _) ?_); refine step_load1 24 _ _ _ rfl (cL) _ Tryd.underlying24 rfl rfl ?_) | fail)
      have S := (S.pick2 (r := wrt g v3) (s := row8 v3 Y3) pk pk).join
      refine wp_relyW (e1 := noRes) 4 (S.pick (r := both (wrt g v3) (row8 v3 Y3)) pk) [sv [] ((.pointer (some ⟨g, 0, none⟩))), sv [] ((.pointer (some ⟨g, 0, none⟩))), sv [1] (.pointer (some ⟨g, 0, none⟩)), sv [1, 2] (.pointer (some ⟨g, 0, none⟩)), ⟨[1, 2, 3], [], [], fun _ v => v = v3, fun _ v => [wrt g v3, row8 v3 Y3]⟩, sv [] (.pointer (some ⟨g5, 3, none⟩)), sv [5] (.slice (some ⟨g5, 3, none⟩) 32 32), ⟨[1, 2, 3, 4, 5, 6], [4], [], fun _ v => True, fun _ v => [wrt g v3, row8 v (Y3 ++ x.link)]⟩, sv [0, 1, 2, 3, 4, 5, 6, 7] (.pointer (some ⟨g, 0, none⟩)), sv [0, 1, 2, 3, 4, 5, 6, 7, 8] (.pointer (some ⟨g, 0, none⟩)), ⟨[0, 1, 2, 3, 4, 5, 6, 7, 8, 9], [7], [], fun _ v => True, fun d v => [wrt g (d 7), row8 (d 7) (Y3 ++ x.link)]⟩] ?A1 ?hA1 kR kR kR [0, 1, 2, 3, 5, 6, 8, 9, 10] kR (of_decide_eq_true rfl) ?hok1 ?fin1
      case hA1 => intro u; simp only [putAll, List.length_cons, List.length_nil, Nat.zero_add, Nat.reduceAdd, dstAt, List.getElem?_toArray, List.getElem?_cons_zero, List.getElem?_cons_succ, Option.bind_some, Act.put, List.setIfInBounds_toArray, List.set_cons_zero, List.set_cons_succ]; rfl
      case hok1 =>
        intro i hi
        obtain rfl | rfl | rfl | rfl | rfl | rfl | rfl | rfl | rfl | rfl | rfl : i = 0 ∨ i = 1 ∨ i = 2 ∨ i = 3 ∨ i = 4 ∨ i = 5 ∨ i = 6 ∨ i = 7 ∨ i = 8 ∨ i = 9 ∨ i = 10 := by simp only [List.length_cons, List.length_nil, Nat.zero_add, Nat.reduceAdd] at hi; omega
        · rw [if_neg (by decide)]; intro r0; exact oP []
        · rw [if_neg (by decide)]; intro r0; exact oP []
        · rw [if_neg (by decide)]; intro r0; exact oP [1]
        · rw [if_neg (by decide)]; intro r0; exact oP [2]
        · clear hi
          rw [if_pos rfl]
          refine step_ofW rfl rfl rfl ?_
          intro u G w hf S
          have f3 : u 3 = .pointer (some ⟨g, 0, none⟩) := hf 3 (by simp)
          simp only [fl, z4, z5, z6, z7, ptrBlk] at S ⊢
          simp only [f3]
          refine does_load1 25 (.tmp 41) _ _ rfl (S.taken.cell (g := g) (Pick.head _ _) rfl) _ Tryd.underlying25 rfl ?_; exact ⟨rfl, S.taken⟩
        · rw [if_neg (by decide)]; intro r0; exact oP []
        · rw [if_neg (by decide)]; intro r0; exact oP [5]
        · clear hi
          rw [if_neg (by decide)]; intro r0
          refine step_of rfl rfl rfl ?_
          intro u G w hf S
          have f4 : u 4 = v3 := hf 4 (by simp)
          have f6 : u 6 = .slice (some ⟨g5, 3, none⟩) 32 32 := hf 6 (by simp)
          simp only [fl, z4, z5, z6, z7, ptrBlk] at S ⊢
          simp only [f4, f6] at S ⊢
          try simp only [ptrBlk] at S
          refine does_append8 (.tmp 42) (.tmp 44) v3 Y3 rfl (S.pick (r := row8 v3 Y3) pk) _ x.link rfl (S.bs_link (g := g5) (x := x) pk) M4.out ?_; intro v' w' S; exact ⟨trivial, S.perm (List.Perm.swap _ _ _)⟩
        · rw [if_neg (by decide)]; intro r0; exact oP [0]
        · rw [if_neg (by decide)]; intro r0; exact oP [8]
        · clear hi
          rw [if_neg (by decide)]; intro r0
          refine step_of rfl rfl rfl ?_
          intro u G w hf S
          have f9 : u 9 = .pointer (some ⟨g, 0, none⟩) := hf 9 (by simp)
          have m7 : mask [0, 1, 2, 3, 4, 5, 6, 7, 8, 9] u 7 = u 7 := rfl
          simp only [fl, z4, z5, z6, z7, m7, ptrBlk] at S ⊢
          simp only [m7, f9] at S ⊢
          try simp only [ptrBlk] at S
          refine does_store1 S 25 (.tmp 47) (.tmp 45) 0 (u 7) rfl rfl kR (one_sl (S.bs (xs := Y3 ++ x.link) pk)).2 (one_sl (S.bs (xs := Y3 ++ x.link) pk)).1 Nat.one_pos ?_; intro w1 S; exact ⟨trivial, S⟩
      case fin1 =>
        intro u w hf S
        have m10_7 : mask [0, 1, 2, 3, 4, 5, 6, 7, 8, 9] u 7 = u 7 := rfl
        have hvA := allV hf
        simp only [AllV, RSpec.valAt, sv, Nat.zero_add, Nat.reduceAdd, m10_7] at hvA
        simp only [fl, z4, z5, z6, z7, m10_7, ptrBlk] at S
        clear hf
        simp only [List.length_cons, List.length_nil, Nat.zero_add, Nat.reduceAdd, List.drop_succ_cons, List.drop_zero, hvA]
        try simp only [hvA, ptrBlk] at S
        clear hvA m10_7
        generalize u 7 = v45 at S ⊢
        go_wp2_with (first | fail)
        go_roundw
        case rel => exact ⟨k + 1, _, by omega, by go_num, by rw [HEND.out]; exact (S.drop (Pick.tail (Pick.tail (Pick.tail (Pick.head _ _))))).drop (Pick.tail (Pick.tail (Pick.head _ _)))⟩
        case measure => simp [intOf]; omega
    · obtain rfl : k = l.length := by omega
      have hki : ¬ (l.length : Int) < (l.length : Int) := by omega
      rw [List.take_length] at S
      go_wp2_with (first | fail)
      go_end0
      exact ⟨rfl, vv, S.drop (Pick.tail (Pick.tail (Pick.head _ _)))⟩
/-- The bytes of a body. -/
def rpBK (q : BK) (r : Rp) : List UInt8 := match q with
  | .n => []
  | .o => numB r.order.v.toNat 2
  | .s => numB r.state.toNat 1 ++ numB r.done.toNat 8
  | .w => numB r.robots.length 1 ++ r.robots.flatMap sgtB ++ numB r.queued.v.toNat 1
  | .c => numB r.count.toNat 4 ++ numB r.records.length 1 ++ r.records.flatMap rcdB
  | .t => encT r.tok
theorem rpB_bk (r : Rp) : rpB r = rpBK (bk r) r := by
  unfold rpB bk rpBK
  by_cases h0 : r.code.v ≠ 0
  · simp only [if_pos h0]
  · by_cases h1 : r.kind = 1 ∨ r.kind = 16
    · simp only [if_neg h0, if_pos h1]
    · by_cases h3 : r.kind = 3
      · simp only [if_neg h0, if_neg h1, if_pos h3]
      · by_cases h4 : r.kind = 4
        · simp only [if_neg h0, if_neg h1, if_neg h3, if_pos h4]
        · by_cases h5 : r.kind = 5
          · simp only [if_neg h0, if_neg h1, if_neg h3, if_neg h4, if_pos h5]
          · by_cases h18 : r.kind = 18
            · simp only [if_neg h0, if_neg h1, if_neg h3, if_neg h4, if_neg h5, if_pos h18]
            · simp only [if_neg h0, if_neg h1, if_neg h3, if_neg h4, if_neg h5, if_neg h18]
theorem rpBK_len (q : BK) (r : Rp) (h : bkV q r = true) : (rpBK q r).length ≤ 1400 := by
  cases q with
  | n => simp [rpBK]
  | o => simp [rpBK, numB_length]
  | s => simp [rpBK, numB_length]
  | w =>
    have h2 : decide (r.robots.length ≤ 3) = true := by unfold bkV at h; rw [Bool.and_eq_true] at h; exact h.1
    have := of_decide_eq_true h2
    simp only [rpBK, List.length_append, numB_length, flatLen sgtB 4 sgtB_length]
    omega
  | c =>
    have := ((chV_iff _).1 h).1
    simp only [rpBK, List.length_append, numB_length, flatLen rcdB 43 rcdB_length]
    omega
  | t => simp [rpBK, encT_length]
set_option maxRecDepth 100000 in
/-- The method 'write' of a body, whichever it is. -/
theorem bodyWrite_s (q : BK) (r : Rp) (hv : bkV q r = true) (ar ac : Option Addr) (nr cr nc cc : Nat) : ∃ f a, (∀ u w, (callMethod (bodyK q r (.slice ar nr cr) (.slice ac nc cc)) "dunnage/wire.write" #[u]).run Tryd.prog w = .ok (.enter f #[a, u]) w) ∧
    ∀ g v xs w0 w1 F, Has w0 w1 (wrt g v :: row8 v xs :: F) → Sl w0 3 (.slice ar nr cr) r.robots.length (r.robots.flatMap sgtL) → Sl w0 35 (.slice ac nc cc) r.records.length (r.records.flatMap rcdL) → xs.length + 2000 ≤ 140737488355328 →
      Calls Tryd.prog f #[a, .pointer (some ⟨g, 0, none⟩)] w1 (Wrote w0 g (xs ++ rpBK q r) F) := by
  cases q with
  | n => exact ⟨139, .agg #[], fun u w => by kernel_rfl, fun g v xs w0 w1 F S _ _ _ => by
      rw [show xs ++ rpBK .n r = xs from List.append_nil xs]
      exact nothingWrite_s g v xs w0 w1 F S⟩
  | o => exact ⟨142, .int .i64 r.order.v, fun u w => by kernel_rfl, fun g v xs w0 w1 F S _ _ hl => orderWrite_s r.order (of_decide_eq_true hv) g v xs w0 w1 F S (by omega)⟩
  | s => exact ⟨145, .agg #[.int .u8 (r.state.toNat : Int), .int .u64 (r.done.toNat : Int)], fun u w => by kernel_rfl, fun g v xs w0 w1 F S _ _ hl => by
      rw [show xs ++ rpBK .s r = xs ++ numB r.state.toNat 1 ++ numB r.done.toNat 8 from (List.append_assoc _ _ _).symm]
      exact stateWrite_s r.state r.done g v xs w0 w1 F S (by omega)⟩
  | w =>
    have h2 : decide (r.robots.length ≤ 3) = true ∧ (!(r.robots.any fun x => !sgtV x)) = true ∧ decide (0 ≤ r.queued.v ∧ r.queued.v ≤ 8) = true := by
      unfold bkV at hv
      rw [Bool.and_eq_true, Bool.and_eq_true] at hv
      exact hv
    have h3 : ∀ x ∈ r.robots, sgtV x = true := by
      have := h2.2.1
      simpa using this
    exact ⟨148, .agg #[.slice ar nr cr, .int .i64 r.queued.v], fun u w => by kernel_rfl, fun g v xs w0 w1 F S hr _ hl => by
      rw [show xs ++ rpBK .w r = xs ++ numB r.robots.length 1 ++ r.robots.flatMap sgtB ++ numB r.queued.v.toNat 1 by simp [rpBK]]
      exact watchWrite_s _ r.robots r.queued h3 (of_decide_eq_true h2.1) (of_decide_eq_true h2.2.2) g v xs w0 w1 F S hr (by omega)⟩
  | c =>
    have h2 := (chV_iff _).1 hv
    exact ⟨125, .agg #[.int .u32 (r.count.toNat : Int), .slice ac nc cc], fun u w => by kernel_rfl, fun g v xs w0 w1 F S _ hr hl => by
      rw [show xs ++ rpBK .c r = xs ++ numB r.count.toNat 4 ++ numB r.records.length 1 ++ r.records.flatMap rcdB by simp [rpBK]]
      exact chainWrite_s _ r.records r.count h2.2 h2.1 g v xs w0 w1 F S hr hl⟩
  | t => exact ⟨56, .agg (tokL r.tok).toArray, fun u w => by kernel_rfl, fun g v xs w0 w1 F S _ _ hl => ticketWrite_s r.tok g v xs w0 w1 F S (by omega)⟩
end Go.Proofs.YtfhkmmagpnojmaaDoor

/- Equality of sights and of records, slice by slice. No condition but the reach. -/
namespace Go.Proofs.YtfhkmmagpnojmaaDoor
open Go.RowKit

set_option maxRecDepth 100000 in
theorem eqSg (a b : Sgt) (w : World) : (Op.equalIn 10000 95 (.agg (sgtL a).toArray) (.agg (sgtL b).toArray)).run Tryd.prog w = .ok (decide (a = b)) w := by
  have hp : Tryd.prog.stoodInHeld 95 = false := by kernel_rfl
  have hf : Tryd.prog.underlying 95 = some (.struct (Tryd.prog.fieldsOf 95)) := by kernel_rfl
  have e : decide (a = b) = ((a.place.v == b.place.v) && (((a.state.toNat : Int) == (b.state.toNat : Int)) && ((a.order.v == b.order.v) && true))) := by
    rw [beqU8, beqI, beqI, Bool.eq_iff_iff]
    simp only [decide_eq_true_eq, Bool.and_eq_true, and_true]
    constructor
    · rintro rfl; exact ⟨rfl, rfl, rfl⟩
    · rintro ⟨h1, h2, h3⟩
      exact Sgt.ext' h1 h2 h3
  rw [e, run_equalIn_agg (P := Tryd.prog) w 9999 95 _ _ hf hp]
  unfold Program.fieldsOf
  rw [Tryd.underlying95]
  exact eqFields_step w 9999 _ _ _ _ rfl _ _ (run_part1 w _ _ _ _ _ Tryd.underlying3 rfl rfl) (run_part1 w _ _ _ _ _ Tryd.underlying3 rfl rfl) _ _ (run_equalIn_int w 9998 _ _ _ _ _ Tryd.underlying3)
    (eqFields_step w 9999 _ _ _ _ rfl _ _ (run_part1 w _ _ _ _ _ Tryd.underlying5 rfl rfl) (run_part1 w _ _ _ _ _ Tryd.underlying5 rfl rfl) _ _ (run_equalIn_int w 9998 _ _ _ _ _ Tryd.underlying5)
    (eqFields_step w 9999 _ _ _ _ rfl _ _ (run_part1 w _ _ _ _ _ Tryd.underlying3 rfl rfl) (run_part1 w _ _ _ _ _ Tryd.underlying3 rfl rfl) _ _ (run_equalIn_int w 9998 _ _ _ _ _ Tryd.underlying3)
    (eqFields_nil w 9999 _ _)))
theorem neqSg (a b : Sgt) (w : World) : (binOp .neq 95 (.agg (sgtL a).toArray) (.agg (sgtL b).toArray)).run Tryd.prog w = .ok (.bool (!decide (a = b))) w := by
  rw [run_neq_struct, eqSg, Result.andThen_ok]
theorem eqGuardSg : Tryd.prog.eqGuardType Tryd.prog.depth 95 = false := by kernel_rfl
set_option maxRecDepth 100000 in
set_option maxHeartbeats 4000000 in
theorem equalSg_s (v1 v2 : Value) (l m : List Sgt) (w0 : World) (h1 : Sl w0 3 v1 l.length (l.flatMap sgtL)) (h2 : Sl w0 3 v2 m.length (m.flatMap sgtL)) :
    Calls Tryd.prog 86 #[v1, v2] w0 fun e w' => e = .returned (.bool (decide (l = m))) ∧ Has w0 w' [] := by
  have S := Has.start w0
  obtain ⟨a0, c0, rfl, k1, k2⟩ := Sl.shape h1
  obtain ⟨a1, c1, rfl, k3, k4⟩ := Sl.shape h2
  unfold maxLen at k2 k4
  by_cases hl : l.length = m.length
  case neg =>
    rw [decide_eq_false (fun e => hl (by rw [e]))]
    have i0 : ((l.length : Int) != (m.length : Int)) = true := by rw [bne_iff_ne]; omega
    have H1 := Lib.hid h1; have H2 := Lib.hid h2; clear h1 h2
    clear hl
    go_enter Tryd.func86, Tryd.ntmps86
    go_wp2_with (first | fail)
    go_ret
    exact ⟨rfl, S.nil⟩
  have i0 : ((m.length : Int) != (m.length : Int)) = false := by simp
  rw [hl] at h1 k1
  rw [hl]
  obtain ⟨D, hD⟩ : ∃ D, D = decide (l = m) := ⟨_, rfl⟩
  rw [← hD]
  have eg := eqGuardSg
  have H1 := Lib.hid h1; have H2 := Lib.hid h2; have HL := Lib.hid hl; have HD := Lib.hid hD; clear h1 h2 hl hD
  go_enter Tryd.func86, Tryd.ntmps86
  go_wp2_with (first | fail)
  go_loopw [13] (fun u wr => ∃ (k : Nat), k ≤ m.length ∧ u = .int .i64 (k : Int) ∧ l.take k = m.take k ∧ Has w0 wr []) (fun u _ => m.length - (intOf u).toNat)
  case atStart => exact ⟨0, Nat.zero_le _, rfl, rfl, S⟩
  case round =>
    clear S
    obtain ⟨k, hk, rfl, heq, S⟩ := hrel
    by_cases hlt : k < m.length
    · have hll := HL.out
      have hy : m[k]? = some m[k] := List.getElem?_eq_getElem hlt
      have hx : l[k]? = some (l[k]'(by omega)) := List.getElem?_eq_getElem _
      obtain ⟨b, off, rfl, hcell⟩ := H1.out.atA (by omega)
      obtain ⟨b2, off2, rfl, hcell2⟩ := H2.out.atA (by omega)
      have hrg := H1.out.elem sgtL_length (by decide) k _ hx
      have hrg2 := H2.out.elem sgtL_length (by decide) k _ hy
      obtain ⟨x, hxe⟩ : ∃ x, x = (l[k]'(by omega)) := ⟨_, rfl⟩
      obtain ⟨y, hye⟩ : ∃ y, y = m[k] := ⟨_, rfl⟩
      rw [← hxe] at hrg hx
      rw [← hye] at hrg2 hy
      have hne := fun w => neqSg x y w
      have hki : (k : Int) < (m.length : Int) := by omega
      have hki2 : (k : Int) < 9223372036854775807 := by omega
      have hyes : x = y → l.take (k + 1) = m.take (k + 1) := fun e => by rw [List.take_add_one, List.take_add_one, heq, hx, hy, e]
      have hno : x ≠ y → D = false := fun e => HD.out.trans <| decide_eq_false (fun h => e (by rw [h, hy] at hx; exact (Option.some.inj hx).symm))
      clear hx hy hcell hcell2 hxe hye hll
      have HRG := Lib.hid hrg; have HRG2 := Lib.hid hrg2; have HYES := Lib.hid hyes; have HNO := Lib.hid hno; have HEQ := Lib.hid heq; clear hrg hrg2 hyes hno heq
      go_upto_region 6 with (first | fail)
      by_cases hxy : x = y
      · subst hxy
        rw [decide_eq_true rfl, Bool.not_true] at hne
        refine wp_rely S [sv [] ((.slice (some ⟨b, off, none⟩) m.length c0)), sv [] ((.int .i64 (k : Int))), sv [0, 1] (.pointer (some ⟨b, off + k * 3, none⟩)), sv [0, 1, 2] (.agg (sgtL x).toArray), sv [] ((.slice (some ⟨b2, off2, none⟩) m.length c1)), sv [] ((.int .i64 (k : Int))), sv [4, 5] (.pointer (some ⟨b2, off2 + k * 3, none⟩)), sv [4, 5, 6] (.agg (sgtL x).toArray), sv [0, 1, 2, 3, 4, 5, 6, 7] (.bool false)] ?A1 ?hA1 kR kR kR [0, 1, 2, 3, 4, 5, 6, 7, 8] kR ?hok1 ?fin1
        case hA1 => intro u; simp only [putAll, List.length_cons, List.length_nil, Nat.zero_add, Nat.reduceAdd, dstAt, List.getElem?_toArray, List.getElem?_cons_zero, List.getElem?_cons_succ, Option.bind_some, Act.put, List.setIfInBounds_toArray, List.set_cons_zero, List.set_cons_succ]; rfl
        case hok1 =>
          intro i hi
          obtain rfl | rfl | rfl | rfl | rfl | rfl | rfl | rfl | rfl : i = 0 ∨ i = 1 ∨ i = 2 ∨ i = 3 ∨ i = 4 ∨ i = 5 ∨ i = 6 ∨ i = 7 ∨ i = 8 := by simp only [List.length_cons, List.length_nil, Nat.zero_add, Nat.reduceAdd] at hi; omega
          · exact oP []
          · exact oP []
          · exact oP [0, 1]
          · clear hi
            refine step_of rfl rfl rfl ?_
            intro u G w hf S
            have f2 : u 2 = .pointer (some ⟨b, off + k * 3, none⟩) := hf 2 (by simp)
            simp only [fl, z4, z5, z6, z7, ptrBlk] at S ⊢
            simp only [f2]
            refine does_loadR 95 (.tmp 18) _ _ rfl _ (S.old_range HRG.out) _ Tryd.underlying95 rfl 3 kR (sgtL_length _) _ rfl ?_; exact ⟨rfl, S⟩
          · exact oP []
          · exact oP []
          · exact oP [4, 5]
          · clear hi
            refine step_of rfl rfl rfl ?_
            intro u G w hf S
            have f6 : u 6 = .pointer (some ⟨b2, off2 + k * 3, none⟩) := hf 6 (by simp)
            simp only [fl, z4, z5, z6, z7, ptrBlk] at S ⊢
            simp only [f6]
            refine does_loadR 95 (.tmp 22) _ _ rfl _ (S.old_range HRG2.out) _ Tryd.underlying95 rfl 3 kR (sgtL_length _) _ rfl ?_; exact ⟨rfl, S⟩
          · exact oP [3, 7]
        case fin1 =>
          intro u w hf S
          have hvA := allV hf
          simp only [AllV, RSpec.valAt, sv, Nat.zero_add, Nat.reduceAdd] at hvA
          simp only [fl, z4, z5, z6, z7, ptrBlk] at S
          clear hf
          simp only [List.length_cons, List.length_nil, Nat.zero_add, Nat.reduceAdd, List.drop_succ_cons, List.drop_zero, hvA]
          clear hvA
          clear hne
          go_wp2_with (first | fail)
          go_roundw
          case rel => exact ⟨k + 1, by omega, by go_num, HYES.out rfl, S⟩
          case measure => simp [intOf]; omega
      · rw [decide_eq_false hxy, Bool.not_false] at hne
        refine wp_rely S [sv [] ((.slice (some ⟨b, off, none⟩) m.length c0)), sv [] ((.int .i64 (k : Int))), sv [0, 1] (.pointer (some ⟨b, off + k * 3, none⟩)), sv [0, 1, 2] (.agg (sgtL x).toArray), sv [] ((.slice (some ⟨b2, off2, none⟩) m.length c1)), sv [] ((.int .i64 (k : Int))), sv [4, 5] (.pointer (some ⟨b2, off2 + k * 3, none⟩)), sv [4, 5, 6] (.agg (sgtL y).toArray), sv [0, 1, 2, 3, 4, 5, 6, 7] (.bool true)] ?A2 ?hA2 kR kR kR [0, 1, 2, 3, 4, 5, 6, 7, 8] kR ?hok2 ?fin2
        case hA2 => intro u; simp only [putAll, List.length_cons, List.length_nil, Nat.zero_add, Nat.reduceAdd, dstAt, List.getElem?_toArray, List.getElem?_cons_zero, List.getElem?_cons_succ, Option.bind_some, Act.put, List.setIfInBounds_toArray, List.set_cons_zero, List.set_cons_succ]; rfl
        case hok2 =>
          intro i hi
          obtain rfl | rfl | rfl | rfl | rfl | rfl | rfl | rfl | rfl : i = 0 ∨ i = 1 ∨ i = 2 ∨ i = 3 ∨ i = 4 ∨ i = 5 ∨ i = 6 ∨ i = 7 ∨ i = 8 := by simp only [List.length_cons, List.length_nil, Nat.zero_add, Nat.reduceAdd] at hi; omega
          · exact oP []
          · exact oP []
          · exact oP [0, 1]
          · clear hi
            refine step_of rfl rfl rfl ?_
            intro u G w hf S
            have f2 : u 2 = .pointer (some ⟨b, off + k * 3, none⟩) := hf 2 (by simp)
            simp only [fl, z4, z5, z6, z7, ptrBlk] at S ⊢
            simp only [f2]
            refine does_loadR 95 (.tmp 18) _ _ rfl _ (S.old_range HRG.out) _ Tryd.underlying95 rfl 3 kR (sgtL_length _) _ rfl ?_; exact ⟨rfl, S⟩
          · exact oP []
          · exact oP []
          · exact oP [4, 5]
          · clear hi
            refine step_of rfl rfl rfl ?_
            intro u G w hf S
            have f6 : u 6 = .pointer (some ⟨b2, off2 + k * 3, none⟩) := hf 6 (by simp)
            simp only [fl, z4, z5, z6, z7, ptrBlk] at S ⊢
            simp only [f6]
            refine does_loadR 95 (.tmp 22) _ _ rfl _ (S.old_range HRG2.out) _ Tryd.underlying95 rfl 3 kR (sgtL_length _) _ rfl ?_; exact ⟨rfl, S⟩
          · exact oP [3, 7]
        case fin2 =>
          intro u w hf S
          have hvA := allV hf
          simp only [AllV, RSpec.valAt, sv, Nat.zero_add, Nat.reduceAdd] at hvA
          simp only [fl, z4, z5, z6, z7, ptrBlk] at S
          clear hf
          simp only [List.length_cons, List.length_nil, Nat.zero_add, Nat.reduceAdd, List.drop_succ_cons, List.drop_zero, hvA]
          clear hvA
          clear hne
          go_wp2_with (first | fail)
          go_ret
          exact ⟨by rw [HNO.out hxy]; rfl, S.nil⟩
    · obtain rfl : k = m.length := by omega
      have hki : ¬ (m.length : Int) < (m.length : Int) := by omega
      have hlm : D = true := HD.out.trans <| decide_eq_true (by
        have h3 := heq
        rw [List.take_of_length_le (by rw [HL.out]; exact Nat.le_refl _), List.take_length] at h3
        exact h3)
      have HLM := Lib.hid hlm; clear hlm
      clear heq
      go_wp2_with (first | fail)
      go_ret
      exact ⟨by rw [HLM.out]; rfl, S.nil⟩
set_option maxRecDepth 100000 in
set_option maxHeartbeats 4000000 in
theorem equalRc_s (v1 v2 : Value) (l m : List Rcd) (w0 : World) (h1 : Sl w0 35 v1 l.length (l.flatMap rcdL)) (h2 : Sl w0 35 v2 m.length (m.flatMap rcdL)) :
    Calls Tryd.prog 87 #[v1, v2] w0 fun e w' => e = .returned (.bool (decide (l = m))) ∧ Has w0 w' [] := by
  have S := Has.start w0
  obtain ⟨a0, c0, rfl, k1, k2⟩ := Sl.shape h1
  obtain ⟨a1, c1, rfl, k3, k4⟩ := Sl.shape h2
  unfold maxLen at k2 k4
  by_cases hl : l.length = m.length
  case neg =>
    rw [decide_eq_false (fun e => hl (by rw [e]))]
    have i0 : ((l.length : Int) != (m.length : Int)) = true := by rw [bne_iff_ne]; omega
    have H1 := Lib.hid h1; have H2 := Lib.hid h2; clear h1 h2
    clear hl
    go_enter Tryd.func87, Tryd.ntmps87
    go_wp2_with (first | fail)
    go_ret
    exact ⟨rfl, S.nil⟩
  have i0 : ((m.length : Int) != (m.length : Int)) = false := by simp
  rw [hl] at h1 k1
  rw [hl]
  obtain ⟨D, hD⟩ : ∃ D, D = decide (l = m) := ⟨_, rfl⟩
  rw [← hD]
  have eg := eqGuardRc
  have H1 := Lib.hid h1; have H2 := Lib.hid h2; have HL := Lib.hid hl; have HD := Lib.hid hD; clear h1 h2 hl hD
  go_enter Tryd.func87, Tryd.ntmps87
  go_wp2_with (first | fail)
  go_loopw [13] (fun u wr => ∃ (k : Nat), k ≤ m.length ∧ u = .int .i64 (k : Int) ∧ l.take k = m.take k ∧ Has w0 wr []) (fun u _ => m.length - (intOf u).toNat)
  case atStart => exact ⟨0, Nat.zero_le _, rfl, rfl, S⟩
  case round =>
    clear S
    obtain ⟨k, hk, rfl, heq, S⟩ := hrel
    by_cases hlt : k < m.length
    · have hll := HL.out
      have hy : m[k]? = some m[k] := List.getElem?_eq_getElem hlt
      have hx : l[k]? = some (l[k]'(by omega)) := List.getElem?_eq_getElem _
      obtain ⟨b, off, rfl, hcell⟩ := H1.out.atA (by omega)
      obtain ⟨b2, off2, rfl, hcell2⟩ := H2.out.atA (by omega)
      have hrg := H1.out.elem rcdL_length (by decide) k _ hx
      have hrg2 := H2.out.elem rcdL_length (by decide) k _ hy
      obtain ⟨x, hxe⟩ : ∃ x, x = (l[k]'(by omega)) := ⟨_, rfl⟩
      obtain ⟨y, hye⟩ : ∃ y, y = m[k] := ⟨_, rfl⟩
      rw [← hxe] at hrg hx
      rw [← hye] at hrg2 hy
      have hne := fun w => neqRc x y w
      have hki : (k : Int) < (m.length : Int) := by omega
      have hki2 : (k : Int) < 9223372036854775807 := by omega
      have hyes : x = y → l.take (k + 1) = m.take (k + 1) := fun e => by rw [List.take_add_one, List.take_add_one, heq, hx, hy, e]
      have hno : x ≠ y → D = false := fun e => HD.out.trans <| decide_eq_false (fun h => e (by rw [h, hy] at hx; exact (Option.some.inj hx).symm))
      clear hx hy hcell hcell2 hxe hye hll
      have HRG := Lib.hid hrg; have HRG2 := Lib.hid hrg2; have HYES := Lib.hid hyes; have HNO := Lib.hid hno; have HEQ := Lib.hid heq; clear hrg hrg2 hyes hno heq
      go_upto_region 6 with (first | fail)
      by_cases hxy : x = y
      · subst hxy
        rw [decide_eq_true rfl, Bool.not_true] at hne
        refine wp_rely S [sv [] ((.slice (some ⟨b, off, none⟩) m.length c0)), sv [] ((.int .i64 (k : Int))), sv [0, 1] (.pointer (some ⟨b, off + k * 35, none⟩)), sv [0, 1, 2] (.agg (rcdL x).toArray), sv [] ((.slice (some ⟨b2, off2, none⟩) m.length c1)), sv [] ((.int .i64 (k : Int))), sv [4, 5] (.pointer (some ⟨b2, off2 + k * 35, none⟩)), sv [4, 5, 6] (.agg (rcdL x).toArray), sv [0, 1, 2, 3, 4, 5, 6, 7] (.bool false)] ?A3 ?hA3 kR kR kR [0, 1, 2, 3, 4, 5, 6, 7, 8] kR ?hok3 ?fin3
        case hA3 => intro u; simp only [putAll, List.length_cons, List.length_nil, Nat.zero_add, Nat.reduceAdd, dstAt, List.getElem?_toArray, List.getElem?_cons_zero, List.getElem?_cons_succ, Option.bind_some, Act.put, List.setIfInBounds_toArray, List.set_cons_zero, List.set_cons_succ]; rfl
        case hok3 =>
          intro i hi
          obtain rfl | rfl | rfl | rfl | rfl | rfl | rfl | rfl | rfl : i = 0 ∨ i = 1 ∨ i = 2 ∨ i = 3 ∨ i = 4 ∨ i = 5 ∨ i = 6 ∨ i = 7 ∨ i = 8 := by simp only [List.length_cons, List.length_nil, Nat.zero_add, Nat.reduceAdd] at hi; omega
          · exact oP []
          · exact oP []
          · exact oP [0, 1]
          · clear hi
            refine step_of rfl rfl rfl ?_
            intro u G w hf S
            have f2 : u 2 = .pointer (some ⟨b, off + k * 35, none⟩) := hf 2 (by simp)
            simp only [fl, z4, z5, z6, z7, ptrBlk] at S ⊢
            simp only [f2]
            refine does_loadR 50 (.tmp 18) _ _ rfl _ (S.old_range HRG.out) _ Tryd.underlying50 rfl 35 kR (rcdL_length _) _ rfl ?_; exact ⟨rfl, S⟩
          · exact oP []
          · exact oP []
          · exact oP [4, 5]
          · clear hi
            refine step_of rfl rfl rfl ?_
            intro u G w hf S
            have f6 : u 6 = .pointer (some ⟨b2, off2 + k * 35, none⟩) := hf 6 (by simp)
            simp only [fl, z4, z5, z6, z7, ptrBlk] at S ⊢
            simp only [f6]
            refine does_loadR 50 (.tmp 22) _ _ rfl _ (S.old_range HRG2.out) _ Tryd.underlying50 rfl 35 kR (rcdL_length _) _ rfl ?_; exact ⟨rfl, S⟩
          · exact oP [3, 7]
        case fin3 =>
          intro u w hf S
          have hvA := allV hf
          simp only [AllV, RSpec.valAt, sv, Nat.zero_add, Nat.reduceAdd] at hvA
          simp only [fl, z4, z5, z6, z7, ptrBlk] at S
          clear hf
          simp only [List.length_cons, List.length_nil, Nat.zero_add, Nat.reduceAdd, List.drop_succ_cons, List.drop_zero, hvA]
          clear hvA
          clear hne
          go_wp2_with (first | fail)
          go_roundw
          case rel => exact ⟨k + 1, by omega, by go_num, HYES.out rfl, S⟩
          case measure => simp [intOf]; omega
      · rw [decide_eq_false hxy, Bool.not_false] at hne
        refine wp_rely S [sv [] ((.slice (some ⟨b, off, none⟩) m.length c0)), sv [] ((.int .i64 (k : Int))), sv [0, 1] (.pointer (some ⟨b, off + k * 35, none⟩)), sv [0, 1, 2] (.agg (rcdL x).toArray), sv [] ((.slice (some ⟨b2, off2, none⟩) m.length c1)), sv [] ((.int .i64 (k : Int))), sv [4, 5] (.pointer (some ⟨b2, off2 + k * 35, none⟩)), sv [4, 5, 6] (.agg (rcdL y).toArray), sv [0, 1, 2, 3, 4, 5, 6, 7] (.bool true)] ?A4 ?hA4 kR kR kR [0, 1, 2, 3, 4, 5, 6, 7, 8] kR ?hok4 ?fin4
        case hA4 => intro u; simp only [putAll, List.length_cons, List.length_nil, Nat.zero_add, Nat.reduceAdd, dstAt, List.getElem?_toArray, List.getElem?_cons_zero, List.getElem?_cons_succ, Option.bind_some, Act.put, List.setIfInBounds_toArray, List.set_cons_zero, List.set_cons_succ]; rfl
        case hok4 =>
          intro i hi
          obtain rfl | rfl | rfl | rfl | rfl | rfl | rfl | rfl | rfl : i = 0 ∨ i = 1 ∨ i = 2 ∨ i = 3 ∨ i = 4 ∨ i = 5 ∨ i = 6 ∨ i = 7 ∨ i = 8 := by simp only [List.length_cons, List.length_nil, Nat.zero_add, Nat.reduceAdd] at hi; omega
          · exact oP []
          · exact oP []
          · exact oP [0, 1]
          · clear hi
            refine step_of rfl rfl rfl ?_
            intro u G w hf S
            have f2 : u 2 = .pointer (some ⟨b, off + k * 35, none⟩) := hf 2 (by simp)
            simp only [fl, z4, z5, z6, z7, ptrBlk] at S ⊢
            simp only [f2]
            refine does_loadR 50 (.tmp 18) _ _ rfl _ (S.old_range HRG.out) _ Tryd.underlying50 rfl 35 kR (rcdL_length _) _ rfl ?_; exact ⟨rfl, S⟩
          · exact oP []
          · exact oP []
          · exact oP [4, 5]
          · clear hi
            refine step_of rfl rfl rfl ?_
            intro u G w hf S
            have f6 : u 6 = .pointer (some ⟨b2, off2 + k * 35, none⟩) := hf 6 (by simp)
            simp only [fl, z4, z5, z6, z7, ptrBlk] at S ⊢
            simp only [f6]
            refine does_loadR 50 (.tmp 22) _ _ rfl _ (S.old_range HRG2.out) _ Tryd.underlying50 rfl 35 kR (rcdL_length _) _ rfl ?_; exact ⟨rfl, S⟩
          · exact oP [3, 7]
        case fin4 =>
          intro u w hf S
          have hvA := allV hf
          simp only [AllV, RSpec.valAt, sv, Nat.zero_add, Nat.reduceAdd] at hvA
          simp only [fl, z4, z5, z6, z7, ptrBlk] at S
          clear hf
          simp only [List.length_cons, List.length_nil, Nat.zero_add, Nat.reduceAdd, List.drop_succ_cons, List.drop_zero, hvA]
          clear hvA
          clear hne
          go_wp2_with (first | fail)
          go_ret
          exact ⟨by rw [HNO.out hxy]; rfl, S.nil⟩
    · obtain rfl : k = m.length := by omega
      have hki : ¬ (m.length : Int) < (m.length : Int) := by omega
      have hlm : D = true := HD.out.trans <| decide_eq_true (by
        have h3 := heq
        rw [List.take_of_length_le (by rw [HL.out]; exact Nat.le_refl _), List.take_length] at h3
        exact h3)
      have HLM := Lib.hid hlm; clear hlm
      clear heq
      go_wp2_with (first | fail)
      go_ret
      exact ⟨by rw [HLM.out]; rfl, S.nil⟩
end Go.Proofs.YtfhkmmagpnojmaaDoor

/- sameReply, for replies of one kind, code and tick. No condition but the reach. -/
namespace Go.Proofs.YtfhkmmagpnojmaaDoor
open Go.RowKit

theorem rp_eq (a b : Rp) (h0 : a.kind = b.kind) (h1 : a.code = b.code) (h2 : a.tick = b.tick) :
    decide (a = b) = (decide (a.order = b.order) && (decide (a.state = b.state) && (decide (a.done = b.done) && (decide (a.robots = b.robots) && (decide (a.queued = b.queued) && (decide (a.count = b.count) && (decide (a.records = b.records) && decide (a.tok = b.tok)))))))) := by
  rw [Bool.eq_iff_iff]
  simp only [Bool.and_eq_true, decide_eq_true_eq]
  constructor
  · rintro rfl; exact ⟨rfl, rfl, rfl, rfl, rfl, rfl, rfl, rfl⟩
  · rintro ⟨h3, h4, h5, h6, h7, h8, h9, h10⟩
    exact Rp.ext' h0 h1 h2 h3 h4 h5 h6 h7 h8 h9 h10
set_option maxRecDepth 100000 in
set_option maxHeartbeats 16000000 in
theorem sameReply_s (a b : Rp) (va vb vc vd : Value) (w0 : World) (h0 : a.kind = b.kind) (h1 : a.code = b.code) (h2 : a.tick = b.tick)
    (hva : Sl w0 3 va a.robots.length (a.robots.flatMap sgtL)) (hvb : Sl w0 35 vb a.records.length (a.records.flatMap rcdL)) (hvc : Sl w0 3 vc b.robots.length (b.robots.flatMap sgtL)) (hvd : Sl w0 35 vd b.records.length (b.records.flatMap rcdL)) :
    Calls Tryd.prog 73 #[.agg (rpL a va vb).toArray, .agg (rpL b vc vd).toArray] w0 fun e w' => e = .returned (.bool (decide (a = b))) ∧ Has w0 w' [] := by
  have S := Has.start w0
  obtain ⟨D, hD⟩ : ∃ D, D = decide (a = b) := ⟨_, rfl⟩
  have hDe := rp_eq a b h0 h1 h2
  rw [← hD] at hDe
  rw [← hD]
  have p1 := fun w h1 h2 => equalSg_s va vc a.robots b.robots w h1 h2
  have p2 := fun w h1 h2 => equalRc_s vb vd a.records b.records w h1 h2
  have he := fun w => eqlT a.tok b.tok w
  have eg := eqGuardT
  have f0 : ((a.kind.toNat : Int) == (b.kind.toNat : Int)) = true := by rw [h0, beq_self_eq_true]
  have f1 : (a.code.v == b.code.v) = true := by rw [h1, beq_self_eq_true]
  have f2 : ((a.tick.toNat : Int) == (b.tick.toNat : Int)) = true := by rw [h2, beq_self_eq_true]
  have f3 := beqI a.order b.order
  have f4 := beqU8 a.state b.state
  have f5 := beqU64 a.done b.done
  have f7 := beqI a.queued b.queued
  have f8 := beqU32 a.count b.count
  obtain ⟨x3, hx3⟩ : ∃ x, x = decide (a.order = b.order) := ⟨_, rfl⟩
  obtain ⟨x4, hx4⟩ : ∃ x, x = decide (a.state = b.state) := ⟨_, rfl⟩
  obtain ⟨x5, hx5⟩ : ∃ x, x = decide (a.done = b.done) := ⟨_, rfl⟩
  obtain ⟨x6, hx6⟩ : ∃ x, x = decide (a.robots = b.robots) := ⟨_, rfl⟩
  obtain ⟨x7, hx7⟩ : ∃ x, x = decide (a.queued = b.queued) := ⟨_, rfl⟩
  obtain ⟨x8, hx8⟩ : ∃ x, x = decide (a.count = b.count) := ⟨_, rfl⟩
  obtain ⟨x9, hx9⟩ : ∃ x, x = decide (a.records = b.records) := ⟨_, rfl⟩
  obtain ⟨x10, hx10⟩ : ∃ x, x = decide (a.tok = b.tok) := ⟨_, rfl⟩
  rw [← hx3] at f3 hDe
  rw [← hx4] at f4 hDe
  rw [← hx5] at f5 hDe
  rw [← hx6] at p1 hDe
  rw [← hx7] at f7 hDe
  rw [← hx8] at f8 hDe
  rw [← hx9] at p2 hDe
  rw [← hx10] at hDe
  simp only [← hx10] at he
  have a0 := rpL_0 a va vb
  have a1 := rpL_1 a va vb
  have a2 := rpL_2 a va vb
  have a3 := rpL_3 a va vb
  have a4 := rpL_4 a va vb
  have a5 := rpL_5 a va vb
  have a6 := rpL_6 a va vb
  have a7 := rpL_7 a va vb
  have a8 := rpL_8 a va vb
  have a9 := rpL_9 a va vb
  have at' := rpL_tok a va vb
  have b0 := rpL_0 b vc vd
  have b1 := rpL_1 b vc vd
  have b2 := rpL_2 b vc vd
  have b3 := rpL_3 b vc vd
  have b4 := rpL_4 b vc vd
  have b5 := rpL_5 b vc vd
  have b6 := rpL_6 b vc vd
  have b7 := rpL_7 b vc vd
  have b8 := rpL_8 b vc vd
  have b9 := rpL_9 b vc vd
  have bt := rpL_tok b vc vd
  have key : x3 = false ∨ (x3 = true ∧ (x4 = false ∨ (x4 = true ∧ (x5 = false ∨ (x5 = true ∧ (x6 = false ∨ (x6 = true ∧ (x7 = false ∨ (x7 = true ∧ (x8 = false ∨ (x8 = true ∧ (x9 = false ∨ x9 = true)))))))))))) := by
    cases x3 <;> cases x4 <;> cases x5 <;> cases x6 <;> cases x7 <;> cases x8 <;> cases x9 <;> simp
  clear hx3 hx4 hx5 hx6 hx7 hx8 hx9 hx10 h0 h1 h2 hD
  rcases key with rfl | ⟨rfl, rfl | ⟨rfl, rfl | ⟨rfl, rfl | ⟨rfl, rfl | ⟨rfl, rfl | ⟨rfl, rfl | rfl⟩⟩⟩⟩⟩⟩
  all_goals
    simp only [Bool.false_and, Bool.true_and] at hDe
    have A0 := Lib.hid a0; have A1 := Lib.hid a1; have A2 := Lib.hid a2; have A3 := Lib.hid a3; have A4 := Lib.hid a4; have A5 := Lib.hid a5; have A6 := Lib.hid a6; have A7 := Lib.hid a7; have A8 := Lib.hid a8; have A9 := Lib.hid a9; have B0 := Lib.hid b0; have B1 := Lib.hid b1; have B2 := Lib.hid b2; have B3 := Lib.hid b3; have B4 := Lib.hid b4; have B5 := Lib.hid b5; have B6 := Lib.hid b6; have B7 := Lib.hid b7; have B8 := Lib.hid b8; have B9 := Lib.hid b9; have AT' := Lib.hid at'; have BT := Lib.hid bt; have P1 := Lib.hid p1; have P2 := Lib.hid p2; have HVA := Lib.hid hva; have HVB := Lib.hid hvb; have HVC := Lib.hid hvc; have HVD := Lib.hid hvd; have HDE := Lib.hid hDe; clear a0 a1 a2 a3 a4 a5 a6 a7 a8 a9 b0 b1 b2 b3 b4 b5 b6 b7 b8 b9 at' bt p1 p2 hva hvb hvc hvd hDe
    go_enter Tryd.func73, Tryd.ntmps73
    simp only [List.append_eq, List.cons_append, List.nil_append]
    go_wp2_with (first | ((with_reducible refine iD 2 (.box 79 (.tmp 0)) ?_); refine step_boxA (dst := some 2) S 79 (.tmp 0) _ rfl gw ?_; clear S; intro g2 w S) | ((with_reducible refine iD 3 (.box 79 (.tmp 1)) ?_); refine step_boxA (dst := some 3) S 79 (.tmp 1) _ rfl gw ?_; clear S; intro g3 w S) | ((with_reducible refine iO _ (.load 5 _) ?_); refine step_load1 5 _ _ _ rfl (cL) _ Tryd.underlying5 rfl gw ?_) | ((with_reducible refine iO _ (.load 24 _) ?_); refine step_load1 24 _ _ _ rfl (cL) _ Tryd.underlying24 rfl gw ?_) | ((with_reducible refine iO _ (.load 23 _) ?_); refine step_load1 23 _ _ _ rfl (cL) _ Tryd.underlying23 rfl gw ?_) | ((with_reducible refine iO _ (.load 3 _) ?_); refine step_load1 3 _ _ _ rfl (cL) _ Tryd.underlying3 rfl gw ?_) | ((with_reducible refine iO _ (.load 77 _) ?_); refine step_load1 77 _ _ _ rfl (cL) _ Tryd.underlying77 rfl gw ?_) | (go_at_call 86; (with_reducible refine (P1.out _ (S.old HVA.out) (S.old HVC.out)).mono ?_); rintro e w1 ⟨rfl, T⟩; replace S := S.call T; clear T; (try simp only [z4, z5] at S)) | ((with_reducible refine iO _ (.load 38 _) ?_); refine step_load1 38 _ _ _ rfl (cL) _ Tryd.underlying38 rfl gw ?_) | ((with_reducible refine iO _ (.load 31 _) ?_); refine step_load1 31 _ _ _ rfl (cL) _ Tryd.underlying31 rfl gw ?_) | (go_at_call 87; (with_reducible refine (P2.out _ (S.old HVB.out) (S.old HVD.out)).mono ?_); rintro e w1 ⟨rfl, T⟩; replace S := S.call T; clear T; (try simp only [z4, z5] at S)) | ((with_reducible refine iO _ (.load 67 _) ?_); first | (refine step_loadR 67 _ _ _ rfl _ (S.old_range hy) _ Tryd.underlying67 rfl 36 kR lN _ rfl gw ?_) | (refine step_loadP S 67 _ _ _ rfl _ _ _ pk 36 _ pT lN _ Tryd.underlying67 rfl kR gw ?_)) | fail)
    go_ret
    exact ⟨by rw [HDE.out]; rfl, S.nil⟩
end Go.Proofs.YtfhkmmagpnojmaaDoor
