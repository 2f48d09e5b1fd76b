/- The method 'write' of a chain; of any valid body. No condition but the reach. -/
import Derived.Test.YtfhkmmagpnojmaaZBd
import Derived.Test.YtfhkmmagpnojmaaZRpW
set_option linter.unusedSimpArgs false
set_option linter.unusedVariables false
namespace Go.Proofs.Ytfhkmmagpnojmaa
open Go.RowKit

/-- The link of a record in memory reads as bytes. -/
theorem Has.bs_link {w0 w : World} {l F : List Res} {g : Nat} {x : Rcd} {ty : TypeId} {fr : Nat × Nat} (S : Has w0 w l) (h : Pick l (blk g (.cells (rcdL x).toArray ty fr)) F) : Bs w (.slice (some ⟨g, 3, none⟩) 32 32) x.link := by
  have hb := Bs.mk (w := w) (xs := x.link) (b := g) (off := 3) (cap := 32) (by rw [x.len]; exact Nat.le_refl _) (by decide) (fun i hi => S.cell h (by
    show (rcdL x).toArray[3 + i]? = _
    rw [List.getElem?_toArray, rcdL, List.getElem?_append_right (by simp)]
    simp [hi]))
  rwa [x.len] at hb
set_option maxRecDepth 100000 in
set_option maxHeartbeats 8000000 in
theorem chainWrite_s (rv : Value) (l : List Rcd) (n : UInt32) (hv : ∀ x ∈ l, rcdV x = true) (h32 : l.length ≤ 32) (g : Nat) (v : Value) (xs : List UInt8) (w0 w1 : World) (F : List Res) (S : Has w0 w1 (wrt g v :: row8 v xs :: F)) (hr : Sl w0 35 rv l.length (l.flatMap rcdL)) (hl : xs.length + 2000 ≤ 140737488355328) :
    Calls Try.prog 112 #[.agg #[.int .u32 (n.toNat : Int), rv], .pointer (some ⟨g, 0, none⟩)] w1 (Wrote w0 g (xs ++ numB n.toNat 4 ++ numB l.length 1 ++ l.flatMap rcdB) F) := by
  obtain ⟨a0, c0, rfl, k1, k2⟩ := Sl.shape hr
  unfold maxLen at k2
  have hn := n.toNat_lt
  have p0 := fun v w F S => wuint_i (n.toNat : Int) n.toNat rfl 4 4 rfl g v xs w0 w F S (by omega) (by decide) (by omega)
  have l0 : (xs ++ numB n.toNat 4).length = xs.length + 4 := by rw [List.length_append, numB_length]
  obtain ⟨X0, hX0⟩ : ∃ X, X = xs ++ numB n.toNat 4 := ⟨_, rfl⟩
  rw [← hX0] at p0 l0 ⊢
  have p1 := fun v w F S => wuint_i (l.length : Int) l.length rfl 1 1 rfl g v X0 w0 w F S (by omega) (by decide) (by omega)
  have l1 : (X0 ++ numB l.length 1).length = xs.length + 5 := by rw [List.length_append, numB_length, l0]
  have lf : ∀ k, ((l.take k).flatMap rcdB).length ≤ 1376 := fun k => by
    rw [flatLen rcdB 43 rcdB_length, List.length_take]; omega
  obtain ⟨X1, hX1⟩ : ∃ X, X = X0 ++ numB l.length 1 := ⟨_, rfl⟩
  rw [← hX1] at p1 l1 ⊢
  have e0 : IntKind.u64.wrap (l.length : Int) = (l.length : Int) := by rw [IntKind.wrap_u64]; omega
  have en : IntKind.u64.wrap (n.toNat : Int) = (n.toNat : Int) := by rw [IntKind.wrap_u64]; omega
  have hlx : X1.length + 1900 ≤ 140737488355328 := by omega
  obtain ⟨N, hN⟩ : ∃ N : Int, N = (n.toNat : Int) := ⟨_, rfl⟩
  rw [← hN] at en p0 ⊢
  have hv0 := hv
  have P0 := Lib.hid p0; have P1 := Lib.hid p1; have HR := Lib.hid hr; have HV0 := Lib.hid hv0; have LF := Lib.hid lf; have HLX := Lib.hid hlx; clear p0 p1 hr hv0 lf hlx
  clear hX0 hX1 l0 l1 hv hN hn
  go_enter Try.func112, Try.ntmps112
  go_wp2_with (first | (go_at_call 26; (with_reducible refine (P0.out v _ _ (S.pick2 (r := wrt g v) (s := row8 v xs) pk pk)).mono ?_); rintro e w1 ⟨rfl, v0, S1⟩; clear S; have S := S1; clear S1; have _t := P0; clear P0) | (go_at_call 26; (with_reducible refine (P1.out v0 _ _ S).mono ?_); rintro e w1 ⟨rfl, v1, S1⟩; clear S; have S := S1; clear S1) | ((with_reducible refine iD 2 (.box 128 (.tmp 0)) ?_); refine step_boxA (dst := some 2) S 128 (.tmp 0) _ rfl rfl ?_; clear S; intro g2 w S) | ((with_reducible refine iO _ (.load 33 _) ?_); refine step_load1 33 _ _ _ rfl (cL) _ Try.underlying33 rfl rfl ?_) | ((with_reducible refine iO _ (.load 51 _) ?_); refine step_load1 51 _ _ _ rfl (cL) _ Try.underlying51 rfl rfl ?_) | ((with_reducible refine iO _ (.load 106 _) ?_); first | (refine step_loadR 106 _ _ _ rfl _ (S.old_range hy) _ Try.underlying106 rfl 35 kR lN _ rfl rfl ?_) | (refine step_loadP S 106 _ _ _ rfl _ _ _ pk 35 _ pT lN _ Try.underlying106 rfl kR rfl ?_)) | ((with_reducible refine iD 5 (.alloc 106) ?_); refine step_alloc (dst := some 5) S 106 (.agg ((rcdL rcdZ).toArray)) ((rcdL rcdZ).toArray) kR rfl rfl ?_; clear S; intro g5 w S) | ((with_reducible refine iO none (.store 106 (.tmp 5) (.tmp 23)) ?_); refine step_store S 106 (.tmp 5) (.tmp 23) _ _ rfl rfl _ _ pk 35 kR lN lN on1 rfl ?_; clear S; intro w S) | ((with_reducible refine iO _ (.load 32 _) ?_); refine step_load1 32 _ _ _ rfl (cL) _ Try.underlying32 rfl rfl ?_) | ((with_reducible refine iO _ (.load 5 _) ?_); refine step_load1 5 _ _ _ rfl (cL) _ Try.underlying5 rfl rfl ?_) | ((with_reducible refine iO _ (.load 24 _) ?_); refine step_load1 24 _ _ _ rfl (cL) _ Try.underlying24 rfl rfl ?_) | ((with_reducible refine iO _ (.load 22 _) ?_); refine step_load1 22 _ _ _ rfl (cL) _ Try.underlying22 rfl rfl ?_) | (at_builtin; refine step_append8 S (.tmp 42) (.tmp 44) _ _ rfl pk _ _ rfl bS lE rfl ?_; clear S; intro v45 w S; (try simp only [z4] at S)) | ((with_reducible refine iO none (.store 22 (.tmp 47) (.tmp 45)) ?_); first | (refine step_store1 S 22 (.tmp 47) (.tmp 45) _ _ (.slice _ _ _) rfl rfl _ _ pk kR rfl rfl lN rfl ?_; clear S; intro w S; try simp only [List.setIfInBounds_toArray, List.set_cons_zero, List.set_cons_succ] at S) | (refine step_storeR S 22 (.tmp 47) (.tmp 45) _ _ (.slice _ _ _) rfl rfl _ _ _ _ pk lE kR rfl rfl rfl ?_; clear S; intro w S) | (refine step_storeS S 22 (.tmp 47) (.tmp 45) _ _ (.slice _ _ _) rfl rfl _ _ _ _ _ pk lE kR rfl rfl rfl ?_; clear S; intro w S)) | fail)
  go_loopw [20] (fun u wr => ∃ (k : Nat) (vv : Value), k ≤ l.length ∧ u = .int .i64 (k : Int) ∧ Has w0 wr (wrt g vv :: row8 vv (X1 ++ (l.take k).flatMap rcdB) :: blk g2 (.cells #[.int .u32 N, .slice a0 l.length c0] 128 (0, 0)) :: F)) (fun u _ => l.length - (intOf u).toNat)
  case atStart => exact ⟨0, _, Nat.zero_le _, rfl, by rw [List.take_zero, List.flatMap_nil, List.append_nil]; exact S⟩
  case round =>
    clear S
    obtain ⟨k, vv, hk, rfl, S⟩ := hrel
    by_cases hlt : k < l.length
    · have hki : (k : Int) < (l.length : Int) := by omega
      have hki2 : (k : Int) < 9223372036854775807 := by omega
      have hx : l[k]? = some l[k] := List.getElem?_eq_getElem hlt
      obtain ⟨b, off, rfl, _⟩ := HR.out.atA (by omega)
      have hrg := HR.out.elem rcdL_length (by decide) k _ hx
      have hmore := flat_take1 rcdB l k _ hx
      have hxv := HV0.out _ (List.getElem_mem hlt)
      obtain ⟨x, hxe⟩ : ∃ x, x = l[k] := ⟨_, rfl⟩
      rw [← hxe] at hrg hmore hxv
      unfold rcdV at hxv
      have hxv := of_decide_eq_true hxv
      have hle := HLX.out
      have hlk := LF.out k
      have ht := x.tick.toNat_lt
      have hkd := x.kind.toNat_lt
      obtain ⟨Y0, hY0⟩ : ∃ X, X = X1 ++ (l.take k).flatMap rcdB := ⟨_, rfl⟩
      have hy0 : Y0.length + 500 ≤ 140737488355328 := by rw [hY0, List.length_append]; omega
      rw [← hY0] at S
      have q1 := fun v w F S => wuint_i (x.tick.toNat : Int) x.tick.toNat rfl 8 8 rfl g v Y0 w0 w F S (by omega) (by decide) (by omega)
      have m1 : (Y0 ++ numB x.tick.toNat 8).length = Y0.length + 8 := by rw [List.length_append, numB_length]
      obtain ⟨Y1, hY1⟩ : ∃ X, X = Y0 ++ numB x.tick.toNat 8 := ⟨_, rfl⟩
      rw [← hY1] at q1 m1
      have q2 := fun v w F S => wuint_i (x.kind.toNat : Int) x.kind.toNat rfl 1 1 rfl g v Y1 w0 w F S (by omega) (by decide) (by omega)
      have m2 : (Y1 ++ numB x.kind.toNat 1).length = Y0.length + 9 := by rw [List.length_append, numB_length, m1]
      obtain ⟨Y2, hY2⟩ : ∃ X, X = Y1 ++ numB x.kind.toNat 1 := ⟨_, rfl⟩
      rw [← hY2] at q2 m2
      have q3 := fun v w F S => wuint_i x.code.v x.code.v.toNat (by omega) 2 2 rfl g v Y2 w0 w F S (by omega) (by decide) (by omega)
      have m3 : (Y2 ++ numB x.code.v.toNat 2).length = Y0.length + 11 := by rw [List.length_append, numB_length, m2]
      obtain ⟨Y3, hY3⟩ : ∃ X, X = Y2 ++ numB x.code.v.toNat 2 := ⟨_, rfl⟩
      rw [← hY3] at q3 m3
      have m4 : Y3.length + x.link.length ≤ 140737488355328 := by rw [x.len]; omega
      have hend : X1 ++ (l.take (k + 1)).flatMap rcdB = Y3 ++ x.link := by
        rw [hmore, hY3, hY2, hY1, hY0]
        unfold rcdB
        simp only [List.append_assoc]
      have g0 := rcdL_0 x
      have g1 := rcdL_1 x
      have g2' := rcdL_2 x
      have u1 : IntKind.u64.wrap (x.kind.toNat : Int) = (x.kind.toNat : Int) := by rw [IntKind.wrap_u64]; omega
      have u3 : IntKind.u64.wrap x.code.v = x.code.v := by rw [IntKind.wrap_u64]; omega
      clear hx hmore hxv hxe hle hlk hY0 hY1 hY2 hY3 m1 m2 m3 hy0 ht hkd
      have HRG := Lib.hid hrg; have Q1 := Lib.hid q1; have Q2 := Lib.hid q2; have Q3 := Lib.hid q3; have HEND := Lib.hid hend; have G0 := Lib.hid g0; have G1 := Lib.hid g1; have G2' := Lib.hid g2'; have M4 := Lib.hid m4; clear hrg q1 q2 q3 hend g0 g1 g2' m4
      go_upto_region 9 with (first | (go_at_call 26; (with_reducible refine (Q1.out vv _ _ (S.pick2 (r := wrt g vv) (s := row8 vv Y0) pk pk)).mono ?_); rintro e w1 ⟨rfl, v1, S1⟩; clear S; have S := S1; clear S1; have _t := Q1; clear Q1) | (go_at_call 26; (with_reducible refine (Q2.out v1 _ _ S).mono ?_); rintro e w1 ⟨rfl, v2, S1⟩; clear S; have S := S1; clear S1; have _t2 := Q2; clear Q2) | (go_at_call 26; (with_reducible refine (Q3.out v2 _ _ S).mono ?_); rintro e w1 ⟨rfl, v3, S1⟩; clear S; have S := S1; clear S1) | ((with_reducible refine iD 2 (.box 128 (.tmp 0)) ?_); refine step_boxA (dst := some 2) S 128 (.tmp 0) _ rfl rfl ?_; clear S; intro g2 w S) | ((with_reducible refine iO _ (.load 33 _) ?_); refine step_load1 33 _ _ _ rfl (cL) _ Try.underlying33 rfl rfl ?_) | ((with_reducible refine iO _ (.load 51 _) ?_); refine step_load1 51 _ _ _ rfl (cL) _ Try.underlying51 rfl rfl ?_) | ((with_reducible refine iO _ (.load 106 _) ?_); first | (refine step_loadR 106 _ _ _ rfl _ (S.old_range hy) _ Try.underlying106 rfl 35 kR lN _ rfl rfl ?_) | (refine step_loadP S 106 _ _ _ rfl _ _ _ pk 35 _ pT lN _ Try.underlying106 rfl kR rfl ?_)) | ((with_reducible refine iD 5 (.alloc 106) ?_); refine step_alloc (dst := some 5) S 106 (.agg ((rcdL rcdZ).toArray)) ((rcdL rcdZ).toArray) kR rfl rfl ?_; clear S; intro g5 w S) | ((with_reducible refine iO none (.store 106 (.tmp 5) (.tmp 23)) ?_); refine step_store S 106 (.tmp 5) (.tmp 23) _ _ rfl rfl _ _ pk 35 kR lN lN on1 rfl ?_; clear S; intro w S) | ((with_reducible refine iO _ (.load 32 _) ?_); refine step_load1 32 _ _ _ rfl (cL) _ Try.underlying32 rfl rfl ?_) | ((with_reducible refine iO _ (.load 5 _) ?_); refine step_load1 5 _ _ _ rfl (cL) _ Try.underlying5 rfl rfl ?_) | ((with_reducible refine iO _ (.load 24 _) ?_); refine step_load1 24 _ _ _ rfl (cL) _ Try.underlying24 rfl rfl ?_) | ((with_reducible refine iO _ (.load 22 _) ?_); refine step_load1 22 _ _ _ rfl (cL) _ Try.underlying22 rfl rfl ?_) | (at_builtin; refine step_append8 S (.tmp 42) (.tmp 44) _ _ rfl pk _ _ rfl bS lE rfl ?_; clear S; intro v45 w S; (try simp only [z4] at S)) | ((with_reducible refine iO none (.store 22 (.tmp 47) (.tmp 45)) ?_); first | (refine step_store1 S 22 (.tmp 47) (.tmp 45) _ _ (.slice _ _ _) rfl rfl _ _ pk kR rfl rfl lN rfl ?_; clear S; intro w S; try simp only [List.setIfInBounds_toArray, List.set_cons_zero, List.set_cons_succ] at S) | (refine step_storeR S 22 (.tmp 47) (.tmp 45) _ _ (.slice _ _ _) rfl rfl _ _ _ _ pk lE kR rfl rfl rfl ?_; clear S; intro w S) | (refine step_storeS S 22 (.tmp 47) (.tmp 45) _ _ (.slice _ _ _) rfl rfl _ _ _ _ _ pk lE kR rfl rfl rfl ?_; clear S; intro w S)) | fail)
      have S := (S.pick2 (r := wrt g v3) (s := row8 v3 Y3) pk pk).join
      refine wp_relyW (e1 := noRes) 4 (S.pick (r := both (wrt g v3) (row8 v3 Y3)) pk) [⟨[], [], [], fun _ v => v = (.pointer (some ⟨g, 0, none⟩)), fun _ v => []⟩, ⟨[], [], [], fun _ v => v = (.pointer (some ⟨g, 0, none⟩)), fun _ v => []⟩, ⟨[1], [], [], fun _ v => v = .pointer (some ⟨g, 0, none⟩), fun _ v => []⟩, ⟨[1, 2], [], [], fun _ v => v = .pointer (some ⟨g, 0, none⟩), fun _ v => []⟩, ⟨[1, 2, 3], [], [], fun _ v => v = v3, fun _ v => [wrt g v3, row8 v3 Y3]⟩, ⟨[], [], [], fun _ v => v = .pointer (some ⟨g5, 3, none⟩), fun _ v => []⟩, ⟨[5], [], [], fun _ v => v = .slice (some ⟨g5, 3, none⟩) 32 32, fun _ v => []⟩, ⟨[1, 2, 3, 4, 5, 6], [4], [], fun _ v => True, fun _ v => [wrt g v3, row8 v (Y3 ++ x.link)]⟩, ⟨[0, 1, 2, 3, 4, 5, 6, 7], [], [], fun _ v => v = .pointer (some ⟨g, 0, none⟩), fun _ v => []⟩, ⟨[0, 1, 2, 3, 4, 5, 6, 7, 8], [], [], fun _ v => v = .pointer (some ⟨g, 0, none⟩), fun _ v => []⟩, ⟨[0, 1, 2, 3, 4, 5, 6, 7, 8, 9], [7], [], fun _ v => True, fun d v => [wrt g (d 7), row8 (d 7) (Y3 ++ x.link)]⟩] ?A1 ?hA1 kR kR kR [0, 1, 2, 3, 5, 6, 8, 9, 10] kR (of_decide_eq_true rfl) ?hok1 ?fin1
      case hA1 => intro u; simp only [putAll, List.length_cons, List.length_nil, Nat.zero_add, Nat.reduceAdd, dstAt, List.getElem?_toArray, List.getElem?_cons_zero, List.getElem?_cons_succ, Option.bind_some, Act.put, List.setIfInBounds_toArray, List.set_cons_zero, List.set_cons_succ]; rfl
      case hok1 =>
        intro i hi
        obtain rfl | rfl | rfl | rfl | rfl | rfl | rfl | rfl | rfl | rfl | rfl : i = 0 ∨ i = 1 ∨ i = 2 ∨ i = 3 ∨ i = 4 ∨ i = 5 ∨ i = 6 ∨ i = 7 ∨ i = 8 ∨ i = 9 ∨ i = 10 := by simp only [List.length_cons, List.length_nil, Nat.zero_add, Nat.reduceAdd] at hi; omega
        · clear hi
          rw [if_neg (by decide)]; intro r0
          refine step_of rfl rfl rfl ?_
          intro u G w hf S
          simp only [resOf, spec, RSpec.resAt, z0, z1, z2, z3, z4, z5, z6, z7, ptrBlk] at S ⊢
          simp only [does]
          go_simp
          try first | exact S | exact ⟨vv, S⟩ | exact vv
        · clear hi
          rw [if_neg (by decide)]; intro r0
          refine step_of rfl rfl rfl ?_
          intro u G w hf S
          simp only [resOf, spec, RSpec.resAt, z0, z1, z2, z3, z4, z5, z6, z7, ptrBlk] at S ⊢
          simp only [does]
          go_simp
          try first | exact S | exact ⟨vv, S⟩ | exact vv
        · clear hi
          rw [if_neg (by decide)]; intro r0
          refine step_of rfl rfl rfl ?_
          intro u G w hf S
          have f1 : u 1 = (.pointer (some ⟨g, 0, none⟩)) := hf 1 (by simp)
          simp only [resOf, spec, RSpec.resAt, z0, z1, z2, z3, z4, z5, z6, z7, ptrBlk] at S ⊢
          simp only [f1]
          simp only [does]
          go_simp
          try first | exact S | exact ⟨vv, S⟩ | exact vv
        · clear hi
          rw [if_neg (by decide)]; intro r0
          refine step_of rfl rfl rfl ?_
          intro u G w hf S
          have f2 : u 2 = .pointer (some ⟨g, 0, none⟩) := hf 2 (by simp)
          simp only [resOf, spec, RSpec.resAt, z0, z1, z2, z3, z4, z5, z6, z7, ptrBlk] at S ⊢
          simp only [f2]
          simp only [does]
          go_simp
          try first | exact S | exact ⟨vv, S⟩ | exact vv
        · clear hi
          rw [if_pos rfl]
          refine step_ofW rfl rfl rfl ?_
          intro u G w hf S
          have f3 : u 3 = .pointer (some ⟨g, 0, none⟩) := hf 3 (by simp)
          simp only [resOf, spec, RSpec.resAt, z0, z1, z2, z3, z4, z5, z6, z7, ptrBlk] at S ⊢
          simp only [f3]
          refine does_load1 22 (.tmp 41) _ _ rfl (S.taken.cell (g := g) (Pick.head _ _) rfl) _ Try.underlying22 rfl ?_; exact ⟨rfl, S.taken⟩
        · clear hi
          rw [if_neg (by decide)]; intro r0
          refine step_of rfl rfl rfl ?_
          intro u G w hf S
          simp only [resOf, spec, RSpec.resAt, z0, z1, z2, z3, z4, z5, z6, z7, ptrBlk] at S ⊢
          simp only [does]
          go_simp
          try first | exact S | exact ⟨vv, S⟩ | exact vv
        · clear hi
          rw [if_neg (by decide)]; intro r0
          refine step_of rfl rfl rfl ?_
          intro u G w hf S
          have f5 : u 5 = .pointer (some ⟨g5, 3, none⟩) := hf 5 (by simp)
          simp only [resOf, spec, RSpec.resAt, z0, z1, z2, z3, z4, z5, z6, z7, ptrBlk] at S ⊢
          simp only [f5]
          simp only [does]
          go_simp
          try first | exact S | exact ⟨vv, S⟩ | exact vv
        · clear hi
          rw [if_neg (by decide)]; intro r0
          refine step_of rfl rfl rfl ?_
          intro u G w hf S
          have f4 : u 4 = v3 := hf 4 (by simp)
          have f6 : u 6 = .slice (some ⟨g5, 3, none⟩) 32 32 := hf 6 (by simp)
          simp only [resOf, spec, RSpec.resAt, z0, z1, z2, z3, z4, z5, z6, z7, ptrBlk] at S ⊢
          simp only [f4, f6] at S ⊢
          try simp only [ptrBlk] at S
          refine does_append8 (.tmp 42) (.tmp 44) v3 Y3 rfl (S.pick (r := row8 v3 Y3) pk) _ x.link rfl (S.bs_link (g := g5) (x := x) pk) M4.out ?_; intro v' w' S; exact ⟨trivial, S.perm (List.Perm.swap _ _ _)⟩
        · clear hi
          rw [if_neg (by decide)]; intro r0
          refine step_of rfl rfl rfl ?_
          intro u G w hf S
          have f0 : u 0 = (.pointer (some ⟨g, 0, none⟩)) := hf 0 (by simp)
          simp only [resOf, spec, RSpec.resAt, z0, z1, z2, z3, z4, z5, z6, z7, ptrBlk] at S ⊢
          simp only [f0]
          simp only [does]
          go_simp
          try first | exact S | exact ⟨vv, S⟩ | exact vv
        · clear hi
          rw [if_neg (by decide)]; intro r0
          refine step_of rfl rfl rfl ?_
          intro u G w hf S
          have f8 : u 8 = .pointer (some ⟨g, 0, none⟩) := hf 8 (by simp)
          simp only [resOf, spec, RSpec.resAt, z0, z1, z2, z3, z4, z5, z6, z7, ptrBlk] at S ⊢
          simp only [f8]
          simp only [does]
          go_simp
          try first | exact S | exact ⟨vv, S⟩ | exact vv
        · clear hi
          rw [if_neg (by decide)]; intro r0
          refine step_of rfl rfl rfl ?_
          intro u G w hf S
          have f9 : u 9 = .pointer (some ⟨g, 0, none⟩) := hf 9 (by simp)
          have m7 : mask [0, 1, 2, 3, 4, 5, 6, 7, 8, 9] u 7 = u 7 := rfl
          simp only [resOf, spec, RSpec.resAt, List.getD_cons_zero, List.getD_cons_succ, List.flatMap_cons, List.flatMap_nil, List.nil_append, List.cons_append, List.append_nil, List.append_assoc, m7, ptrBlk] at S ⊢
          simp only [m7, f9] at S ⊢
          try simp only [ptrBlk] at S
          refine does_store1 S 22 (.tmp 47) (.tmp 45) 0 (u 7) rfl rfl kR (one_sl (S.bs (xs := Y3 ++ x.link) pk)).2 (one_sl (S.bs (xs := Y3 ++ x.link) pk)).1 Nat.one_pos ?_; intro w1 S; exact ⟨trivial, S⟩
      case fin1 =>
        intro u w hf S
        have f0 : u 0 = (.pointer (some ⟨g, 0, none⟩)) := hf 0 (by simp)
        have f1 : u 1 = (.pointer (some ⟨g, 0, none⟩)) := hf 1 (by simp)
        have f2 : u 2 = .pointer (some ⟨g, 0, none⟩) := hf 2 (by simp)
        have f3 : u 3 = .pointer (some ⟨g, 0, none⟩) := hf 3 (by simp)
        have f4 : u 4 = v3 := hf 4 (by simp)
        have f5 : u 5 = .pointer (some ⟨g5, 3, none⟩) := hf 5 (by simp)
        have f6 : u 6 = .slice (some ⟨g5, 3, none⟩) 32 32 := hf 6 (by simp)
        have f8 : u 8 = .pointer (some ⟨g, 0, none⟩) := hf 8 (by simp)
        have f9 : u 9 = .pointer (some ⟨g, 0, none⟩) := hf 9 (by simp)
        have m10_7 : mask [0, 1, 2, 3, 4, 5, 6, 7, 8, 9] u 7 = u 7 := rfl
        simp only [resOf, spec, RSpec.resAt, List.getD_cons_zero, List.getD_cons_succ, List.flatMap_cons, List.flatMap_nil, List.nil_append, List.cons_append, List.append_nil, List.append_assoc, m10_7, ptrBlk] at S
        clear hf
        simp only [List.length_cons, List.length_nil, Nat.zero_add, Nat.reduceAdd, List.drop_succ_cons, List.drop_zero, f0, f1, f2, f3, f4, f5, f6, f8, f9]
        try simp only [f0, f1, f2, f3, f4, f5, f6, f8, f9, ptrBlk] at S
        clear f0 f1 f2 f3 f4 f5 f6 f8 f9 m10_7
        generalize u 7 = v45 at S ⊢
        go_wp2_with (first | ((with_reducible refine iD 2 (.box 128 (.tmp 0)) ?_); refine step_boxA (dst := some 2) S 128 (.tmp 0) _ rfl rfl ?_; clear S; intro g2 w S) | ((with_reducible refine iO _ (.load 33 _) ?_); refine step_load1 33 _ _ _ rfl (cL) _ Try.underlying33 rfl rfl ?_) | ((with_reducible refine iO _ (.load 51 _) ?_); refine step_load1 51 _ _ _ rfl (cL) _ Try.underlying51 rfl rfl ?_) | ((with_reducible refine iO _ (.load 106 _) ?_); first | (refine step_loadR 106 _ _ _ rfl _ (S.old_range hy) _ Try.underlying106 rfl 35 kR lN _ rfl rfl ?_) | (refine step_loadP S 106 _ _ _ rfl _ _ _ pk 35 _ pT lN _ Try.underlying106 rfl kR rfl ?_)) | ((with_reducible refine iD 5 (.alloc 106) ?_); refine step_alloc (dst := some 5) S 106 (.agg ((rcdL rcdZ).toArray)) ((rcdL rcdZ).toArray) kR rfl rfl ?_; clear S; intro g5 w S) | ((with_reducible refine iO none (.store 106 (.tmp 5) (.tmp 23)) ?_); refine step_store S 106 (.tmp 5) (.tmp 23) _ _ rfl rfl _ _ pk 35 kR lN lN on1 rfl ?_; clear S; intro w S) | ((with_reducible refine iO _ (.load 32 _) ?_); refine step_load1 32 _ _ _ rfl (cL) _ Try.underlying32 rfl rfl ?_) | ((with_reducible refine iO _ (.load 5 _) ?_); refine step_load1 5 _ _ _ rfl (cL) _ Try.underlying5 rfl rfl ?_) | ((with_reducible refine iO _ (.load 24 _) ?_); refine step_load1 24 _ _ _ rfl (cL) _ Try.underlying24 rfl rfl ?_) | ((with_reducible refine iO _ (.load 22 _) ?_); refine step_load1 22 _ _ _ rfl (cL) _ Try.underlying22 rfl rfl ?_) | (at_builtin; refine step_append8 S (.tmp 42) (.tmp 44) _ _ rfl pk _ _ rfl bS lE rfl ?_; clear S; intro v45 w S; (try simp only [z4] at S)) | ((with_reducible refine iO none (.store 22 (.tmp 47) (.tmp 45)) ?_); first | (refine step_store1 S 22 (.tmp 47) (.tmp 45) _ _ (.slice _ _ _) rfl rfl _ _ pk kR rfl rfl lN rfl ?_; clear S; intro w S; try simp only [List.setIfInBounds_toArray, List.set_cons_zero, List.set_cons_succ] at S) | (refine step_storeR S 22 (.tmp 47) (.tmp 45) _ _ (.slice _ _ _) rfl rfl _ _ _ _ pk lE kR rfl rfl rfl ?_; clear S; intro w S) | (refine step_storeS S 22 (.tmp 47) (.tmp 45) _ _ (.slice _ _ _) rfl rfl _ _ _ _ _ pk lE kR rfl rfl rfl ?_; clear S; intro w S)) | fail)
        go_roundw
        case rel => exact ⟨k + 1, _, by omega, by go_num, by rw [HEND.out]; exact (S.drop (Pick.tail (Pick.tail (Pick.tail (Pick.head _ _))))).drop (Pick.tail (Pick.tail (Pick.head _ _)))⟩
        case measure => simp [intOf]; omega
    · obtain rfl : k = l.length := by omega
      have hki : ¬ (l.length : Int) < (l.length : Int) := by omega
      rw [List.take_length] at S
      go_wp2_with (first | ((with_reducible refine iD 2 (.box 128 (.tmp 0)) ?_); refine step_boxA (dst := some 2) S 128 (.tmp 0) _ rfl rfl ?_; clear S; intro g2 w S) | ((with_reducible refine iO _ (.load 33 _) ?_); refine step_load1 33 _ _ _ rfl (cL) _ Try.underlying33 rfl rfl ?_) | ((with_reducible refine iO _ (.load 51 _) ?_); refine step_load1 51 _ _ _ rfl (cL) _ Try.underlying51 rfl rfl ?_) | ((with_reducible refine iO _ (.load 106 _) ?_); first | (refine step_loadR 106 _ _ _ rfl _ (S.old_range hy) _ Try.underlying106 rfl 35 kR lN _ rfl rfl ?_) | (refine step_loadP S 106 _ _ _ rfl _ _ _ pk 35 _ pT lN _ Try.underlying106 rfl kR rfl ?_)) | ((with_reducible refine iD 5 (.alloc 106) ?_); refine step_alloc (dst := some 5) S 106 (.agg ((rcdL rcdZ).toArray)) ((rcdL rcdZ).toArray) kR rfl rfl ?_; clear S; intro g5 w S) | ((with_reducible refine iO none (.store 106 (.tmp 5) (.tmp 23)) ?_); refine step_store S 106 (.tmp 5) (.tmp 23) _ _ rfl rfl _ _ pk 35 kR lN lN on1 rfl ?_; clear S; intro w S) | ((with_reducible refine iO _ (.load 32 _) ?_); refine step_load1 32 _ _ _ rfl (cL) _ Try.underlying32 rfl rfl ?_) | ((with_reducible refine iO _ (.load 5 _) ?_); refine step_load1 5 _ _ _ rfl (cL) _ Try.underlying5 rfl rfl ?_) | ((with_reducible refine iO _ (.load 24 _) ?_); refine step_load1 24 _ _ _ rfl (cL) _ Try.underlying24 rfl rfl ?_) | ((with_reducible refine iO _ (.load 22 _) ?_); refine step_load1 22 _ _ _ rfl (cL) _ Try.underlying22 rfl rfl ?_) | (at_builtin; refine step_append8 S (.tmp 42) (.tmp 44) _ _ rfl pk _ _ rfl bS lE rfl ?_; clear S; intro v45 w S; (try simp only [z4] at S)) | ((with_reducible refine iO none (.store 22 (.tmp 47) (.tmp 45)) ?_); first | (refine step_store1 S 22 (.tmp 47) (.tmp 45) _ _ (.slice _ _ _) rfl rfl _ _ pk kR rfl rfl lN rfl ?_; clear S; intro w S; try simp only [List.setIfInBounds_toArray, List.set_cons_zero, List.set_cons_succ] at S) | (refine step_storeR S 22 (.tmp 47) (.tmp 45) _ _ (.slice _ _ _) rfl rfl _ _ _ _ pk lE kR rfl rfl rfl ?_; clear S; intro w S) | (refine step_storeS S 22 (.tmp 47) (.tmp 45) _ _ (.slice _ _ _) rfl rfl _ _ _ _ _ pk lE kR rfl rfl rfl ?_; clear S; intro w S)) | fail)
      go_end0
      exact ⟨rfl, vv, S.drop (Pick.tail (Pick.tail (Pick.head _ _)))⟩
/-- The bytes of a body. -/
def rpBK (q : BK) (r : Rp) : List UInt8 := match q with
  | .n => []
  | .o => numB r.order.v.toNat 2
  | .s => numB r.state.toNat 1 ++ numB r.done.toNat 8
  | .w => numB r.robots.length 1 ++ r.robots.flatMap sgtB ++ numB r.queued.v.toNat 1
  | .c => numB r.count.toNat 4 ++ numB r.records.length 1 ++ r.records.flatMap rcdB
  | .t => encT r.tok
theorem rpB_bk (r : Rp) : rpB r = rpBK (bk r) r := by
  unfold rpB bk rpBK
  by_cases h0 : r.code.v ≠ 0
  · simp only [if_pos h0]
  · by_cases h1 : r.kind = 1 ∨ r.kind = 16
    · simp only [if_neg h0, if_pos h1]
    · by_cases h3 : r.kind = 3
      · simp only [if_neg h0, if_neg h1, if_pos h3]
      · by_cases h4 : r.kind = 4
        · simp only [if_neg h0, if_neg h1, if_neg h3, if_pos h4]
        · by_cases h5 : r.kind = 5
          · simp only [if_neg h0, if_neg h1, if_neg h3, if_neg h4, if_pos h5]
          · by_cases h18 : r.kind = 18
            · simp only [if_neg h0, if_neg h1, if_neg h3, if_neg h4, if_neg h5, if_pos h18]
            · simp only [if_neg h0, if_neg h1, if_neg h3, if_neg h4, if_neg h5, if_neg h18]
theorem rpBK_len (q : BK) (r : Rp) (h : bkV q r = true) : (rpBK q r).length ≤ 1400 := by
  cases q with
  | n => simp [rpBK]
  | o => simp [rpBK, numB_length]
  | s => simp [rpBK, numB_length]
  | w =>
    have h2 : decide (r.robots.length ≤ 3) = true := by unfold bkV at h; rw [Bool.and_eq_true] at h; exact h.1
    have := of_decide_eq_true h2
    simp only [rpBK, List.length_append, numB_length, flatLen sgtB 4 sgtB_length]
    omega
  | c =>
    have := ((chV_iff _).1 h).1
    simp only [rpBK, List.length_append, numB_length, flatLen rcdB 43 rcdB_length]
    omega
  | t => simp [rpBK, encT_length]
set_option maxRecDepth 100000 in
/-- The method 'write' of a body, whichever it is. -/
theorem bodyWrite_s (q : BK) (r : Rp) (hv : bkV q r = true) (ar ac : Option Addr) (nr cr nc cc : Nat) : ∃ f a, (∀ u w, (callMethod (bodyK q r (.slice ar nr cr) (.slice ac nc cc)) "dunnage/wire.write" #[u]).run Try.prog w = .ok (.enter f #[a, u]) w) ∧
    ∀ g v xs w0 w1 F, Has w0 w1 (wrt g v :: row8 v xs :: F) → Sl w0 3 (.slice ar nr cr) r.robots.length (r.robots.flatMap sgtL) → Sl w0 35 (.slice ac nc cc) r.records.length (r.records.flatMap rcdL) → xs.length + 2000 ≤ 140737488355328 →
      Calls Try.prog f #[a, .pointer (some ⟨g, 0, none⟩)] w1 (Wrote w0 g (xs ++ rpBK q r) F) := by
  cases q with
  | n => exact ⟨97, .agg #[], fun u w => by kernel_rfl, fun g v xs w0 w1 F S _ _ _ => by
      rw [show xs ++ rpBK .n r = xs from List.append_nil xs]
      exact nothingWrite_s g v xs w0 w1 F S⟩
  | o => exact ⟨100, .int .i64 r.order.v, fun u w => by kernel_rfl, fun g v xs w0 w1 F S _ _ hl => orderWrite_s r.order (of_decide_eq_true hv) g v xs w0 w1 F S (by omega)⟩
  | s => exact ⟨103, .agg #[.int .u8 (r.state.toNat : Int), .int .u64 (r.done.toNat : Int)], fun u w => by kernel_rfl, fun g v xs w0 w1 F S _ _ hl => by
      rw [show xs ++ rpBK .s r = xs ++ numB r.state.toNat 1 ++ numB r.done.toNat 8 from (List.append_assoc _ _ _).symm]
      exact stateWrite_s r.state r.done g v xs w0 w1 F S (by omega)⟩
  | w =>
    have h2 : decide (r.robots.length ≤ 3) = true ∧ (!(r.robots.any fun x => !sgtV x)) = true ∧ decide (0 ≤ r.queued.v ∧ r.queued.v ≤ 8) = true := by
      unfold bkV at hv
      rw [Bool.and_eq_true, Bool.and_eq_true] at hv
      exact hv
    have h3 : ∀ x ∈ r.robots, sgtV x = true := by
      have := h2.2.1
      simpa using this
    exact ⟨106, .agg #[.slice ar nr cr, .int .i64 r.queued.v], fun u w => by kernel_rfl, fun g v xs w0 w1 F S hr _ hl => by
      rw [show xs ++ rpBK .w r = xs ++ numB r.robots.length 1 ++ r.robots.flatMap sgtB ++ numB r.queued.v.toNat 1 by simp [rpBK]]
      exact watchWrite_s _ r.robots r.queued h3 (of_decide_eq_true h2.1) (of_decide_eq_true h2.2.2) g v xs w0 w1 F S hr (by omega)⟩
  | c =>
    have h2 := (chV_iff _).1 hv
    exact ⟨112, .agg #[.int .u32 (r.count.toNat : Int), .slice ac nc cc], fun u w => by kernel_rfl, fun g v xs w0 w1 F S _ hr hl => by
      rw [show xs ++ rpBK .c r = xs ++ numB r.count.toNat 4 ++ numB r.records.length 1 ++ r.records.flatMap rcdB by simp [rpBK]]
      exact chainWrite_s _ r.records r.count h2.2 h2.1 g v xs w0 w1 F S hr hl⟩
  | t => exact ⟨27, .agg (tokL r.tok).toArray, fun u w => by kernel_rfl, fun g v xs w0 w1 F S _ _ hl => ticketWrite_s r.tok g v xs w0 w1 F S (by omega)⟩
end Go.Proofs.Ytfhkmmagpnojmaa
