/- The encoding of a valid reply as the specification has it. No condition but the reach. -/
import Derived.Test.YtfhkmmagpnojmaaZBd
import Derived.Test.YtfhkmmagpnojmaaZRfW
import Derived.Test.YtfhkmmagpnojmaaZRpX
import Derived.Test.YtfhkmmagpnojmaaZRefE
set_option linter.unusedSimpArgs false
set_option linter.unusedVariables false
namespace Go.Proofs.Ytfhkmmagpnojmaa
open Go.RowKit

set_option maxRecDepth 100000 in
theorem does_build82 {a : Act} {w0 w : World} {l : List Res} {dst : Option Tmp} {ty : TypeId} {pos : String} {after : Array Edge} {gd : Option (Nat × Bool)} {Post : Value → World → Prop} (S : Has w0 w l) (x y : Operand) (b c : UInt8)
    (hx : a.eval x = by8 b) (hy : a.eval y = by8 c) (h : ∀ v w', Has w0 w' (row8 v [b, c] :: l) → Post v w') : does Try.prog a.eval ⟨dst, .buildSlice 22 2 #[(0, x), (1, y)], ty, pos, after, gd⟩ w Post :=
  does_build8 S 2 #[(0, x), (1, y)] [b, c] (by simp [hx, hy]) rfl (by decide) h
theorem byte1 (n : Nat) (h : n < 256) : ((n : Nat) : Int) = ((UInt8.ofNat n).toNat : Int) ∧ numB n 1 = [UInt8.ofNat n] := by
  have e : (UInt8.ofNat n).toNat = n := by rw [UInt8.toNat_ofNat', Nat.mod_eq_of_lt h]
  refine ⟨by rw [e], ?_⟩
  have := numB_one (UInt8.ofNat n)
  rwa [e] at this
theorem byteI (n : Int) (h : 0 ≤ n ∧ n < 256) : n = ((UInt8.ofNat n.toNat).toNat : Int) ∧ numB n.toNat 1 = [UInt8.ofNat n.toNat] := by
  obtain ⟨h1, h2⟩ := byte1 n.toNat (by omega)
  exact ⟨by rw [← h1]; omega, h2⟩
set_option maxRecDepth 100000 in
set_option maxHeartbeats 64000000 in
theorem refEncodeReply_s (r : Rp) (vr vc : Value) (w0 : World) (hv : rpV r = true) (hvr : Sl w0 3 vr r.robots.length (r.robots.flatMap sgtL)) (hvc : Sl w0 35 vc r.records.length (r.records.flatMap rcdL)) :
    Calls Try.prog 42 #[.agg (rpL r vr vc).toArray] w0 (MadeB w0 (encP r)) := by
  have S := Has.start w0
  obtain ⟨ar, cr, rfl, k1, k2⟩ := Sl.shape hvr
  obtain ⟨ac, cc, rfl, k3, k4⟩ := Sl.shape hvc
  unfold maxLen at k2 k4
  have hp := hv
  rw [rpV_eq] at hp
  simp only [Bool.and_eq_true, decide_eq_true_eq] at hp
  obtain ⟨hc, _, ht, hb, _⟩ := hp
  have hE : encP r = frm (([r.kind] ++ numB r.code.v.toNat 2) ++ numB r.tick.toNat 8 ++ rpBK (bk r) r) := by
    unfold encP inP
    rw [numB_one, rpB_bk]
  have hk := bk_cases r
  obtain ⟨nr, hnr⟩ : ∃ n, n = r.robots.length := ⟨_, rfl⟩
  obtain ⟨nc, hnc⟩ : ∃ n, n = r.records.length := ⟨_, rfl⟩
  rw [← hnr] at hvr k1 ⊢
  rw [← hnc] at hvc k3 ⊢
  have d0 := rpL_0 r (.slice ar nr cr) (.slice ac nc cc)
  have d1 := rpL_1 r (.slice ar nr cr) (.slice ac nc cc)
  have d2 := rpL_2 r (.slice ar nr cr) (.slice ac nc cc)
  have d3 := rpL_3 r (.slice ar nr cr) (.slice ac nc cc)
  have d4 := rpL_4 r (.slice ar nr cr) (.slice ac nc cc)
  have d5 := rpL_5 r (.slice ar nr cr) (.slice ac nc cc)
  have d6 := rpL_6 r (.slice ar nr cr) (.slice ac nc cc)
  have d7 := rpL_7 r (.slice ar nr cr) (.slice ac nc cc)
  have d8 := rpL_8 r (.slice ar nr cr) (.slice ac nc cc)
  have d9 := rpL_9 r (.slice ar nr cr) (.slice ac nc cc)
  have dt := rpL_tok r (.slice ar nr cr) (.slice ac nc cc)
  have hsz := rpL_size r (.slice ar nr cr) (.slice ac nc cc)
  obtain ⟨X, hX⟩ : ∃ X, X = (rpL r (.slice ar nr cr) (.slice ac nc cc)).toArray := ⟨_, rfl⟩
  rw [← hX] at d0 d1 d2 d3 d4 d5 d6 d7 d8 d9 dt hsz ⊢
  clear hX
  have htl := r.tick.toNat_lt
  have n1 := fun w => number_s r.code.v.toNat 2 r.code.v 2 (by omega) rfl w (by omega) (by decide)
  have n2 := fun w => number_s r.tick.toNat 8 (r.tick.toNat : Int) 8 rfl rfl w (by omega) (by decide)
  have lc : (numB r.code.v.toNat 2).length = 2 := numB_length _ _
  have lt : (numB r.tick.toNat 8).length = 8 := numB_length _ _
  obtain ⟨C, hC⟩ : ∃ C, C = numB r.code.v.toNat 2 := ⟨_, rfl⟩
  obtain ⟨T8, hT⟩ : ∃ C, C = numB r.tick.toNat 8 := ⟨_, rfl⟩
  rw [← hC] at n1 lc hE
  rw [← hT] at n2 lt hE
  obtain ⟨N, hN⟩ : ∃ N, N = r.code.v := ⟨_, rfl⟩
  rw [← hN] at hc d1 hk n1
  obtain ⟨k, hke⟩ : ∃ k, k = r.kind := ⟨_, rfl⟩
  obtain ⟨t, hte⟩ : ∃ k, k = r.tick := ⟨_, rfl⟩
  rw [← hke] at d0 hk hE
  rw [← hte] at d2 n2
  have h1 : [k].length + C.length ≤ 140737488355328 := by simp only [List.length_cons, List.length_nil]; omega
  have l0 : ([k] ++ C).length = 3 := by rw [List.length_append, lc]; rfl
  obtain ⟨H0, hH0⟩ : ∃ H, H = [k] ++ C := ⟨_, rfl⟩
  have hH0' : Has w0 w0 [] := S
  rw [← hH0] at hE l0
  have h2 : H0.length + T8.length ≤ 140737488355328 := by rw [l0, lt]; decide
  have l1 : (H0 ++ T8).length = 11 := by rw [List.length_append, l0, lt]
  obtain ⟨H, hH⟩ : ∃ H, H = H0 ++ T8 := ⟨_, rfl⟩
  rw [← hH] at hE l1
  obtain ⟨E, hEe⟩ : ∃ E, E = encP r := ⟨_, rfl⟩
  rw [← hEe] at hE ⊢
  have u1 : IntKind.u64.wrap N = N := by rw [IntKind.wrap_u64]; omega
  clear hH0' hC hT hN hke hte lc lt l0 htl ht hEe hv
  have D0 := Lib.hid d0; have D1 := Lib.hid d1; have D2 := Lib.hid d2; have D3 := Lib.hid d3; have D4 := Lib.hid d4; have D5 := Lib.hid d5; have D6 := Lib.hid d6; have D7 := Lib.hid d7; have D8 := Lib.hid d8; have D9 := Lib.hid d9; have DT := Lib.hid dt; have HSZ := Lib.hid hsz; have HVR := Lib.hid hvr; have HVC := Lib.hid hvc; have N1 := Lib.hid n1; have N2 := Lib.hid n2; have H1 := Lib.hid h1; have H2 := Lib.hid h2; have HH0 := Lib.hid hH0; have HH := Lib.hid hH; have HE := Lib.hid hE; have L1 := Lib.hid l1; have HB := Lib.hid hb; have HNR := Lib.hid hnr; have HNC := Lib.hid hnc; clear d0 d1 d2 d3 d4 d5 d6 d7 d8 d9 dt hsz hvr hvc n1 n2 h1 h2 hH0 hH hE l1 hb hnr hnc
  go_enter Try.func42, Try.ntmps42
  go_upto_region 1 with (first | ((with_reducible refine iD 1 (.box 53 (.tmp 0)) ?_); refine step_boxA (dst := some 1) S 53 (.tmp 0) _ rfl rfl ?_; clear S; intro g1 w S) | ((with_reducible refine iO _ (.load 5 _) ?_); refine step_load1 5 _ _ _ rfl (cL) _ Try.underlying5 rfl rfl ?_) | ((with_reducible refine iD 9 (.buildSlice 22 _ _) ?_); refine step_build81 S (.tmp 8) _ rfl rfl ?_; clear S; intro v9 w S) | ((with_reducible refine iO _ (.load 24 _) ?_); refine step_load1 24 _ _ _ rfl (cL) _ Try.underlying24 rfl rfl ?_) | (at_builtin; refine step_append8 S (.tmp 9) (.tmp 13) _ _ rfl pk _ _ rfl bS lE rfl ?_; clear S; intro v14 w S; (try simp only [z4] at S)) | ((with_reducible refine iO _ (.load 32 _) ?_); refine step_load1 32 _ _ _ rfl (cL) _ Try.underlying32 rfl rfl ?_) | (at_builtin; refine step_append8 S (.tmp 15) (.tmp 18) _ _ rfl pk _ _ rfl bS lE rfl ?_; clear S; intro v19 w S; (try simp only [z4] at S)) | ((with_reducible refine iO _ (.load 3 _) ?_); refine step_load1 3 _ _ _ rfl (cL) _ Try.underlying3 rfl rfl ?_) | (at_builtin; refine step_append8 S (.tmp 30) (.tmp 34) _ _ rfl pk _ _ rfl bS lE rfl ?_; clear S; intro v35 w S; (try simp only [z4] at S)) | ((with_reducible refine iD 41 (.buildSlice 22 _ _) ?_); refine step_build81 S (.tmp 40) _ rfl rfl ?_; clear S; intro v41 w S) | (at_builtin; refine step_append8 S (.tmp 38) (.tmp 41) _ _ rfl pk _ _ rfl bS lE rfl ?_; clear S; intro v42 w S; (try simp only [z4] at S)) | (at_builtin; refine step_append8 S (.tmp 43) (.tmp 46) _ _ rfl pk _ _ rfl bS lE rfl ?_; clear S; intro v47 w S; (try simp only [z4] at S)) | ((with_reducible refine iO _ (.load 50 _) ?_); refine step_load1 50 _ _ _ rfl (cL) _ Try.underlying50 rfl rfl ?_) | ((with_reducible refine iD 55 (.buildSlice 22 _ _) ?_); refine step_build81 S (.tmp 54) _ rfl rfl ?_; clear S; intro v55 w S) | (at_builtin; refine step_append8 S (.tmp 50) (.tmp 55) _ _ rfl pk _ _ rfl bS lE rfl ?_; clear S; intro v56 w S; (try simp only [z4] at S)) | ((with_reducible refine iD 78 (.buildSlice 22 _ _) ?_); refine step_build8 S 2 _ [_, _] (by first | rfl | kernel_rfl) rfl (by decide) rfl ?_; clear S; intro v78 w S) | (at_builtin; refine step_append8 S (.tmp 64) (.tmp 78) _ _ rfl pk _ _ rfl bS lE rfl ?_; clear S; intro v79 w S; (try simp only [z4] at S)) | (at_builtin; refine step_append8 S (.tmp 80) (.tmp 88) _ _ rfl pk _ _ rfl bS lE rfl ?_; clear S; intro v89 w S; (try simp only [z4] at S)) | ((with_reducible refine iD 94 (.buildSlice 22 _ _) ?_); refine step_build81 S (.tmp 93) _ rfl rfl ?_; clear S; intro v94 w S) | (at_builtin; refine step_append8 S (.tmp 90) (.tmp 94) _ _ rfl pk _ _ rfl bS lE rfl ?_; clear S; intro v95 w S; (try simp only [z4] at S)) | ((with_reducible refine iO _ (.load 33 _) ?_); refine step_load1 33 _ _ _ rfl (cL) _ Try.underlying33 rfl rfl ?_) | (at_builtin; refine step_append8 S (.tmp 98) (.tmp 102) _ _ rfl pk _ _ rfl bS lE rfl ?_; clear S; intro v103 w S; (try simp only [z4] at S)) | ((with_reducible refine iO _ (.load 51 _) ?_); refine step_load1 51 _ _ _ rfl (cL) _ Try.underlying51 rfl rfl ?_) | ((with_reducible refine iD 109 (.buildSlice 22 _ _) ?_); refine step_build81 S (.tmp 108) _ rfl rfl ?_; clear S; intro v109 w S) | (at_builtin; refine step_append8 S (.tmp 104) (.tmp 109) _ _ rfl pk _ _ rfl bS lE rfl ?_; clear S; intro v110 w S; (try simp only [z4] at S)) | ((with_reducible refine iO _ (.load 106 _) ?_); first | (refine step_loadR 106 _ _ _ rfl _ (S.old_range hy) _ Try.underlying106 rfl 35 kR lN _ rfl rfl ?_) | (refine step_loadP S 106 _ _ _ rfl _ _ _ pk 35 _ pT lN _ Try.underlying106 rfl kR rfl ?_)) | ((with_reducible refine iD 6 (.alloc 106) ?_); refine step_alloc (dst := some 6) S 106 (.agg ((rcdL rcdZ).toArray)) ((rcdL rcdZ).toArray) kR rfl rfl ?_; clear S; intro g6 w S) | ((with_reducible refine iO none (.store 106 (.tmp 6) (.tmp 122)) ?_); refine step_store S 106 (.tmp 6) (.tmp 122) _ _ rfl rfl _ _ pk 35 kR lN lN on1 rfl ?_; clear S; intro w S) | (at_builtin; refine step_append8 S (.tmp 123) (.tmp 126) _ _ rfl pk _ _ rfl bS lE rfl ?_; clear S; intro v127 w S; (try simp only [z4] at S)) | ((with_reducible refine iD 131 (.buildSlice 22 _ _) ?_); refine step_build81 S (.tmp 130) _ rfl rfl ?_; clear S; intro v131 w S) | (at_builtin; refine step_append8 S (.tmp 128) (.tmp 131) _ _ rfl pk _ _ rfl bS lE rfl ?_; clear S; intro v132 w S; (try simp only [z4] at S)) | (at_builtin; refine step_append8 S (.tmp 133) (.tmp 137) _ _ rfl pk _ _ rfl bS lE rfl ?_; clear S; intro v138 w S; (try simp only [z4] at S)) | (at_builtin; refine step_append8 S (.tmp 139) (.tmp 141) _ _ rfl pk _ _ rfl bS lE rfl ?_; clear S; intro v142 w S; (try simp only [z4] at S)) | ((with_reducible refine iO _ (.load 36 _) ?_); first | (refine step_loadR 36 _ _ _ rfl _ (S.old_range hy) _ Try.underlying36 rfl 36 kR lN _ rfl rfl ?_) | (refine step_loadP S 36 _ _ _ rfl _ _ _ pk 36 _ pT lN _ Try.underlying36 rfl kR rfl ?_)) | (at_builtin; refine step_append8 S (.tmp 145) (.tmp 148) _ _ rfl pk _ _ rfl bS lE rfl ?_; clear S; intro v149 w S; (try simp only [z4] at S)) | fail)
  refine wp_rely S [⟨[], [], [], fun _ v => v = .pointer (some ⟨g1, 0, none⟩), fun _ v => []⟩, ⟨[0], [], [], fun _ v => v = by8 k, fun _ v => []⟩, ⟨[0, 1], [], [], fun _ v => True, fun _ v => [row8 v [k]]⟩, ⟨[], [], [], fun _ v => v = .pointer (some ⟨g1, 1, none⟩), fun _ v => []⟩, ⟨[3], [], [], fun _ v => v = .int .i64 N, fun _ v => []⟩, ⟨[3, 4], [], [], fun _ v => v = .int .u64 N, fun _ v => []⟩, ⟨[3, 4, 5], [], [], fun _ v => ∃ y, v = y, fun _ v => [row8 v C]⟩, ⟨[0, 1, 2, 3, 4, 5, 6], [2, 6], [], fun _ v => True, fun _ v => [row8 v ([k] ++ C)]⟩, ⟨[0, 1, 2, 3, 4, 5, 6, 7], [], [], fun d v => v = d 7, fun _ v => []⟩] ?A1 ?hA1 kR kR kR [0, 1, 3, 4, 5, 7, 8] kR ?hok1 ?fin1
  case hA1 => intro u; simp only [putAll, List.length_cons, List.length_nil, Nat.zero_add, Nat.reduceAdd, dstAt, List.getElem?_toArray, List.getElem?_cons_zero, List.getElem?_cons_succ, Option.bind_some, Act.put, List.setIfInBounds_toArray, List.set_cons_zero, List.set_cons_succ]; rfl
  case hok1 =>
    intro i hi
    obtain rfl | rfl | rfl | rfl | rfl | rfl | rfl | rfl | rfl : i = 0 ∨ i = 1 ∨ i = 2 ∨ i = 3 ∨ i = 4 ∨ i = 5 ∨ i = 6 ∨ i = 7 ∨ i = 8 := by simp only [List.length_cons, List.length_nil, Nat.zero_add, Nat.reduceAdd] at hi; omega
    · clear hi
      refine step_of rfl rfl rfl ?_
      intro u G w hf S
      simp only [resOf, spec, RSpec.resAt, z0, z1, z2, z3, z4, z5, z6, z7, ptrBlk] at S ⊢
      simp only [does]
      go_simp
      try first | exact S | exact ⟨vv, S⟩ | exact vv
    · clear hi
      refine step_of rfl rfl rfl ?_
      intro u G w hf S
      have f0 : u 0 = .pointer (some ⟨g1, 0, none⟩) := hf 0 (by simp)
      simp only [resOf, spec, RSpec.resAt, z0, z1, z2, z3, z4, z5, z6, z7, ptrBlk] at S ⊢
      simp only [f0]
      refine does_load1 5 (.tmp 7) _ _ rfl (S.cell (g := g1) pk co) _ Try.underlying5 rfl ?_; exact ⟨rfl, S⟩
    · clear hi
      refine step_of rfl rfl rfl ?_
      intro u G w hf S
      have f1 : u 1 = by8 k := hf 1 (by simp)
      simp only [resOf, spec, RSpec.resAt, z0, z1, z2, z3, z4, z5, z6, z7, ptrBlk] at S ⊢
      simp only [f1]
      refine does_build81 S (.tmp 8) k rfl ?_; intro v w1 S; exact ⟨trivial, S⟩
    · clear hi
      refine step_of rfl rfl rfl ?_
      intro u G w hf S
      simp only [resOf, spec, RSpec.resAt, z0, z1, z2, z3, z4, z5, z6, z7, ptrBlk] at S ⊢
      simp only [does]
      go_simp
      try first | exact S | exact ⟨vv, S⟩ | exact vv
    · clear hi
      refine step_of rfl rfl rfl ?_
      intro u G w hf S
      have f3 : u 3 = .pointer (some ⟨g1, 1, none⟩) := hf 3 (by simp)
      simp only [resOf, spec, RSpec.resAt, z0, z1, z2, z3, z4, z5, z6, z7, ptrBlk] at S ⊢
      simp only [f3]
      refine does_load1 24 (.tmp 10) _ _ rfl (S.cell (g := g1) pk co) _ Try.underlying24 rfl ?_; exact ⟨rfl, S⟩
    · clear hi
      refine step_of rfl rfl rfl ?_
      intro u G w hf S
      have f4 : u 4 = .int .i64 N := hf 4 (by simp)
      simp only [resOf, spec, RSpec.resAt, z0, z1, z2, z3, z4, z5, z6, z7, ptrBlk] at S ⊢
      simp only [f4]
      simp only [does]
      go_simp
      try first | exact S | exact ⟨vv, S⟩ | exact vv
    · clear hi
      refine step_of rfl rfl rfl ?_
      intro u G w hf S
      have f5 : u 5 = .int .u64 N := hf 5 (by simp)
      simp only [resOf, spec, RSpec.resAt, z0, z1, z2, z3, z4, z5, z6, z7, ptrBlk] at S ⊢
      simp only [f5]
      refine does_fn (args := [(.int .u64 N), (.int .i64 2)]) Try.func53 kR kR (N1.out w) rfl ?_
      rintro e w1 ⟨y, rfl, T⟩
      exact ⟨_, rfl, ⟨_, rfl⟩, S.call T⟩
    · clear hi
      refine step_of rfl rfl rfl ?_
      intro u G w hf S
      have f6 : ∃ y, u 6 = y := hf 6 (by simp)
      obtain ⟨y13, f6⟩ := f6
      simp only [resOf, spec, RSpec.resAt, z0, z1, z2, z3, z4, z5, z6, z7, ptrBlk] at S ⊢
      simp only [f6] at S ⊢
      try simp only [ptrBlk] at S
      refine does_append8 (.tmp 9) (.tmp 13) (u 2) [k] rfl (S.pick (r := row8 (u 2) [k]) pk) y13 C rfl (S.bs (v := y13) (xs := C) pk) H1.out ?_; intro v' w' S; exact ⟨trivial, S.drop (Pick.tail (Pick.head _ _))⟩
    · clear hi
      refine step_of rfl rfl rfl ?_
      intro u G w hf S
      have f6 : ∃ y, u 6 = y := hf 6 (by simp)
      obtain ⟨y13, f6⟩ := f6
      have m7 : mask [0, 1, 2, 3, 4, 5, 6, 7] u 7 = u 7 := rfl
      simp only [resOf, spec, RSpec.resAt, List.getD_cons_zero, List.getD_cons_succ, List.flatMap_cons, List.flatMap_nil, List.nil_append, List.cons_append, List.append_nil, List.append_assoc, m7, ptrBlk] at S ⊢
      simp only [m7, f6]
      simp only [does]
      go_simp
      try first | exact S | exact ⟨vv, S⟩ | exact vv
  case fin1 =>
    intro u w hf S
    have f0 : u 0 = .pointer (some ⟨g1, 0, none⟩) := hf 0 (by simp)
    have f1 : u 1 = by8 k := hf 1 (by simp)
    have f3 : u 3 = .pointer (some ⟨g1, 1, none⟩) := hf 3 (by simp)
    have f4 : u 4 = .int .i64 N := hf 4 (by simp)
    have f5 : u 5 = .int .u64 N := hf 5 (by simp)
    have f6 : ∃ y, u 6 = y := hf 6 (by simp)
    obtain ⟨y13, f6⟩ := f6
    have f8 : u 8 = u 7 := hf 8 (by simp)
    have m8_7 : mask [0, 1, 2, 3, 4, 5, 6, 7] u 7 = u 7 := rfl
    simp only [resOf, spec, RSpec.resAt, List.getD_cons_zero, List.getD_cons_succ, List.flatMap_cons, List.flatMap_nil, List.nil_append, List.cons_append, List.append_nil, List.append_assoc, m8_7, ptrBlk] at S
    clear hf
    simp only [List.length_cons, List.length_nil, Nat.zero_add, Nat.reduceAdd, List.drop_succ_cons, List.drop_zero, f0, f1, f3, f4, f5, f6, f8]
    try simp only [f0, f1, f3, f4, f5, f6, f8, ptrBlk] at S
    clear f0 f1 f3 f4 f5 f6 f8 m8_7
    generalize u 2 = v9 at S ⊢
    generalize u 7 = v14 at S ⊢
    replace S : Has w0 w [row8 v14 ([k] ++ C), blk g1 (.cells X 53 (0, 0))] := S
    rw [← HH0.out] at S
    go_upto_region 3 with (first | ((with_reducible refine iD 1 (.box 53 (.tmp 0)) ?_); refine step_boxA (dst := some 1) S 53 (.tmp 0) _ rfl rfl ?_; clear S; intro g1 w S) | ((with_reducible refine iO _ (.load 5 _) ?_); refine step_load1 5 _ _ _ rfl (cL) _ Try.underlying5 rfl rfl ?_) | ((with_reducible refine iD 9 (.buildSlice 22 _ _) ?_); refine step_build81 S (.tmp 8) _ rfl rfl ?_; clear S; intro v9 w S) | ((with_reducible refine iO _ (.load 24 _) ?_); refine step_load1 24 _ _ _ rfl (cL) _ Try.underlying24 rfl rfl ?_) | (go_at_call 53; (with_reducible refine (N2.out _).mono ?_); rintro e w1 ⟨v18, rfl, T⟩; replace S := S.call T; clear T; (try simp only [z4, z5] at S)) | (at_builtin; refine step_append8 S (.tmp 9) (.tmp 13) _ _ rfl pk _ _ rfl bS lE rfl ?_; clear S; intro v14 w S; (try simp only [z4] at S)) | ((with_reducible refine iO _ (.load 32 _) ?_); refine step_load1 32 _ _ _ rfl (cL) _ Try.underlying32 rfl rfl ?_) | (at_builtin; refine step_append8 S (.tmp 15) (.tmp 18) _ _ rfl pk _ _ rfl bS lE rfl ?_; clear S; intro v19 w S; (try simp only [z4] at S)) | ((with_reducible refine iO _ (.load 3 _) ?_); refine step_load1 3 _ _ _ rfl (cL) _ Try.underlying3 rfl rfl ?_) | (at_builtin; refine step_append8 S (.tmp 30) (.tmp 34) _ _ rfl pk _ _ rfl bS lE rfl ?_; clear S; intro v35 w S; (try simp only [z4] at S)) | ((with_reducible refine iD 41 (.buildSlice 22 _ _) ?_); refine step_build81 S (.tmp 40) _ rfl rfl ?_; clear S; intro v41 w S) | (at_builtin; refine step_append8 S (.tmp 38) (.tmp 41) _ _ rfl pk _ _ rfl bS lE rfl ?_; clear S; intro v42 w S; (try simp only [z4] at S)) | (at_builtin; refine step_append8 S (.tmp 43) (.tmp 46) _ _ rfl pk _ _ rfl bS lE rfl ?_; clear S; intro v47 w S; (try simp only [z4] at S)) | ((with_reducible refine iO _ (.load 50 _) ?_); refine step_load1 50 _ _ _ rfl (cL) _ Try.underlying50 rfl rfl ?_) | ((with_reducible refine iD 55 (.buildSlice 22 _ _) ?_); refine step_build81 S (.tmp 54) _ rfl rfl ?_; clear S; intro v55 w S) | (at_builtin; refine step_append8 S (.tmp 50) (.tmp 55) _ _ rfl pk _ _ rfl bS lE rfl ?_; clear S; intro v56 w S; (try simp only [z4] at S)) | ((with_reducible refine iD 78 (.buildSlice 22 _ _) ?_); refine step_build8 S 2 _ [_, _] (by first | rfl | kernel_rfl) rfl (by decide) rfl ?_; clear S; intro v78 w S) | (at_builtin; refine step_append8 S (.tmp 64) (.tmp 78) _ _ rfl pk _ _ rfl bS lE rfl ?_; clear S; intro v79 w S; (try simp only [z4] at S)) | (at_builtin; refine step_append8 S (.tmp 80) (.tmp 88) _ _ rfl pk _ _ rfl bS lE rfl ?_; clear S; intro v89 w S; (try simp only [z4] at S)) | ((with_reducible refine iD 94 (.buildSlice 22 _ _) ?_); refine step_build81 S (.tmp 93) _ rfl rfl ?_; clear S; intro v94 w S) | (at_builtin; refine step_append8 S (.tmp 90) (.tmp 94) _ _ rfl pk _ _ rfl bS lE rfl ?_; clear S; intro v95 w S; (try simp only [z4] at S)) | ((with_reducible refine iO _ (.load 33 _) ?_); refine step_load1 33 _ _ _ rfl (cL) _ Try.underlying33 rfl rfl ?_) | (at_builtin; refine step_append8 S (.tmp 98) (.tmp 102) _ _ rfl pk _ _ rfl bS lE rfl ?_; clear S; intro v103 w S; (try simp only [z4] at S)) | ((with_reducible refine iO _ (.load 51 _) ?_); refine step_load1 51 _ _ _ rfl (cL) _ Try.underlying51 rfl rfl ?_) | ((with_reducible refine iD 109 (.buildSlice 22 _ _) ?_); refine step_build81 S (.tmp 108) _ rfl rfl ?_; clear S; intro v109 w S) | (at_builtin; refine step_append8 S (.tmp 104) (.tmp 109) _ _ rfl pk _ _ rfl bS lE rfl ?_; clear S; intro v110 w S; (try simp only [z4] at S)) | ((with_reducible refine iO _ (.load 106 _) ?_); first | (refine step_loadR 106 _ _ _ rfl _ (S.old_range hy) _ Try.underlying106 rfl 35 kR lN _ rfl rfl ?_) | (refine step_loadP S 106 _ _ _ rfl _ _ _ pk 35 _ pT lN _ Try.underlying106 rfl kR rfl ?_)) | ((with_reducible refine iD 6 (.alloc 106) ?_); refine step_alloc (dst := some 6) S 106 (.agg ((rcdL rcdZ).toArray)) ((rcdL rcdZ).toArray) kR rfl rfl ?_; clear S; intro g6 w S) | ((with_reducible refine iO none (.store 106 (.tmp 6) (.tmp 122)) ?_); refine step_store S 106 (.tmp 6) (.tmp 122) _ _ rfl rfl _ _ pk 35 kR lN lN on1 rfl ?_; clear S; intro w S) | (at_builtin; refine step_append8 S (.tmp 123) (.tmp 126) _ _ rfl pk _ _ rfl bS lE rfl ?_; clear S; intro v127 w S; (try simp only [z4] at S)) | ((with_reducible refine iD 131 (.buildSlice 22 _ _) ?_); refine step_build81 S (.tmp 130) _ rfl rfl ?_; clear S; intro v131 w S) | (at_builtin; refine step_append8 S (.tmp 128) (.tmp 131) _ _ rfl pk _ _ rfl bS lE rfl ?_; clear S; intro v132 w S; (try simp only [z4] at S)) | (at_builtin; refine step_append8 S (.tmp 133) (.tmp 137) _ _ rfl pk _ _ rfl bS lE rfl ?_; clear S; intro v138 w S; (try simp only [z4] at S)) | (at_builtin; refine step_append8 S (.tmp 139) (.tmp 141) _ _ rfl pk _ _ rfl bS lE rfl ?_; clear S; intro v142 w S; (try simp only [z4] at S)) | ((with_reducible refine iO _ (.load 36 _) ?_); first | (refine step_loadR 36 _ _ _ rfl _ (S.old_range hy) _ Try.underlying36 rfl 36 kR lN _ rfl rfl ?_) | (refine step_loadP S 36 _ _ _ rfl _ _ _ pk 36 _ pT lN _ Try.underlying36 rfl kR rfl ?_)) | (at_builtin; refine step_append8 S (.tmp 145) (.tmp 148) _ _ rfl pk _ _ rfl bS lE rfl ?_; clear S; intro v149 w S; (try simp only [z4] at S)) | fail)
    rw [← HH.out] at S
    replace S := S.sub (k := [row8 v19 H, blk g1 (.cells X 53 (0, 0))]) (by repeat (first | exact Sub.nil _ | refine Sub.cons pk ?_))
    clear N1 N2 H1 H2 HH0 HH u1
    rcases hk with ⟨j0, hq⟩ | ⟨j0, ⟨j1, hq⟩ | ⟨j1, ⟨j2, hq⟩ | ⟨j2, ⟨j3, hq⟩ | ⟨j3, ⟨j4, hq⟩ | ⟨j4, ⟨j5, hq⟩ | ⟨j5, ⟨j6, hq⟩ | ⟨j6, hq⟩⟩⟩⟩⟩⟩⟩
    · have hE := HE.out
      rw [hq, show rpBK .n r = [] from rfl, List.append_nil] at hE
      have pf := fun v w h => refFramed_s v H w h (by rw [L1.out]; decide)
      clear hq HE
      have HE := Lib.hid hE; have PF := Lib.hid pf; clear hE pf
      go_wp2_with (first | ((with_reducible refine iD 1 (.box 53 (.tmp 0)) ?_); refine step_boxA (dst := some 1) S 53 (.tmp 0) _ rfl rfl ?_; clear S; intro g1 w S) | ((with_reducible refine iO _ (.load 5 _) ?_); refine step_load1 5 _ _ _ rfl (cL) _ Try.underlying5 rfl rfl ?_) | ((with_reducible refine iD 9 (.buildSlice 22 _ _) ?_); refine step_build81 S (.tmp 8) _ rfl rfl ?_; clear S; intro v9 w S) | ((with_reducible refine iO _ (.load 24 _) ?_); refine step_load1 24 _ _ _ rfl (cL) _ Try.underlying24 rfl rfl ?_) | (at_builtin; refine step_append8 S (.tmp 9) (.tmp 13) _ _ rfl pk _ _ rfl bS lE rfl ?_; clear S; intro v14 w S; (try simp only [z4] at S)) | ((with_reducible refine iO _ (.load 32 _) ?_); refine step_load1 32 _ _ _ rfl (cL) _ Try.underlying32 rfl rfl ?_) | (at_builtin; refine step_append8 S (.tmp 15) (.tmp 18) _ _ rfl pk _ _ rfl bS lE rfl ?_; clear S; intro v19 w S; (try simp only [z4] at S)) | (go_at_call 54; (with_reducible refine (PF.out _ _ bS).mono ?_); rintro e w1 ⟨v24, rfl, T⟩; replace S := S.call T; clear T; (try simp only [z4, z5] at S)) | ((with_reducible refine iO _ (.load 3 _) ?_); refine step_load1 3 _ _ _ rfl (cL) _ Try.underlying3 rfl rfl ?_) | (at_builtin; refine step_append8 S (.tmp 30) (.tmp 34) _ _ rfl pk _ _ rfl bS lE rfl ?_; clear S; intro v35 w S; (try simp only [z4] at S)) | ((with_reducible refine iD 41 (.buildSlice 22 _ _) ?_); refine step_build81 S (.tmp 40) _ rfl rfl ?_; clear S; intro v41 w S) | (at_builtin; refine step_append8 S (.tmp 38) (.tmp 41) _ _ rfl pk _ _ rfl bS lE rfl ?_; clear S; intro v42 w S; (try simp only [z4] at S)) | (at_builtin; refine step_append8 S (.tmp 43) (.tmp 46) _ _ rfl pk _ _ rfl bS lE rfl ?_; clear S; intro v47 w S; (try simp only [z4] at S)) | ((with_reducible refine iO _ (.load 50 _) ?_); refine step_load1 50 _ _ _ rfl (cL) _ Try.underlying50 rfl rfl ?_) | ((with_reducible refine iD 55 (.buildSlice 22 _ _) ?_); refine step_build81 S (.tmp 54) _ rfl rfl ?_; clear S; intro v55 w S) | (at_builtin; refine step_append8 S (.tmp 50) (.tmp 55) _ _ rfl pk _ _ rfl bS lE rfl ?_; clear S; intro v56 w S; (try simp only [z4] at S)) | ((with_reducible refine iD 78 (.buildSlice 22 _ _) ?_); refine step_build8 S 2 _ [_, _] (by first | rfl | kernel_rfl) rfl (by decide) rfl ?_; clear S; intro v78 w S) | (at_builtin; refine step_append8 S (.tmp 64) (.tmp 78) _ _ rfl pk _ _ rfl bS lE rfl ?_; clear S; intro v79 w S; (try simp only [z4] at S)) | (at_builtin; refine step_append8 S (.tmp 80) (.tmp 88) _ _ rfl pk _ _ rfl bS lE rfl ?_; clear S; intro v89 w S; (try simp only [z4] at S)) | ((with_reducible refine iD 94 (.buildSlice 22 _ _) ?_); refine step_build81 S (.tmp 93) _ rfl rfl ?_; clear S; intro v94 w S) | (at_builtin; refine step_append8 S (.tmp 90) (.tmp 94) _ _ rfl pk _ _ rfl bS lE rfl ?_; clear S; intro v95 w S; (try simp only [z4] at S)) | ((with_reducible refine iO _ (.load 33 _) ?_); refine step_load1 33 _ _ _ rfl (cL) _ Try.underlying33 rfl rfl ?_) | (at_builtin; refine step_append8 S (.tmp 98) (.tmp 102) _ _ rfl pk _ _ rfl bS lE rfl ?_; clear S; intro v103 w S; (try simp only [z4] at S)) | ((with_reducible refine iO _ (.load 51 _) ?_); refine step_load1 51 _ _ _ rfl (cL) _ Try.underlying51 rfl rfl ?_) | ((with_reducible refine iD 109 (.buildSlice 22 _ _) ?_); refine step_build81 S (.tmp 108) _ rfl rfl ?_; clear S; intro v109 w S) | (at_builtin; refine step_append8 S (.tmp 104) (.tmp 109) _ _ rfl pk _ _ rfl bS lE rfl ?_; clear S; intro v110 w S; (try simp only [z4] at S)) | ((with_reducible refine iO _ (.load 106 _) ?_); first | (refine step_loadR 106 _ _ _ rfl _ (S.old_range hy) _ Try.underlying106 rfl 35 kR lN _ rfl rfl ?_) | (refine step_loadP S 106 _ _ _ rfl _ _ _ pk 35 _ pT lN _ Try.underlying106 rfl kR rfl ?_)) | ((with_reducible refine iD 6 (.alloc 106) ?_); refine step_alloc (dst := some 6) S 106 (.agg ((rcdL rcdZ).toArray)) ((rcdL rcdZ).toArray) kR rfl rfl ?_; clear S; intro g6 w S) | ((with_reducible refine iO none (.store 106 (.tmp 6) (.tmp 122)) ?_); refine step_store S 106 (.tmp 6) (.tmp 122) _ _ rfl rfl _ _ pk 35 kR lN lN on1 rfl ?_; clear S; intro w S) | (at_builtin; refine step_append8 S (.tmp 123) (.tmp 126) _ _ rfl pk _ _ rfl bS lE rfl ?_; clear S; intro v127 w S; (try simp only [z4] at S)) | ((with_reducible refine iD 131 (.buildSlice 22 _ _) ?_); refine step_build81 S (.tmp 130) _ rfl rfl ?_; clear S; intro v131 w S) | (at_builtin; refine step_append8 S (.tmp 128) (.tmp 131) _ _ rfl pk _ _ rfl bS lE rfl ?_; clear S; intro v132 w S; (try simp only [z4] at S)) | (at_builtin; refine step_append8 S (.tmp 133) (.tmp 137) _ _ rfl pk _ _ rfl bS lE rfl ?_; clear S; intro v138 w S; (try simp only [z4] at S)) | (at_builtin; refine step_append8 S (.tmp 139) (.tmp 141) _ _ rfl pk _ _ rfl bS lE rfl ?_; clear S; intro v142 w S; (try simp only [z4] at S)) | ((with_reducible refine iO _ (.load 36 _) ?_); first | (refine step_loadR 36 _ _ _ rfl _ (S.old_range hy) _ Try.underlying36 rfl 36 kR lN _ rfl rfl ?_) | (refine step_loadP S 36 _ _ _ rfl _ _ _ pk 36 _ pT lN _ Try.underlying36 rfl kR rfl ?_)) | (at_builtin; refine step_append8 S (.tmp 145) (.tmp 148) _ _ rfl pk _ _ rfl bS lE rfl ?_; clear S; intro v149 w S; (try simp only [z4] at S)) | fail)
      go_ret
      rw [HE.out]
      exact ⟨_, rfl, S.sub (by repeat (first | exact Sub.nil _ | refine Sub.cons pk ?_))⟩
    · have hE := HE.out
      have hb := HB.out
      rw [hq, show rpBK .o r = numB r.order.v.toNat 2 from rfl] at hE
      rw [hq] at hb
      have hb := of_decide_eq_true hb
      have d3 := D3.out
      have lz := numB_length r.order.v.toNat 2
      have n3 := fun w => number_s r.order.v.toNat 2 r.order.v 2 (by omega) rfl w (by omega) (by decide)
      obtain ⟨Z, hZ⟩ : ∃ Z, Z = numB r.order.v.toNat 2 := ⟨_, rfl⟩
      rw [← hZ] at hE lz n3
      obtain ⟨M, hM⟩ : ∃ N, N = r.order.v := ⟨_, rfl⟩
      rw [← hM] at hb d3 n3
      have u1 : IntKind.u64.wrap M = M := by rw [IntKind.wrap_u64]; omega
      have h1 : H.length + Z.length ≤ 140737488355328 := by rw [L1.out, lz]; decide
      have pf := fun v w h => refFramed_s v (H ++ Z) w h (by rw [List.length_append, L1.out, lz]; decide)
      clear hq HE HB D3 hZ hM lz
      have HE := Lib.hid hE; have PF := Lib.hid pf; have D3 := Lib.hid d3; have N3 := Lib.hid n3; have H1 := Lib.hid h1; clear hE pf d3 n3 h1
      go_wp2_with (first | ((with_reducible refine iD 1 (.box 53 (.tmp 0)) ?_); refine step_boxA (dst := some 1) S 53 (.tmp 0) _ rfl rfl ?_; clear S; intro g1 w S) | ((with_reducible refine iO _ (.load 5 _) ?_); refine step_load1 5 _ _ _ rfl (cL) _ Try.underlying5 rfl rfl ?_) | ((with_reducible refine iD 9 (.buildSlice 22 _ _) ?_); refine step_build81 S (.tmp 8) _ rfl rfl ?_; clear S; intro v9 w S) | ((with_reducible refine iO _ (.load 24 _) ?_); refine step_load1 24 _ _ _ rfl (cL) _ Try.underlying24 rfl rfl ?_) | (go_at_call 53; (with_reducible refine (N3.out _).mono ?_); rintro e w1 ⟨v34, rfl, T⟩; replace S := S.call T; clear T; (try simp only [z4, z5] at S)) | (at_builtin; refine step_append8 S (.tmp 9) (.tmp 13) _ _ rfl pk _ _ rfl bS lE rfl ?_; clear S; intro v14 w S; (try simp only [z4] at S)) | ((with_reducible refine iO _ (.load 32 _) ?_); refine step_load1 32 _ _ _ rfl (cL) _ Try.underlying32 rfl rfl ?_) | (at_builtin; refine step_append8 S (.tmp 15) (.tmp 18) _ _ rfl pk _ _ rfl bS lE rfl ?_; clear S; intro v19 w S; (try simp only [z4] at S)) | (go_at_call 54; (with_reducible refine (PF.out _ _ bS).mono ?_); rintro e w1 ⟨v151, rfl, T⟩; replace S := S.call T; clear T; (try simp only [z4, z5] at S)) | ((with_reducible refine iO _ (.load 3 _) ?_); refine step_load1 3 _ _ _ rfl (cL) _ Try.underlying3 rfl rfl ?_) | (at_builtin; refine step_append8 S (.tmp 30) (.tmp 34) _ _ rfl pk _ _ rfl bS lE rfl ?_; clear S; intro v35 w S; (try simp only [z4] at S)) | ((with_reducible refine iD 41 (.buildSlice 22 _ _) ?_); refine step_build81 S (.tmp 40) _ rfl rfl ?_; clear S; intro v41 w S) | (at_builtin; refine step_append8 S (.tmp 38) (.tmp 41) _ _ rfl pk _ _ rfl bS lE rfl ?_; clear S; intro v42 w S; (try simp only [z4] at S)) | (at_builtin; refine step_append8 S (.tmp 43) (.tmp 46) _ _ rfl pk _ _ rfl bS lE rfl ?_; clear S; intro v47 w S; (try simp only [z4] at S)) | ((with_reducible refine iO _ (.load 50 _) ?_); refine step_load1 50 _ _ _ rfl (cL) _ Try.underlying50 rfl rfl ?_) | ((with_reducible refine iD 55 (.buildSlice 22 _ _) ?_); refine step_build81 S (.tmp 54) _ rfl rfl ?_; clear S; intro v55 w S) | (at_builtin; refine step_append8 S (.tmp 50) (.tmp 55) _ _ rfl pk _ _ rfl bS lE rfl ?_; clear S; intro v56 w S; (try simp only [z4] at S)) | ((with_reducible refine iD 78 (.buildSlice 22 _ _) ?_); refine step_build8 S 2 _ [_, _] (by first | rfl | kernel_rfl) rfl (by decide) rfl ?_; clear S; intro v78 w S) | (at_builtin; refine step_append8 S (.tmp 64) (.tmp 78) _ _ rfl pk _ _ rfl bS lE rfl ?_; clear S; intro v79 w S; (try simp only [z4] at S)) | (at_builtin; refine step_append8 S (.tmp 80) (.tmp 88) _ _ rfl pk _ _ rfl bS lE rfl ?_; clear S; intro v89 w S; (try simp only [z4] at S)) | ((with_reducible refine iD 94 (.buildSlice 22 _ _) ?_); refine step_build81 S (.tmp 93) _ rfl rfl ?_; clear S; intro v94 w S) | (at_builtin; refine step_append8 S (.tmp 90) (.tmp 94) _ _ rfl pk _ _ rfl bS lE rfl ?_; clear S; intro v95 w S; (try simp only [z4] at S)) | ((with_reducible refine iO _ (.load 33 _) ?_); refine step_load1 33 _ _ _ rfl (cL) _ Try.underlying33 rfl rfl ?_) | (at_builtin; refine step_append8 S (.tmp 98) (.tmp 102) _ _ rfl pk _ _ rfl bS lE rfl ?_; clear S; intro v103 w S; (try simp only [z4] at S)) | ((with_reducible refine iO _ (.load 51 _) ?_); refine step_load1 51 _ _ _ rfl (cL) _ Try.underlying51 rfl rfl ?_) | ((with_reducible refine iD 109 (.buildSlice 22 _ _) ?_); refine step_build81 S (.tmp 108) _ rfl rfl ?_; clear S; intro v109 w S) | (at_builtin; refine step_append8 S (.tmp 104) (.tmp 109) _ _ rfl pk _ _ rfl bS lE rfl ?_; clear S; intro v110 w S; (try simp only [z4] at S)) | ((with_reducible refine iO _ (.load 106 _) ?_); first | (refine step_loadR 106 _ _ _ rfl _ (S.old_range hy) _ Try.underlying106 rfl 35 kR lN _ rfl rfl ?_) | (refine step_loadP S 106 _ _ _ rfl _ _ _ pk 35 _ pT lN _ Try.underlying106 rfl kR rfl ?_)) | ((with_reducible refine iD 6 (.alloc 106) ?_); refine step_alloc (dst := some 6) S 106 (.agg ((rcdL rcdZ).toArray)) ((rcdL rcdZ).toArray) kR rfl rfl ?_; clear S; intro g6 w S) | ((with_reducible refine iO none (.store 106 (.tmp 6) (.tmp 122)) ?_); refine step_store S 106 (.tmp 6) (.tmp 122) _ _ rfl rfl _ _ pk 35 kR lN lN on1 rfl ?_; clear S; intro w S) | (at_builtin; refine step_append8 S (.tmp 123) (.tmp 126) _ _ rfl pk _ _ rfl bS lE rfl ?_; clear S; intro v127 w S; (try simp only [z4] at S)) | ((with_reducible refine iD 131 (.buildSlice 22 _ _) ?_); refine step_build81 S (.tmp 130) _ rfl rfl ?_; clear S; intro v131 w S) | (at_builtin; refine step_append8 S (.tmp 128) (.tmp 131) _ _ rfl pk _ _ rfl bS lE rfl ?_; clear S; intro v132 w S; (try simp only [z4] at S)) | (at_builtin; refine step_append8 S (.tmp 133) (.tmp 137) _ _ rfl pk _ _ rfl bS lE rfl ?_; clear S; intro v138 w S; (try simp only [z4] at S)) | (at_builtin; refine step_append8 S (.tmp 139) (.tmp 141) _ _ rfl pk _ _ rfl bS lE rfl ?_; clear S; intro v142 w S; (try simp only [z4] at S)) | ((with_reducible refine iO _ (.load 36 _) ?_); first | (refine step_loadR 36 _ _ _ rfl _ (S.old_range hy) _ Try.underlying36 rfl 36 kR lN _ rfl rfl ?_) | (refine step_loadP S 36 _ _ _ rfl _ _ _ pk 36 _ pT lN _ Try.underlying36 rfl kR rfl ?_)) | (at_builtin; refine step_append8 S (.tmp 145) (.tmp 148) _ _ rfl pk _ _ rfl bS lE rfl ?_; clear S; intro v149 w S; (try simp only [z4] at S)) | fail)
      go_ret
      rw [HE.out]
      exact ⟨_, rfl, S.sub (by repeat (first | exact Sub.nil _ | refine Sub.cons pk ?_))⟩
    · have hE := HE.out
      have hb := HB.out
      rw [hq, show rpBK .o r = numB r.order.v.toNat 2 from rfl] at hE
      rw [hq] at hb
      have hb := of_decide_eq_true hb
      have d3 := D3.out
      have lz := numB_length r.order.v.toNat 2
      have n3 := fun w => number_s r.order.v.toNat 2 r.order.v 2 (by omega) rfl w (by omega) (by decide)
      obtain ⟨Z, hZ⟩ : ∃ Z, Z = numB r.order.v.toNat 2 := ⟨_, rfl⟩
      rw [← hZ] at hE lz n3
      obtain ⟨M, hM⟩ : ∃ N, N = r.order.v := ⟨_, rfl⟩
      rw [← hM] at hb d3 n3
      have u1 : IntKind.u64.wrap M = M := by rw [IntKind.wrap_u64]; omega
      have h1 : H.length + Z.length ≤ 140737488355328 := by rw [L1.out, lz]; decide
      have pf := fun v w h => refFramed_s v (H ++ Z) w h (by rw [List.length_append, L1.out, lz]; decide)
      clear hq HE HB D3 hZ hM lz
      have HE := Lib.hid hE; have PF := Lib.hid pf; have D3 := Lib.hid d3; have N3 := Lib.hid n3; have H1 := Lib.hid h1; clear hE pf d3 n3 h1
      go_wp2_with (first | ((with_reducible refine iD 1 (.box 53 (.tmp 0)) ?_); refine step_boxA (dst := some 1) S 53 (.tmp 0) _ rfl rfl ?_; clear S; intro g1 w S) | ((with_reducible refine iO _ (.load 5 _) ?_); refine step_load1 5 _ _ _ rfl (cL) _ Try.underlying5 rfl rfl ?_) | ((with_reducible refine iD 9 (.buildSlice 22 _ _) ?_); refine step_build81 S (.tmp 8) _ rfl rfl ?_; clear S; intro v9 w S) | ((with_reducible refine iO _ (.load 24 _) ?_); refine step_load1 24 _ _ _ rfl (cL) _ Try.underlying24 rfl rfl ?_) | (go_at_call 53; (with_reducible refine (N3.out _).mono ?_); rintro e w1 ⟨v34, rfl, T⟩; replace S := S.call T; clear T; (try simp only [z4, z5] at S)) | (at_builtin; refine step_append8 S (.tmp 9) (.tmp 13) _ _ rfl pk _ _ rfl bS lE rfl ?_; clear S; intro v14 w S; (try simp only [z4] at S)) | ((with_reducible refine iO _ (.load 32 _) ?_); refine step_load1 32 _ _ _ rfl (cL) _ Try.underlying32 rfl rfl ?_) | (at_builtin; refine step_append8 S (.tmp 15) (.tmp 18) _ _ rfl pk _ _ rfl bS lE rfl ?_; clear S; intro v19 w S; (try simp only [z4] at S)) | (go_at_call 54; (with_reducible refine (PF.out _ _ bS).mono ?_); rintro e w1 ⟨v151, rfl, T⟩; replace S := S.call T; clear T; (try simp only [z4, z5] at S)) | ((with_reducible refine iO _ (.load 3 _) ?_); refine step_load1 3 _ _ _ rfl (cL) _ Try.underlying3 rfl rfl ?_) | (at_builtin; refine step_append8 S (.tmp 30) (.tmp 34) _ _ rfl pk _ _ rfl bS lE rfl ?_; clear S; intro v35 w S; (try simp only [z4] at S)) | ((with_reducible refine iD 41 (.buildSlice 22 _ _) ?_); refine step_build81 S (.tmp 40) _ rfl rfl ?_; clear S; intro v41 w S) | (at_builtin; refine step_append8 S (.tmp 38) (.tmp 41) _ _ rfl pk _ _ rfl bS lE rfl ?_; clear S; intro v42 w S; (try simp only [z4] at S)) | (at_builtin; refine step_append8 S (.tmp 43) (.tmp 46) _ _ rfl pk _ _ rfl bS lE rfl ?_; clear S; intro v47 w S; (try simp only [z4] at S)) | ((with_reducible refine iO _ (.load 50 _) ?_); refine step_load1 50 _ _ _ rfl (cL) _ Try.underlying50 rfl rfl ?_) | ((with_reducible refine iD 55 (.buildSlice 22 _ _) ?_); refine step_build81 S (.tmp 54) _ rfl rfl ?_; clear S; intro v55 w S) | (at_builtin; refine step_append8 S (.tmp 50) (.tmp 55) _ _ rfl pk _ _ rfl bS lE rfl ?_; clear S; intro v56 w S; (try simp only [z4] at S)) | ((with_reducible refine iD 78 (.buildSlice 22 _ _) ?_); refine step_build8 S 2 _ [_, _] (by first | rfl | kernel_rfl) rfl (by decide) rfl ?_; clear S; intro v78 w S) | (at_builtin; refine step_append8 S (.tmp 64) (.tmp 78) _ _ rfl pk _ _ rfl bS lE rfl ?_; clear S; intro v79 w S; (try simp only [z4] at S)) | (at_builtin; refine step_append8 S (.tmp 80) (.tmp 88) _ _ rfl pk _ _ rfl bS lE rfl ?_; clear S; intro v89 w S; (try simp only [z4] at S)) | ((with_reducible refine iD 94 (.buildSlice 22 _ _) ?_); refine step_build81 S (.tmp 93) _ rfl rfl ?_; clear S; intro v94 w S) | (at_builtin; refine step_append8 S (.tmp 90) (.tmp 94) _ _ rfl pk _ _ rfl bS lE rfl ?_; clear S; intro v95 w S; (try simp only [z4] at S)) | ((with_reducible refine iO _ (.load 33 _) ?_); refine step_load1 33 _ _ _ rfl (cL) _ Try.underlying33 rfl rfl ?_) | (at_builtin; refine step_append8 S (.tmp 98) (.tmp 102) _ _ rfl pk _ _ rfl bS lE rfl ?_; clear S; intro v103 w S; (try simp only [z4] at S)) | ((with_reducible refine iO _ (.load 51 _) ?_); refine step_load1 51 _ _ _ rfl (cL) _ Try.underlying51 rfl rfl ?_) | ((with_reducible refine iD 109 (.buildSlice 22 _ _) ?_); refine step_build81 S (.tmp 108) _ rfl rfl ?_; clear S; intro v109 w S) | (at_builtin; refine step_append8 S (.tmp 104) (.tmp 109) _ _ rfl pk _ _ rfl bS lE rfl ?_; clear S; intro v110 w S; (try simp only [z4] at S)) | ((with_reducible refine iO _ (.load 106 _) ?_); first | (refine step_loadR 106 _ _ _ rfl _ (S.old_range hy) _ Try.underlying106 rfl 35 kR lN _ rfl rfl ?_) | (refine step_loadP S 106 _ _ _ rfl _ _ _ pk 35 _ pT lN _ Try.underlying106 rfl kR rfl ?_)) | ((with_reducible refine iD 6 (.alloc 106) ?_); refine step_alloc (dst := some 6) S 106 (.agg ((rcdL rcdZ).toArray)) ((rcdL rcdZ).toArray) kR rfl rfl ?_; clear S; intro g6 w S) | ((with_reducible refine iO none (.store 106 (.tmp 6) (.tmp 122)) ?_); refine step_store S 106 (.tmp 6) (.tmp 122) _ _ rfl rfl _ _ pk 35 kR lN lN on1 rfl ?_; clear S; intro w S) | (at_builtin; refine step_append8 S (.tmp 123) (.tmp 126) _ _ rfl pk _ _ rfl bS lE rfl ?_; clear S; intro v127 w S; (try simp only [z4] at S)) | ((with_reducible refine iD 131 (.buildSlice 22 _ _) ?_); refine step_build81 S (.tmp 130) _ rfl rfl ?_; clear S; intro v131 w S) | (at_builtin; refine step_append8 S (.tmp 128) (.tmp 131) _ _ rfl pk _ _ rfl bS lE rfl ?_; clear S; intro v132 w S; (try simp only [z4] at S)) | (at_builtin; refine step_append8 S (.tmp 133) (.tmp 137) _ _ rfl pk _ _ rfl bS lE rfl ?_; clear S; intro v138 w S; (try simp only [z4] at S)) | (at_builtin; refine step_append8 S (.tmp 139) (.tmp 141) _ _ rfl pk _ _ rfl bS lE rfl ?_; clear S; intro v142 w S; (try simp only [z4] at S)) | ((with_reducible refine iO _ (.load 36 _) ?_); first | (refine step_loadR 36 _ _ _ rfl _ (S.old_range hy) _ Try.underlying36 rfl 36 kR lN _ rfl rfl ?_) | (refine step_loadP S 36 _ _ _ rfl _ _ _ pk 36 _ pT lN _ Try.underlying36 rfl kR rfl ?_)) | (at_builtin; refine step_append8 S (.tmp 145) (.tmp 148) _ _ rfl pk _ _ rfl bS lE rfl ?_; clear S; intro v149 w S; (try simp only [z4] at S)) | fail)
      go_ret
      rw [HE.out]
      exact ⟨_, rfl, S.sub (by repeat (first | exact Sub.nil _ | refine Sub.cons pk ?_))⟩
    · have hE := HE.out
      have d4 := D4.out
      have d5 := D5.out
      rw [hq, show rpBK .s r = numB r.state.toNat 1 ++ numB r.done.toNat 8 from rfl, numB_one, ← List.append_assoc] at hE
      have hdl := r.done.toNat_lt
      have n3 := fun w => number_s r.done.toNat 8 (r.done.toNat : Int) 8 rfl rfl w (by omega) (by decide)
      have lz := numB_length r.done.toNat 8
      obtain ⟨Z, hZ⟩ : ∃ Z, Z = numB r.done.toNat 8 := ⟨_, rfl⟩
      rw [← hZ] at hE lz n3
      obtain ⟨st, hst⟩ : ∃ s, s = r.state := ⟨_, rfl⟩
      obtain ⟨dn, hdn⟩ : ∃ s, s = r.done := ⟨_, rfl⟩
      rw [← hst] at hE d4
      rw [← hdn] at d5 n3
      have h1 : H.length + [st].length ≤ 140737488355328 := by simp only [List.length_cons, List.length_nil, L1.out]; decide
      have l2 : (H ++ [st]).length = 12 := by rw [List.length_append, L1.out]; rfl
      have h2 : (H ++ [st]).length + Z.length ≤ 140737488355328 := by rw [l2, lz]; decide
      have pf := fun v w h => refFramed_s v (H ++ [st] ++ Z) w h (by rw [List.length_append, l2, lz]; decide)
      clear hq HE HB D4 D5 hZ hst hdn lz l2 hdl
      have HE := Lib.hid hE; have PF := Lib.hid pf; have D4 := Lib.hid d4; have D5 := Lib.hid d5; have N3 := Lib.hid n3; have H1 := Lib.hid h1; have H2 := Lib.hid h2; clear hE pf d4 d5 n3 h1 h2
      go_wp2_with (first | ((with_reducible refine iD 1 (.box 53 (.tmp 0)) ?_); refine step_boxA (dst := some 1) S 53 (.tmp 0) _ rfl rfl ?_; clear S; intro g1 w S) | ((with_reducible refine iO _ (.load 5 _) ?_); refine step_load1 5 _ _ _ rfl (cL) _ Try.underlying5 rfl rfl ?_) | ((with_reducible refine iD 9 (.buildSlice 22 _ _) ?_); refine step_build81 S (.tmp 8) _ rfl rfl ?_; clear S; intro v9 w S) | ((with_reducible refine iO _ (.load 24 _) ?_); refine step_load1 24 _ _ _ rfl (cL) _ Try.underlying24 rfl rfl ?_) | (go_at_call 53; (with_reducible refine (N3.out _).mono ?_); rintro e w1 ⟨v46, rfl, T⟩; replace S := S.call T; clear T; (try simp only [z4, z5] at S)) | (at_builtin; refine step_append8 S (.tmp 9) (.tmp 13) _ _ rfl pk _ _ rfl bS lE rfl ?_; clear S; intro v14 w S; (try simp only [z4] at S)) | ((with_reducible refine iO _ (.load 32 _) ?_); refine step_load1 32 _ _ _ rfl (cL) _ Try.underlying32 rfl rfl ?_) | (at_builtin; refine step_append8 S (.tmp 15) (.tmp 18) _ _ rfl pk _ _ rfl bS lE rfl ?_; clear S; intro v19 w S; (try simp only [z4] at S)) | (go_at_call 54; (with_reducible refine (PF.out _ _ bS).mono ?_); rintro e w1 ⟨v151, rfl, T⟩; replace S := S.call T; clear T; (try simp only [z4, z5] at S)) | ((with_reducible refine iO _ (.load 3 _) ?_); refine step_load1 3 _ _ _ rfl (cL) _ Try.underlying3 rfl rfl ?_) | (at_builtin; refine step_append8 S (.tmp 30) (.tmp 34) _ _ rfl pk _ _ rfl bS lE rfl ?_; clear S; intro v35 w S; (try simp only [z4] at S)) | ((with_reducible refine iD 41 (.buildSlice 22 _ _) ?_); refine step_build81 S (.tmp 40) _ rfl rfl ?_; clear S; intro v41 w S) | (at_builtin; refine step_append8 S (.tmp 38) (.tmp 41) _ _ rfl pk _ _ rfl bS lE rfl ?_; clear S; intro v42 w S; (try simp only [z4] at S)) | (at_builtin; refine step_append8 S (.tmp 43) (.tmp 46) _ _ rfl pk _ _ rfl bS lE rfl ?_; clear S; intro v47 w S; (try simp only [z4] at S)) | ((with_reducible refine iO _ (.load 50 _) ?_); refine step_load1 50 _ _ _ rfl (cL) _ Try.underlying50 rfl rfl ?_) | ((with_reducible refine iD 55 (.buildSlice 22 _ _) ?_); refine step_build81 S (.tmp 54) _ rfl rfl ?_; clear S; intro v55 w S) | (at_builtin; refine step_append8 S (.tmp 50) (.tmp 55) _ _ rfl pk _ _ rfl bS lE rfl ?_; clear S; intro v56 w S; (try simp only [z4] at S)) | ((with_reducible refine iD 78 (.buildSlice 22 _ _) ?_); refine step_build8 S 2 _ [_, _] (by first | rfl | kernel_rfl) rfl (by decide) rfl ?_; clear S; intro v78 w S) | (at_builtin; refine step_append8 S (.tmp 64) (.tmp 78) _ _ rfl pk _ _ rfl bS lE rfl ?_; clear S; intro v79 w S; (try simp only [z4] at S)) | (at_builtin; refine step_append8 S (.tmp 80) (.tmp 88) _ _ rfl pk _ _ rfl bS lE rfl ?_; clear S; intro v89 w S; (try simp only [z4] at S)) | ((with_reducible refine iD 94 (.buildSlice 22 _ _) ?_); refine step_build81 S (.tmp 93) _ rfl rfl ?_; clear S; intro v94 w S) | (at_builtin; refine step_append8 S (.tmp 90) (.tmp 94) _ _ rfl pk _ _ rfl bS lE rfl ?_; clear S; intro v95 w S; (try simp only [z4] at S)) | ((with_reducible refine iO _ (.load 33 _) ?_); refine step_load1 33 _ _ _ rfl (cL) _ Try.underlying33 rfl rfl ?_) | (at_builtin; refine step_append8 S (.tmp 98) (.tmp 102) _ _ rfl pk _ _ rfl bS lE rfl ?_; clear S; intro v103 w S; (try simp only [z4] at S)) | ((with_reducible refine iO _ (.load 51 _) ?_); refine step_load1 51 _ _ _ rfl (cL) _ Try.underlying51 rfl rfl ?_) | ((with_reducible refine iD 109 (.buildSlice 22 _ _) ?_); refine step_build81 S (.tmp 108) _ rfl rfl ?_; clear S; intro v109 w S) | (at_builtin; refine step_append8 S (.tmp 104) (.tmp 109) _ _ rfl pk _ _ rfl bS lE rfl ?_; clear S; intro v110 w S; (try simp only [z4] at S)) | ((with_reducible refine iO _ (.load 106 _) ?_); first | (refine step_loadR 106 _ _ _ rfl _ (S.old_range hy) _ Try.underlying106 rfl 35 kR lN _ rfl rfl ?_) | (refine step_loadP S 106 _ _ _ rfl _ _ _ pk 35 _ pT lN _ Try.underlying106 rfl kR rfl ?_)) | ((with_reducible refine iD 6 (.alloc 106) ?_); refine step_alloc (dst := some 6) S 106 (.agg ((rcdL rcdZ).toArray)) ((rcdL rcdZ).toArray) kR rfl rfl ?_; clear S; intro g6 w S) | ((with_reducible refine iO none (.store 106 (.tmp 6) (.tmp 122)) ?_); refine step_store S 106 (.tmp 6) (.tmp 122) _ _ rfl rfl _ _ pk 35 kR lN lN on1 rfl ?_; clear S; intro w S) | (at_builtin; refine step_append8 S (.tmp 123) (.tmp 126) _ _ rfl pk _ _ rfl bS lE rfl ?_; clear S; intro v127 w S; (try simp only [z4] at S)) | ((with_reducible refine iD 131 (.buildSlice 22 _ _) ?_); refine step_build81 S (.tmp 130) _ rfl rfl ?_; clear S; intro v131 w S) | (at_builtin; refine step_append8 S (.tmp 128) (.tmp 131) _ _ rfl pk _ _ rfl bS lE rfl ?_; clear S; intro v132 w S; (try simp only [z4] at S)) | (at_builtin; refine step_append8 S (.tmp 133) (.tmp 137) _ _ rfl pk _ _ rfl bS lE rfl ?_; clear S; intro v138 w S; (try simp only [z4] at S)) | (at_builtin; refine step_append8 S (.tmp 139) (.tmp 141) _ _ rfl pk _ _ rfl bS lE rfl ?_; clear S; intro v142 w S; (try simp only [z4] at S)) | ((with_reducible refine iO _ (.load 36 _) ?_); first | (refine step_loadR 36 _ _ _ rfl _ (S.old_range hy) _ Try.underlying36 rfl 36 kR lN _ rfl rfl ?_) | (refine step_loadP S 36 _ _ _ rfl _ _ _ pk 36 _ pT lN _ Try.underlying36 rfl kR rfl ?_)) | (at_builtin; refine step_append8 S (.tmp 145) (.tmp 148) _ _ rfl pk _ _ rfl bS lE rfl ?_; clear S; intro v149 w S; (try simp only [z4] at S)) | fail)
      go_ret
      rw [HE.out]
      exact ⟨_, rfl, S.sub (by repeat (first | exact Sub.nil _ | refine Sub.cons pk ?_))⟩
    · have hE := HE.out
      have hb := HB.out
      rw [hq, show rpBK .w r = numB r.robots.length 1 ++ r.robots.flatMap sgtB ++ numB r.queued.v.toNat 1 from rfl] at hE
      rw [hq] at hb
      unfold bkV at hb
      simp only [Bool.and_eq_true, decide_eq_true_eq, Bool.not_eq_true'] at hb
      obtain ⟨hb1, hb2, hb3⟩ := hb
      have hall : ∀ x ∈ r.robots, sgtV x = true := fun x hx => by
        have := List.any_eq_false.1 hb2 x hx
        simpa using this
      have d7 := D7.out
      have hvr := HVR.out
      have hnr := HNR.out
      obtain ⟨l, hl⟩ : ∃ l, l = r.robots := ⟨_, rfl⟩
      rw [← hl] at hE hb1 hall hvr hnr
      obtain ⟨Q, hQ⟩ : ∃ Q, Q = r.queued.v := ⟨_, rfl⟩
      rw [← hQ] at hE hb3 d7
      rw [← hnr] at hb1 hE
      obtain ⟨b1, b2⟩ := byte1 nr (by omega)
      obtain ⟨b3, b4⟩ := byteI Q (by omega)
      rw [b2, b4] at hE
      obtain ⟨LB, hLB⟩ : ∃ b, b = UInt8.ofNat nr := ⟨_, rfl⟩
      obtain ⟨QB, hQB⟩ : ∃ b, b = UInt8.ofNat Q.toNat := ⟨_, rfl⟩
      rw [← hLB] at hE b1
      rw [← hQB] at hE b3
      have hlf : ∀ k, ((l.take k).flatMap sgtB).length ≤ 12 := fun k => by
        rw [flatLen sgtB 4 sgtB_length, List.length_take]; omega
      have hlf2 : (l.flatMap sgtB).length ≤ 12 := by rw [flatLen sgtB 4 sgtB_length, ← hnr]; omega
      have h1 : H.length + [LB].length ≤ 140737488355328 := by simp only [List.length_cons, List.length_nil, L1.out]; decide
      have l2 : (H ++ [LB]).length = 12 := by rw [List.length_append, L1.out]; rfl
      have hE : E = frm ((H ++ [LB]) ++ l.flatMap sgtB ++ [QB]) := by rw [hE]; simp only [List.append_assoc]
      obtain ⟨X1, hX1⟩ : ∃ X, X = H ++ [LB] := ⟨_, rfl⟩
      rw [← hX1] at hE l2
      have e1 : IntKind.u8.wrap (nr : Int) = (nr : Int) := by rw [IntKind.wrap_u8]; omega
      have e1' : (nr : Int) % 256 = (nr : Int) := by omega
      have e2 : IntKind.u8.wrap Q = Q := by rw [IntKind.wrap_u8]; omega
      have e2' : Q % 256 = Q := by omega
      clear hq HE HB D7 HVR HNR hl hQ b2 b4 hLB hQB hb1 hb2
      have HE := Lib.hid hE; have D7 := Lib.hid d7; have HVR := Lib.hid hvr; have HNR := Lib.hid hnr; have B1 := Lib.hid b1; have B3 := Lib.hid b3; have HLF := Lib.hid hlf; have HLF2 := Lib.hid hlf2; have H1 := Lib.hid h1; have L2 := Lib.hid l2; have HX1 := Lib.hid hX1; have HALL := Lib.hid hall; have E2' := Lib.hid e2'; clear hE d7 hvr hnr b1 b3 hlf hlf2 h1 l2 hX1 hall e2'
      go_upto_region 14 with (first | ((with_reducible refine iD 55 (.buildSlice 22 _ _) ?_); refine step_build81 S (.tmp 54) LB (show Value.int IntKind.u8 _ = Value.int IntKind.u8 _ by rw [← B1.out]) gw ?_; clear S; intro v55 w S) | ((with_reducible refine iD 1 (.box 53 (.tmp 0)) ?_); refine step_boxA (dst := some 1) S 53 (.tmp 0) _ rfl rfl ?_; clear S; intro g1 w S) | ((with_reducible refine iO _ (.load 5 _) ?_); refine step_load1 5 _ _ _ rfl (cL) _ Try.underlying5 rfl rfl ?_) | ((with_reducible refine iD 9 (.buildSlice 22 _ _) ?_); refine step_build81 S (.tmp 8) _ rfl rfl ?_; clear S; intro v9 w S) | ((with_reducible refine iO _ (.load 24 _) ?_); refine step_load1 24 _ _ _ rfl (cL) _ Try.underlying24 rfl rfl ?_) | (at_builtin; refine step_append8 S (.tmp 9) (.tmp 13) _ _ rfl pk _ _ rfl bS lE rfl ?_; clear S; intro v14 w S; (try simp only [z4] at S)) | ((with_reducible refine iO _ (.load 32 _) ?_); refine step_load1 32 _ _ _ rfl (cL) _ Try.underlying32 rfl rfl ?_) | (at_builtin; refine step_append8 S (.tmp 15) (.tmp 18) _ _ rfl pk _ _ rfl bS lE rfl ?_; clear S; intro v19 w S; (try simp only [z4] at S)) | ((with_reducible refine iO _ (.load 3 _) ?_); refine step_load1 3 _ _ _ rfl (cL) _ Try.underlying3 rfl rfl ?_) | (at_builtin; refine step_append8 S (.tmp 30) (.tmp 34) _ _ rfl pk _ _ rfl bS lE rfl ?_; clear S; intro v35 w S; (try simp only [z4] at S)) | ((with_reducible refine iD 41 (.buildSlice 22 _ _) ?_); refine step_build81 S (.tmp 40) _ rfl rfl ?_; clear S; intro v41 w S) | (at_builtin; refine step_append8 S (.tmp 38) (.tmp 41) _ _ rfl pk _ _ rfl bS lE rfl ?_; clear S; intro v42 w S; (try simp only [z4] at S)) | (at_builtin; refine step_append8 S (.tmp 43) (.tmp 46) _ _ rfl pk _ _ rfl bS lE rfl ?_; clear S; intro v47 w S; (try simp only [z4] at S)) | ((with_reducible refine iO _ (.load 50 _) ?_); refine step_load1 50 _ _ _ rfl (cL) _ Try.underlying50 rfl rfl ?_) | (at_builtin; refine step_append8 S (.tmp 50) (.tmp 55) _ _ rfl pk _ _ rfl bS lE rfl ?_; clear S; intro v56 w S; (try simp only [z4] at S)) | ((with_reducible refine iD 78 (.buildSlice 22 _ _) ?_); refine step_build8 S 2 _ [_, _] (by first | rfl | kernel_rfl) rfl (by decide) rfl ?_; clear S; intro v78 w S) | (at_builtin; refine step_append8 S (.tmp 64) (.tmp 78) _ _ rfl pk _ _ rfl bS lE rfl ?_; clear S; intro v79 w S; (try simp only [z4] at S)) | (at_builtin; refine step_append8 S (.tmp 80) (.tmp 88) _ _ rfl pk _ _ rfl bS lE rfl ?_; clear S; intro v89 w S; (try simp only [z4] at S)) | ((with_reducible refine iD 94 (.buildSlice 22 _ _) ?_); refine step_build81 S (.tmp 93) _ rfl rfl ?_; clear S; intro v94 w S) | (at_builtin; refine step_append8 S (.tmp 90) (.tmp 94) _ _ rfl pk _ _ rfl bS lE rfl ?_; clear S; intro v95 w S; (try simp only [z4] at S)) | ((with_reducible refine iO _ (.load 33 _) ?_); refine step_load1 33 _ _ _ rfl (cL) _ Try.underlying33 rfl rfl ?_) | (at_builtin; refine step_append8 S (.tmp 98) (.tmp 102) _ _ rfl pk _ _ rfl bS lE rfl ?_; clear S; intro v103 w S; (try simp only [z4] at S)) | ((with_reducible refine iO _ (.load 51 _) ?_); refine step_load1 51 _ _ _ rfl (cL) _ Try.underlying51 rfl rfl ?_) | ((with_reducible refine iD 109 (.buildSlice 22 _ _) ?_); refine step_build81 S (.tmp 108) _ rfl rfl ?_; clear S; intro v109 w S) | (at_builtin; refine step_append8 S (.tmp 104) (.tmp 109) _ _ rfl pk _ _ rfl bS lE rfl ?_; clear S; intro v110 w S; (try simp only [z4] at S)) | ((with_reducible refine iO _ (.load 106 _) ?_); first | (refine step_loadR 106 _ _ _ rfl _ (S.old_range hy) _ Try.underlying106 rfl 35 kR lN _ rfl rfl ?_) | (refine step_loadP S 106 _ _ _ rfl _ _ _ pk 35 _ pT lN _ Try.underlying106 rfl kR rfl ?_)) | ((with_reducible refine iD 6 (.alloc 106) ?_); refine step_alloc (dst := some 6) S 106 (.agg ((rcdL rcdZ).toArray)) ((rcdL rcdZ).toArray) kR rfl rfl ?_; clear S; intro g6 w S) | ((with_reducible refine iO none (.store 106 (.tmp 6) (.tmp 122)) ?_); refine step_store S 106 (.tmp 6) (.tmp 122) _ _ rfl rfl _ _ pk 35 kR lN lN on1 rfl ?_; clear S; intro w S) | (at_builtin; refine step_append8 S (.tmp 123) (.tmp 126) _ _ rfl pk _ _ rfl bS lE rfl ?_; clear S; intro v127 w S; (try simp only [z4] at S)) | ((with_reducible refine iD 131 (.buildSlice 22 _ _) ?_); refine step_build81 S (.tmp 130) _ rfl rfl ?_; clear S; intro v131 w S) | (at_builtin; refine step_append8 S (.tmp 128) (.tmp 131) _ _ rfl pk _ _ rfl bS lE rfl ?_; clear S; intro v132 w S; (try simp only [z4] at S)) | (at_builtin; refine step_append8 S (.tmp 133) (.tmp 137) _ _ rfl pk _ _ rfl bS lE rfl ?_; clear S; intro v138 w S; (try simp only [z4] at S)) | (at_builtin; refine step_append8 S (.tmp 139) (.tmp 141) _ _ rfl pk _ _ rfl bS lE rfl ?_; clear S; intro v142 w S; (try simp only [z4] at S)) | ((with_reducible refine iO _ (.load 36 _) ?_); first | (refine step_loadR 36 _ _ _ rfl _ (S.old_range hy) _ Try.underlying36 rfl 36 kR lN _ rfl rfl ?_) | (refine step_loadP S 36 _ _ _ rfl _ _ _ pk 36 _ pT lN _ Try.underlying36 rfl kR rfl ?_)) | (at_builtin; refine step_append8 S (.tmp 145) (.tmp 148) _ _ rfl pk _ _ rfl bS lE rfl ?_; clear S; intro v149 w S; (try simp only [z4] at S)) | fail)
      rw [← HX1.out] at S
      clear e1 e1'
      go_wp2_with (first | ((with_reducible refine iD 1 (.box 53 (.tmp 0)) ?_); refine step_boxA (dst := some 1) S 53 (.tmp 0) _ rfl rfl ?_; clear S; intro g1 w S) | ((with_reducible refine iO _ (.load 5 _) ?_); refine step_load1 5 _ _ _ rfl (cL) _ Try.underlying5 rfl rfl ?_) | ((with_reducible refine iD 9 (.buildSlice 22 _ _) ?_); refine step_build81 S (.tmp 8) _ rfl rfl ?_; clear S; intro v9 w S) | ((with_reducible refine iO _ (.load 24 _) ?_); refine step_load1 24 _ _ _ rfl (cL) _ Try.underlying24 rfl rfl ?_) | (at_builtin; refine step_append8 S (.tmp 9) (.tmp 13) _ _ rfl pk _ _ rfl bS lE rfl ?_; clear S; intro v14 w S; (try simp only [z4] at S)) | ((with_reducible refine iO _ (.load 32 _) ?_); refine step_load1 32 _ _ _ rfl (cL) _ Try.underlying32 rfl rfl ?_) | (at_builtin; refine step_append8 S (.tmp 15) (.tmp 18) _ _ rfl pk _ _ rfl bS lE rfl ?_; clear S; intro v19 w S; (try simp only [z4] at S)) | ((with_reducible refine iO _ (.load 3 _) ?_); refine step_load1 3 _ _ _ rfl (cL) _ Try.underlying3 rfl rfl ?_) | (at_builtin; refine step_append8 S (.tmp 30) (.tmp 34) _ _ rfl pk _ _ rfl bS lE rfl ?_; clear S; intro v35 w S; (try simp only [z4] at S)) | ((with_reducible refine iD 41 (.buildSlice 22 _ _) ?_); refine step_build81 S (.tmp 40) _ rfl rfl ?_; clear S; intro v41 w S) | (at_builtin; refine step_append8 S (.tmp 38) (.tmp 41) _ _ rfl pk _ _ rfl bS lE rfl ?_; clear S; intro v42 w S; (try simp only [z4] at S)) | (at_builtin; refine step_append8 S (.tmp 43) (.tmp 46) _ _ rfl pk _ _ rfl bS lE rfl ?_; clear S; intro v47 w S; (try simp only [z4] at S)) | ((with_reducible refine iO _ (.load 50 _) ?_); refine step_load1 50 _ _ _ rfl (cL) _ Try.underlying50 rfl rfl ?_) | ((with_reducible refine iD 55 (.buildSlice 22 _ _) ?_); refine step_build81 S (.tmp 54) _ rfl rfl ?_; clear S; intro v55 w S) | (at_builtin; refine step_append8 S (.tmp 50) (.tmp 55) _ _ rfl pk _ _ rfl bS lE rfl ?_; clear S; intro v56 w S; (try simp only [z4] at S)) | ((with_reducible refine iD 78 (.buildSlice 22 _ _) ?_); refine step_build8 S 2 _ [_, _] (by first | rfl | kernel_rfl) rfl (by decide) rfl ?_; clear S; intro v78 w S) | (at_builtin; refine step_append8 S (.tmp 64) (.tmp 78) _ _ rfl pk _ _ rfl bS lE rfl ?_; clear S; intro v79 w S; (try simp only [z4] at S)) | (at_builtin; refine step_append8 S (.tmp 80) (.tmp 88) _ _ rfl pk _ _ rfl bS lE rfl ?_; clear S; intro v89 w S; (try simp only [z4] at S)) | ((with_reducible refine iD 94 (.buildSlice 22 _ _) ?_); refine step_build81 S (.tmp 93) _ rfl rfl ?_; clear S; intro v94 w S) | (at_builtin; refine step_append8 S (.tmp 90) (.tmp 94) _ _ rfl pk _ _ rfl bS lE rfl ?_; clear S; intro v95 w S; (try simp only [z4] at S)) | ((with_reducible refine iO _ (.load 33 _) ?_); refine step_load1 33 _ _ _ rfl (cL) _ Try.underlying33 rfl rfl ?_) | (at_builtin; refine step_append8 S (.tmp 98) (.tmp 102) _ _ rfl pk _ _ rfl bS lE rfl ?_; clear S; intro v103 w S; (try simp only [z4] at S)) | ((with_reducible refine iO _ (.load 51 _) ?_); refine step_load1 51 _ _ _ rfl (cL) _ Try.underlying51 rfl rfl ?_) | ((with_reducible refine iD 109 (.buildSlice 22 _ _) ?_); refine step_build81 S (.tmp 108) _ rfl rfl ?_; clear S; intro v109 w S) | (at_builtin; refine step_append8 S (.tmp 104) (.tmp 109) _ _ rfl pk _ _ rfl bS lE rfl ?_; clear S; intro v110 w S; (try simp only [z4] at S)) | ((with_reducible refine iO _ (.load 106 _) ?_); first | (refine step_loadR 106 _ _ _ rfl _ (S.old_range hy) _ Try.underlying106 rfl 35 kR lN _ rfl rfl ?_) | (refine step_loadP S 106 _ _ _ rfl _ _ _ pk 35 _ pT lN _ Try.underlying106 rfl kR rfl ?_)) | ((with_reducible refine iD 6 (.alloc 106) ?_); refine step_alloc (dst := some 6) S 106 (.agg ((rcdL rcdZ).toArray)) ((rcdL rcdZ).toArray) kR rfl rfl ?_; clear S; intro g6 w S) | ((with_reducible refine iO none (.store 106 (.tmp 6) (.tmp 122)) ?_); refine step_store S 106 (.tmp 6) (.tmp 122) _ _ rfl rfl _ _ pk 35 kR lN lN on1 rfl ?_; clear S; intro w S) | (at_builtin; refine step_append8 S (.tmp 123) (.tmp 126) _ _ rfl pk _ _ rfl bS lE rfl ?_; clear S; intro v127 w S; (try simp only [z4] at S)) | ((with_reducible refine iD 131 (.buildSlice 22 _ _) ?_); refine step_build81 S (.tmp 130) _ rfl rfl ?_; clear S; intro v131 w S) | (at_builtin; refine step_append8 S (.tmp 128) (.tmp 131) _ _ rfl pk _ _ rfl bS lE rfl ?_; clear S; intro v132 w S; (try simp only [z4] at S)) | (at_builtin; refine step_append8 S (.tmp 133) (.tmp 137) _ _ rfl pk _ _ rfl bS lE rfl ?_; clear S; intro v138 w S; (try simp only [z4] at S)) | (at_builtin; refine step_append8 S (.tmp 139) (.tmp 141) _ _ rfl pk _ _ rfl bS lE rfl ?_; clear S; intro v142 w S; (try simp only [z4] at S)) | ((with_reducible refine iO _ (.load 36 _) ?_); first | (refine step_loadR 36 _ _ _ rfl _ (S.old_range hy) _ Try.underlying36 rfl 36 kR lN _ rfl rfl ?_) | (refine step_loadP S 36 _ _ _ rfl _ _ _ pk 36 _ pT lN _ Try.underlying36 rfl kR rfl ?_)) | (at_builtin; refine step_append8 S (.tmp 145) (.tmp 148) _ _ rfl pk _ _ rfl bS lE rfl ?_; clear S; intro v149 w S; (try simp only [z4] at S)) | fail)
      go_loopw [3, 4] (fun v3 u wr => ∃ (k : Nat), k ≤ nr ∧ u = .int .i64 (k : Int) ∧ Has w0 wr [row8 v3 (X1 ++ (l.take k).flatMap sgtB), blk g1 (.cells X 53 (0, 0))]) (fun _ u _ => nr - (intOf u).toNat)
      case atStart => exact ⟨0, Nat.zero_le _, rfl, by rw [List.take_zero, List.flatMap_nil, List.append_nil]; exact S.sub (by repeat (first | exact Sub.nil _ | refine Sub.cons pk ?_))⟩
      case round =>
        clear S
        obtain ⟨kk, hk, rfl, S⟩ := hrel
        by_cases hlt : kk < nr
        · have hki : (kk : Int) < (nr : Int) := by omega
          have hki2 : (kk : Int) < 9223372036854775807 := by omega
          have hlt2 : kk < l.length := by rw [← HNR.out]; exact hlt
          have hx : l[kk]? = some l[kk] := List.getElem?_eq_getElem hlt2
          have hvr := HVR.out
          obtain ⟨b, off, rfl, _⟩ := hvr.atA (by omega)
          have hrg := hvr.elem sgtL_length (by decide) kk _ hx
          have hmore := flat_take1 sgtB l kk _ hx
          have hxv := HALL.out _ (List.getElem_mem hlt2)
          obtain ⟨x, hxe⟩ : ∃ x, x = l[kk] := ⟨_, rfl⟩
          rw [← hxe] at hrg hmore hxv
          unfold sgtV at hxv
          have hxv := of_decide_eq_true hxv
          have hlk := HLF.out kk
          have hl2 := L2.out
          have c0 : w0.cell? ⟨b, off + kk * 3, none⟩ = some (.int .i64 x.place.v) := hrg 0 _ rfl
          have c1 : w0.cell? ⟨b, off + kk * 3 + 1, none⟩ = some (.int .u8 (x.state.toNat : Int)) := hrg 1 _ rfl
          have c2 : w0.cell? ⟨b, off + kk * 3 + 2, none⟩ = some (.int .i64 x.order.v) := hrg 2 _ rfl
          rw [show sgtB x = numB x.place.v.toNat 1 ++ numB x.state.toNat 1 ++ numB x.order.v.toNat 2 from rfl] at hmore
          obtain ⟨b5, b6⟩ := byteI x.place.v (by omega)
          rw [b6, numB_one] at hmore
          have n3 := fun w => number_s x.order.v.toNat 2 x.order.v 2 (by omega) rfl w (by omega) (by decide)
          have lz := numB_length x.order.v.toNat 2
          obtain ⟨Z, hZ⟩ : ∃ Z, Z = numB x.order.v.toNat 2 := ⟨_, rfl⟩
          rw [← hZ] at n3 lz hmore
          obtain ⟨PB, hPB⟩ : ∃ b, b = UInt8.ofNat x.place.v.toNat := ⟨_, rfl⟩
          rw [← hPB] at b5 hmore
          obtain ⟨P, hP⟩ : ∃ p, p = x.place.v := ⟨_, rfl⟩
          obtain ⟨O, hO⟩ : ∃ p, p = x.order.v := ⟨_, rfl⟩
          obtain ⟨st, hst⟩ : ∃ p, p = x.state := ⟨_, rfl⟩
          rw [← hP] at c0 b5 hxv
          rw [← hO] at c2 n3 hxv
          rw [← hst] at c1 hmore
          obtain ⟨hv1, hv2, _, hv3, hv4⟩ := hxv
          obtain ⟨Y0, hY0⟩ : ∃ X, X = X1 ++ (l.take kk).flatMap sgtB := ⟨_, rfl⟩
          have hy0 : Y0.length ≤ 24 := by rw [hY0, List.length_append]; omega
          rw [← hY0] at S
          have h3 : Y0.length + [PB, st].length ≤ 140737488355328 := by simp only [List.length_cons, List.length_nil]; omega
          have h4 : (Y0 ++ [PB, st]).length + Z.length ≤ 140737488355328 := by simp only [List.length_append, List.length_cons, List.length_nil, lz]; omega
          have hend : X1 ++ (l.take (kk + 1)).flatMap sgtB = Y0 ++ [PB, st] ++ Z := by
            rw [hmore, hY0]
            simp only [List.append_assoc, List.cons_append, List.nil_append]
          have e3 : IntKind.u64.wrap O = O := by rw [IntKind.wrap_u64]; omega
          clear hx hrg hmore hxe hlk hl2 b6 lz hZ hPB hP hO hst hY0 hy0 hvr
          have C0 := Lib.hid c0; have C1 := Lib.hid c1; have C2 := Lib.hid c2; have N3 := Lib.hid n3; have B5 := Lib.hid b5; have H3 := Lib.hid h3; have H4 := Lib.hid h4; have HEND := Lib.hid hend; clear c0 c1 c2 n3 b5 h3 h4 hend
          go_upto_region 17 with (first | ((with_reducible refine iD 1 (.box 53 (.tmp 0)) ?_); refine step_boxA (dst := some 1) S 53 (.tmp 0) _ rfl rfl ?_; clear S; intro g1 w S) | ((with_reducible refine iO _ (.load 5 _) ?_); refine step_load1 5 _ _ _ rfl (cL) _ Try.underlying5 rfl rfl ?_) | ((with_reducible refine iD 9 (.buildSlice 22 _ _) ?_); refine step_build81 S (.tmp 8) _ rfl rfl ?_; clear S; intro v9 w S) | ((with_reducible refine iO _ (.load 24 _) ?_); refine step_load1 24 _ _ _ rfl (cL) _ Try.underlying24 rfl rfl ?_) | (at_builtin; refine step_append8 S (.tmp 9) (.tmp 13) _ _ rfl pk _ _ rfl bS lE rfl ?_; clear S; intro v14 w S; (try simp only [z4] at S)) | ((with_reducible refine iO _ (.load 32 _) ?_); refine step_load1 32 _ _ _ rfl (cL) _ Try.underlying32 rfl rfl ?_) | (at_builtin; refine step_append8 S (.tmp 15) (.tmp 18) _ _ rfl pk _ _ rfl bS lE rfl ?_; clear S; intro v19 w S; (try simp only [z4] at S)) | ((with_reducible refine iO _ (.load 3 _) ?_); refine step_load1 3 _ _ _ rfl (cL) _ Try.underlying3 rfl rfl ?_) | (at_builtin; refine step_append8 S (.tmp 30) (.tmp 34) _ _ rfl pk _ _ rfl bS lE rfl ?_; clear S; intro v35 w S; (try simp only [z4] at S)) | ((with_reducible refine iD 41 (.buildSlice 22 _ _) ?_); refine step_build81 S (.tmp 40) _ rfl rfl ?_; clear S; intro v41 w S) | (at_builtin; refine step_append8 S (.tmp 38) (.tmp 41) _ _ rfl pk _ _ rfl bS lE rfl ?_; clear S; intro v42 w S; (try simp only [z4] at S)) | (at_builtin; refine step_append8 S (.tmp 43) (.tmp 46) _ _ rfl pk _ _ rfl bS lE rfl ?_; clear S; intro v47 w S; (try simp only [z4] at S)) | ((with_reducible refine iO _ (.load 50 _) ?_); refine step_load1 50 _ _ _ rfl (cL) _ Try.underlying50 rfl rfl ?_) | ((with_reducible refine iD 55 (.buildSlice 22 _ _) ?_); refine step_build81 S (.tmp 54) _ rfl rfl ?_; clear S; intro v55 w S) | (at_builtin; refine step_append8 S (.tmp 50) (.tmp 55) _ _ rfl pk _ _ rfl bS lE rfl ?_; clear S; intro v56 w S; (try simp only [z4] at S)) | ((with_reducible refine iD 78 (.buildSlice 22 _ _) ?_); refine step_build8 S 2 _ [_, _] (by first | rfl | kernel_rfl) rfl (by decide) rfl ?_; clear S; intro v78 w S) | (at_builtin; refine step_append8 S (.tmp 64) (.tmp 78) _ _ rfl pk _ _ rfl bS lE rfl ?_; clear S; intro v79 w S; (try simp only [z4] at S)) | (at_builtin; refine step_append8 S (.tmp 80) (.tmp 88) _ _ rfl pk _ _ rfl bS lE rfl ?_; clear S; intro v89 w S; (try simp only [z4] at S)) | ((with_reducible refine iD 94 (.buildSlice 22 _ _) ?_); refine step_build81 S (.tmp 93) _ rfl rfl ?_; clear S; intro v94 w S) | (at_builtin; refine step_append8 S (.tmp 90) (.tmp 94) _ _ rfl pk _ _ rfl bS lE rfl ?_; clear S; intro v95 w S; (try simp only [z4] at S)) | ((with_reducible refine iO _ (.load 33 _) ?_); refine step_load1 33 _ _ _ rfl (cL) _ Try.underlying33 rfl rfl ?_) | (at_builtin; refine step_append8 S (.tmp 98) (.tmp 102) _ _ rfl pk _ _ rfl bS lE rfl ?_; clear S; intro v103 w S; (try simp only [z4] at S)) | ((with_reducible refine iO _ (.load 51 _) ?_); refine step_load1 51 _ _ _ rfl (cL) _ Try.underlying51 rfl rfl ?_) | ((with_reducible refine iD 109 (.buildSlice 22 _ _) ?_); refine step_build81 S (.tmp 108) _ rfl rfl ?_; clear S; intro v109 w S) | (at_builtin; refine step_append8 S (.tmp 104) (.tmp 109) _ _ rfl pk _ _ rfl bS lE rfl ?_; clear S; intro v110 w S; (try simp only [z4] at S)) | ((with_reducible refine iO _ (.load 106 _) ?_); first | (refine step_loadR 106 _ _ _ rfl _ (S.old_range hy) _ Try.underlying106 rfl 35 kR lN _ rfl rfl ?_) | (refine step_loadP S 106 _ _ _ rfl _ _ _ pk 35 _ pT lN _ Try.underlying106 rfl kR rfl ?_)) | ((with_reducible refine iD 6 (.alloc 106) ?_); refine step_alloc (dst := some 6) S 106 (.agg ((rcdL rcdZ).toArray)) ((rcdL rcdZ).toArray) kR rfl rfl ?_; clear S; intro g6 w S) | ((with_reducible refine iO none (.store 106 (.tmp 6) (.tmp 122)) ?_); refine step_store S 106 (.tmp 6) (.tmp 122) _ _ rfl rfl _ _ pk 35 kR lN lN on1 rfl ?_; clear S; intro w S) | (at_builtin; refine step_append8 S (.tmp 123) (.tmp 126) _ _ rfl pk _ _ rfl bS lE rfl ?_; clear S; intro v127 w S; (try simp only [z4] at S)) | ((with_reducible refine iD 131 (.buildSlice 22 _ _) ?_); refine step_build81 S (.tmp 130) _ rfl rfl ?_; clear S; intro v131 w S) | (at_builtin; refine step_append8 S (.tmp 128) (.tmp 131) _ _ rfl pk _ _ rfl bS lE rfl ?_; clear S; intro v132 w S; (try simp only [z4] at S)) | (at_builtin; refine step_append8 S (.tmp 133) (.tmp 137) _ _ rfl pk _ _ rfl bS lE rfl ?_; clear S; intro v138 w S; (try simp only [z4] at S)) | (at_builtin; refine step_append8 S (.tmp 139) (.tmp 141) _ _ rfl pk _ _ rfl bS lE rfl ?_; clear S; intro v142 w S; (try simp only [z4] at S)) | ((with_reducible refine iO _ (.load 36 _) ?_); first | (refine step_loadR 36 _ _ _ rfl _ (S.old_range hy) _ Try.underlying36 rfl 36 kR lN _ rfl rfl ?_) | (refine step_loadP S 36 _ _ _ rfl _ _ _ pk 36 _ pT lN _ Try.underlying36 rfl kR rfl ?_)) | (at_builtin; refine step_append8 S (.tmp 145) (.tmp 148) _ _ rfl pk _ _ rfl bS lE rfl ?_; clear S; intro v149 w S; (try simp only [z4] at S)) | fail)
          refine wp_relyW (e1 := noRes) 0 (S.pick (r := row8 u3 Y0) pk) [⟨[], [], [], fun _ v => v = u3, fun _ v => [row8 u3 Y0]⟩, ⟨[], [], [], fun _ v => v = .pointer (some ⟨g1, 6, none⟩), fun _ v => []⟩, ⟨[1], [], [], fun _ v => v = .slice (some ⟨b, off, none⟩) nr cr, fun _ v => []⟩, ⟨[], [], [], fun _ v => v = (.int .i64 (kk : Int)), fun _ v => []⟩, ⟨[1, 2, 3], [], [], fun _ v => v = .pointer (some ⟨b, off + kk * 3, none⟩), fun _ v => []⟩, ⟨[1, 2, 3, 4], [], [], fun _ v => v = .pointer (some ⟨b, off + kk * 3, none⟩), fun _ v => []⟩, ⟨[1, 2, 3, 4, 5], [], [], fun _ v => v = .int .i64 P, fun _ v => []⟩, ⟨[1, 2, 3, 4, 5, 6], [], [], fun _ v => v = .int .u8 P, fun _ v => []⟩, ⟨[], [], [], fun _ v => v = .pointer (some ⟨g1, 6, none⟩), fun _ v => []⟩, ⟨[8], [], [], fun _ v => v = .slice (some ⟨b, off, none⟩) nr cr, fun _ v => []⟩, ⟨[], [], [], fun _ v => v = (.int .i64 (kk : Int)), fun _ v => []⟩, ⟨[8, 9, 10], [], [], fun _ v => v = .pointer (some ⟨b, off + kk * 3, none⟩), fun _ v => []⟩, ⟨[8, 9, 10, 11], [], [], fun _ v => v = .pointer (some ⟨b, off + kk * 3 + 1, none⟩), fun _ v => []⟩, ⟨[8, 9, 10, 11, 12], [], [], fun _ v => v = .int .u8 (st.toNat : Int), fun _ v => []⟩, ⟨[1, 2, 3, 4, 5, 6, 7, 8, 9, 10, 11, 12, 13], [], [], fun _ v => True, fun _ v => [row8 v [PB, st]]⟩, ⟨[0, 1, 2, 3, 4, 5, 6, 7, 8, 9, 10, 11, 12, 13, 14], [0, 14], [], fun _ v => True, fun _ v => [row8 v (Y0 ++ [PB, st])]⟩] ?A2 ?hA2 kR kR kR [1, 2, 3, 4, 5, 6, 7, 8, 9, 10, 11, 12, 13, 15] kR (of_decide_eq_true rfl) ?hok2 ?fin2
          case hA2 => intro u; simp only [putAll, List.length_cons, List.length_nil, Nat.zero_add, Nat.reduceAdd, dstAt, List.getElem?_toArray, List.getElem?_cons_zero, List.getElem?_cons_succ, Option.bind_some, Act.put, List.setIfInBounds_toArray, List.set_cons_zero, List.set_cons_succ]; rfl
          case hok2 =>
            intro i hi
            obtain rfl | rfl | rfl | rfl | rfl | rfl | rfl | rfl | rfl | rfl | rfl | rfl | rfl | rfl | rfl | rfl : i = 0 ∨ i = 1 ∨ i = 2 ∨ i = 3 ∨ i = 4 ∨ i = 5 ∨ i = 6 ∨ i = 7 ∨ i = 8 ∨ i = 9 ∨ i = 10 ∨ i = 11 ∨ i = 12 ∨ i = 13 ∨ i = 14 ∨ i = 15 := by simp only [List.length_cons, List.length_nil, Nat.zero_add, Nat.reduceAdd] at hi; omega
            · clear hi
              rw [if_pos rfl]
              refine step_ofW rfl rfl rfl ?_
              intro u G w hf S
              simp only [resOf, spec, RSpec.resAt, z0, z1, z2, z3, z4, z5, z6, z7, ptrBlk] at S ⊢
              simp only [does]
              go_simp
              first | exact S.taken1 | exact ⟨rfl, S.taken1⟩
            · clear hi
              rw [if_neg (by decide)]; intro r0
              refine step_of rfl rfl rfl ?_
              intro u G w hf S
              simp only [resOf, spec, RSpec.resAt, z0, z1, z2, z3, z4, z5, z6, z7, ptrBlk] at S ⊢
              simp only [does]
              go_simp
              try first | exact S | exact ⟨vv, S⟩ | exact vv
            · clear hi
              rw [if_neg (by decide)]; intro r0
              refine step_of rfl rfl rfl ?_
              intro u G w hf S
              have f1 : u 1 = .pointer (some ⟨g1, 6, none⟩) := hf 1 (by simp)
              simp only [resOf, spec, RSpec.resAt, z0, z1, z2, z3, z4, z5, z6, z7, ptrBlk] at S ⊢
              simp only [f1]
              refine does_load1 50 (.tmp 65) _ _ rfl (S.cell (g := g1) pk co) _ Try.underlying50 rfl ?_; exact ⟨rfl, S⟩
            · clear hi
              rw [if_neg (by decide)]; intro r0
              refine step_of rfl rfl rfl ?_
              intro u G w hf S
              simp only [resOf, spec, RSpec.resAt, z0, z1, z2, z3, z4, z5, z6, z7, ptrBlk] at S ⊢
              simp only [does]
              go_simp
              try first | exact S | exact ⟨vv, S⟩ | exact vv
            · clear hi
              rw [if_neg (by decide)]; intro r0
              refine step_of rfl rfl rfl ?_
              intro u G w hf S
              have f2 : u 2 = .slice (some ⟨b, off, none⟩) nr cr := hf 2 (by simp)
              have f3 : u 3 = (.int .i64 (kk : Int)) := hf 3 (by simp)
              simp only [resOf, spec, RSpec.resAt, z0, z1, z2, z3, z4, z5, z6, z7, ptrBlk] at S ⊢
              simp only [f2, f3]
              simp only [does]
              go_simp
              try first | exact S | exact ⟨vv, S⟩ | exact vv
            · clear hi
              rw [if_neg (by decide)]; intro r0
              refine step_of rfl rfl rfl ?_
              intro u G w hf S
              have f4 : u 4 = .pointer (some ⟨b, off + kk * 3, none⟩) := hf 4 (by simp)
              simp only [resOf, spec, RSpec.resAt, z0, z1, z2, z3, z4, z5, z6, z7, ptrBlk] at S ⊢
              simp only [f4]
              simp only [does]
              go_simp
              try first | exact S | exact ⟨vv, S⟩ | exact vv
            · clear hi
              rw [if_neg (by decide)]; intro r0
              refine step_of rfl rfl rfl ?_
              intro u G w hf S
              have f5 : u 5 = .pointer (some ⟨b, off + kk * 3, none⟩) := hf 5 (by simp)
              simp only [resOf, spec, RSpec.resAt, z0, z1, z2, z3, z4, z5, z6, z7, ptrBlk] at S ⊢
              simp only [f5]
              refine does_load1 3 (.tmp 69) _ _ rfl (S.old_cell hy) _ Try.underlying3 rfl ?_; exact ⟨rfl, S⟩
            · clear hi
              rw [if_neg (by decide)]; intro r0
              refine step_of rfl rfl rfl ?_
              intro u G w hf S
              have f6 : u 6 = .int .i64 P := hf 6 (by simp)
              simp only [resOf, spec, RSpec.resAt, z0, z1, z2, z3, z4, z5, z6, z7, ptrBlk] at S ⊢
              simp only [f6]
              simp only [does]
              go_simp
              try first | exact S | exact ⟨vv, S⟩ | exact vv
            · clear hi
              rw [if_neg (by decide)]; intro r0
              refine step_of rfl rfl rfl ?_
              intro u G w hf S
              simp only [resOf, spec, RSpec.resAt, z0, z1, z2, z3, z4, z5, z6, z7, ptrBlk] at S ⊢
              simp only [does]
              go_simp
              try first | exact S | exact ⟨vv, S⟩ | exact vv
            · clear hi
              rw [if_neg (by decide)]; intro r0
              refine step_of rfl rfl rfl ?_
              intro u G w hf S
              have f8 : u 8 = .pointer (some ⟨g1, 6, none⟩) := hf 8 (by simp)
              simp only [resOf, spec, RSpec.resAt, z0, z1, z2, z3, z4, z5, z6, z7, ptrBlk] at S ⊢
              simp only [f8]
              refine does_load1 50 (.tmp 72) _ _ rfl (S.cell (g := g1) pk co) _ Try.underlying50 rfl ?_; exact ⟨rfl, S⟩
            · clear hi
              rw [if_neg (by decide)]; intro r0
              refine step_of rfl rfl rfl ?_
              intro u G w hf S
              simp only [resOf, spec, RSpec.resAt, z0, z1, z2, z3, z4, z5, z6, z7, ptrBlk] at S ⊢
              simp only [does]
              go_simp
              try first | exact S | exact ⟨vv, S⟩ | exact vv
            · clear hi
              rw [if_neg (by decide)]; intro r0
              refine step_of rfl rfl rfl ?_
              intro u G w hf S
              have f9 : u 9 = .slice (some ⟨b, off, none⟩) nr cr := hf 9 (by simp)
              have f10 : u 10 = (.int .i64 (kk : Int)) := hf 10 (by simp)
              simp only [resOf, spec, RSpec.resAt, z0, z1, z2, z3, z4, z5, z6, z7, ptrBlk] at S ⊢
              simp only [f9, f10]
              simp only [does]
              go_simp
              try first | exact S | exact ⟨vv, S⟩ | exact vv
            · clear hi
              rw [if_neg (by decide)]; intro r0
              refine step_of rfl rfl rfl ?_
              intro u G w hf S
              have f11 : u 11 = .pointer (some ⟨b, off + kk * 3, none⟩) := hf 11 (by simp)
              simp only [resOf, spec, RSpec.resAt, z0, z1, z2, z3, z4, z5, z6, z7, ptrBlk] at S ⊢
              simp only [f11]
              simp only [does]
              go_simp
              try first | exact S | exact ⟨vv, S⟩ | exact vv
            · clear hi
              rw [if_neg (by decide)]; intro r0
              refine step_of rfl rfl rfl ?_
              intro u G w hf S
              have f12 : u 12 = .pointer (some ⟨b, off + kk * 3 + 1, none⟩) := hf 12 (by simp)
              simp only [resOf, spec, RSpec.resAt, z0, z1, z2, z3, z4, z5, z6, z7, ptrBlk] at S ⊢
              simp only [f12]
              refine does_load1 5 (.tmp 76) _ _ rfl (S.old_cell hy) _ Try.underlying5 rfl ?_; exact ⟨rfl, S⟩
            · clear hi
              rw [if_neg (by decide)]; intro r0
              refine step_of rfl rfl rfl ?_
              intro u G w hf S
              have f7 : u 7 = .int .u8 P := hf 7 (by simp)
              have f13 : u 13 = .int .u8 (st.toNat : Int) := hf 13 (by simp)
              simp only [resOf, spec, RSpec.resAt, z0, z1, z2, z3, z4, z5, z6, z7, ptrBlk] at S ⊢
              simp only [f7, f13]
              refine does_build82 S (.tmp 71) (.tmp 77) PB st (show Value.int IntKind.u8 _ = Value.int IntKind.u8 _ by rw [← B5.out]) rfl ?_; intro v w1 S; exact ⟨trivial, S⟩
            · clear hi
              rw [if_neg (by decide)]; intro r0
              refine step_of rfl rfl rfl ?_
              intro u G w hf S
              have f0 : u 0 = u3 := hf 0 (by simp)
              simp only [resOf, spec, RSpec.resAt, z0, z1, z2, z3, z4, z5, z6, z7, ptrBlk] at S ⊢
              simp only [f0] at S ⊢
              try simp only [ptrBlk] at S
              refine does_append8 (.tmp 64) (.tmp 78) u3 Y0 rfl (S.pick (r := row8 u3 Y0) pk) (u 14) [PB, st] rfl (S.bs (v := u 14) (xs := [PB, st]) pk) H3.out ?_; intro v' w' S; exact ⟨trivial, S.drop (Pick.tail (Pick.head _ _))⟩
          case fin2 =>
            intro u w hf S
            have f0 : u 0 = u3 := hf 0 (by simp)
            have f1 : u 1 = .pointer (some ⟨g1, 6, none⟩) := hf 1 (by simp)
            have f2 : u 2 = .slice (some ⟨b, off, none⟩) nr cr := hf 2 (by simp)
            have f3 : u 3 = (.int .i64 (kk : Int)) := hf 3 (by simp)
            have f4 : u 4 = .pointer (some ⟨b, off + kk * 3, none⟩) := hf 4 (by simp)
            have f5 : u 5 = .pointer (some ⟨b, off + kk * 3, none⟩) := hf 5 (by simp)
            have f6 : u 6 = .int .i64 P := hf 6 (by simp)
            have f7 : u 7 = .int .u8 P := hf 7 (by simp)
            have f8 : u 8 = .pointer (some ⟨g1, 6, none⟩) := hf 8 (by simp)
            have f9 : u 9 = .slice (some ⟨b, off, none⟩) nr cr := hf 9 (by simp)
            have f10 : u 10 = (.int .i64 (kk : Int)) := hf 10 (by simp)
            have f11 : u 11 = .pointer (some ⟨b, off + kk * 3, none⟩) := hf 11 (by simp)
            have f12 : u 12 = .pointer (some ⟨b, off + kk * 3 + 1, none⟩) := hf 12 (by simp)
            have f13 : u 13 = .int .u8 (st.toNat : Int) := hf 13 (by simp)
            simp only [resOf, spec, RSpec.resAt, z0, z1, z2, z3, z4, z5, z6, z7, ptrBlk] at S
            clear hf
            simp only [List.length_cons, List.length_nil, Nat.zero_add, Nat.reduceAdd, List.drop_succ_cons, List.drop_zero, f0, f1, f2, f3, f4, f5, f6, f7, f8, f9, f10, f11, f12, f13]
            try simp only [f0, f1, f2, f3, f4, f5, f6, f7, f8, f9, f10, f11, f12, f13, ptrBlk] at S
            clear f0 f1 f2 f3 f4 f5 f6 f7 f8 f9 f10 f11 f12 f13
            generalize u 14 = v78 at S ⊢
            generalize u 15 = v79 at S ⊢
            go_wp2_with (first | ((with_reducible refine iD 1 (.box 53 (.tmp 0)) ?_); refine step_boxA (dst := some 1) S 53 (.tmp 0) _ rfl rfl ?_; clear S; intro g1 w S) | ((with_reducible refine iO _ (.load 5 _) ?_); refine step_load1 5 _ _ _ rfl (cL) _ Try.underlying5 rfl rfl ?_) | ((with_reducible refine iD 9 (.buildSlice 22 _ _) ?_); refine step_build81 S (.tmp 8) _ rfl rfl ?_; clear S; intro v9 w S) | ((with_reducible refine iO _ (.load 24 _) ?_); refine step_load1 24 _ _ _ rfl (cL) _ Try.underlying24 rfl rfl ?_) | (go_at_call 53; (with_reducible refine (N3.out _).mono ?_); rintro e w1 ⟨v88, rfl, T⟩; replace S := S.call T; clear T; (try simp only [z4, z5] at S)) | (at_builtin; refine step_append8 S (.tmp 9) (.tmp 13) _ _ rfl pk _ _ rfl bS lE rfl ?_; clear S; intro v14 w S; (try simp only [z4] at S)) | ((with_reducible refine iO _ (.load 32 _) ?_); refine step_load1 32 _ _ _ rfl (cL) _ Try.underlying32 rfl rfl ?_) | (at_builtin; refine step_append8 S (.tmp 15) (.tmp 18) _ _ rfl pk _ _ rfl bS lE rfl ?_; clear S; intro v19 w S; (try simp only [z4] at S)) | ((with_reducible refine iO _ (.load 3 _) ?_); refine step_load1 3 _ _ _ rfl (cL) _ Try.underlying3 rfl rfl ?_) | (at_builtin; refine step_append8 S (.tmp 30) (.tmp 34) _ _ rfl pk _ _ rfl bS lE rfl ?_; clear S; intro v35 w S; (try simp only [z4] at S)) | ((with_reducible refine iD 41 (.buildSlice 22 _ _) ?_); refine step_build81 S (.tmp 40) _ rfl rfl ?_; clear S; intro v41 w S) | (at_builtin; refine step_append8 S (.tmp 38) (.tmp 41) _ _ rfl pk _ _ rfl bS lE rfl ?_; clear S; intro v42 w S; (try simp only [z4] at S)) | (at_builtin; refine step_append8 S (.tmp 43) (.tmp 46) _ _ rfl pk _ _ rfl bS lE rfl ?_; clear S; intro v47 w S; (try simp only [z4] at S)) | ((with_reducible refine iO _ (.load 50 _) ?_); refine step_load1 50 _ _ _ rfl (cL) _ Try.underlying50 rfl rfl ?_) | ((with_reducible refine iD 55 (.buildSlice 22 _ _) ?_); refine step_build81 S (.tmp 54) _ rfl rfl ?_; clear S; intro v55 w S) | (at_builtin; refine step_append8 S (.tmp 50) (.tmp 55) _ _ rfl pk _ _ rfl bS lE rfl ?_; clear S; intro v56 w S; (try simp only [z4] at S)) | ((with_reducible refine iD 78 (.buildSlice 22 _ _) ?_); refine step_build8 S 2 _ [_, _] (by first | rfl | kernel_rfl) rfl (by decide) rfl ?_; clear S; intro v78 w S) | (at_builtin; refine step_append8 S (.tmp 64) (.tmp 78) _ _ rfl pk _ _ rfl bS lE rfl ?_; clear S; intro v79 w S; (try simp only [z4] at S)) | (at_builtin; refine step_append8 S (.tmp 80) (.tmp 88) _ _ rfl pk _ _ rfl bS lE rfl ?_; clear S; intro v89 w S; (try simp only [z4] at S)) | ((with_reducible refine iD 94 (.buildSlice 22 _ _) ?_); refine step_build81 S (.tmp 93) _ rfl rfl ?_; clear S; intro v94 w S) | (at_builtin; refine step_append8 S (.tmp 90) (.tmp 94) _ _ rfl pk _ _ rfl bS lE rfl ?_; clear S; intro v95 w S; (try simp only [z4] at S)) | ((with_reducible refine iO _ (.load 33 _) ?_); refine step_load1 33 _ _ _ rfl (cL) _ Try.underlying33 rfl rfl ?_) | (at_builtin; refine step_append8 S (.tmp 98) (.tmp 102) _ _ rfl pk _ _ rfl bS lE rfl ?_; clear S; intro v103 w S; (try simp only [z4] at S)) | ((with_reducible refine iO _ (.load 51 _) ?_); refine step_load1 51 _ _ _ rfl (cL) _ Try.underlying51 rfl rfl ?_) | ((with_reducible refine iD 109 (.buildSlice 22 _ _) ?_); refine step_build81 S (.tmp 108) _ rfl rfl ?_; clear S; intro v109 w S) | (at_builtin; refine step_append8 S (.tmp 104) (.tmp 109) _ _ rfl pk _ _ rfl bS lE rfl ?_; clear S; intro v110 w S; (try simp only [z4] at S)) | ((with_reducible refine iO _ (.load 106 _) ?_); first | (refine step_loadR 106 _ _ _ rfl _ (S.old_range hy) _ Try.underlying106 rfl 35 kR lN _ rfl rfl ?_) | (refine step_loadP S 106 _ _ _ rfl _ _ _ pk 35 _ pT lN _ Try.underlying106 rfl kR rfl ?_)) | ((with_reducible refine iD 6 (.alloc 106) ?_); refine step_alloc (dst := some 6) S 106 (.agg ((rcdL rcdZ).toArray)) ((rcdL rcdZ).toArray) kR rfl rfl ?_; clear S; intro g6 w S) | ((with_reducible refine iO none (.store 106 (.tmp 6) (.tmp 122)) ?_); refine step_store S 106 (.tmp 6) (.tmp 122) _ _ rfl rfl _ _ pk 35 kR lN lN on1 rfl ?_; clear S; intro w S) | (at_builtin; refine step_append8 S (.tmp 123) (.tmp 126) _ _ rfl pk _ _ rfl bS lE rfl ?_; clear S; intro v127 w S; (try simp only [z4] at S)) | ((with_reducible refine iD 131 (.buildSlice 22 _ _) ?_); refine step_build81 S (.tmp 130) _ rfl rfl ?_; clear S; intro v131 w S) | (at_builtin; refine step_append8 S (.tmp 128) (.tmp 131) _ _ rfl pk _ _ rfl bS lE rfl ?_; clear S; intro v132 w S; (try simp only [z4] at S)) | (at_builtin; refine step_append8 S (.tmp 133) (.tmp 137) _ _ rfl pk _ _ rfl bS lE rfl ?_; clear S; intro v138 w S; (try simp only [z4] at S)) | (at_builtin; refine step_append8 S (.tmp 139) (.tmp 141) _ _ rfl pk _ _ rfl bS lE rfl ?_; clear S; intro v142 w S; (try simp only [z4] at S)) | ((with_reducible refine iO _ (.load 36 _) ?_); first | (refine step_loadR 36 _ _ _ rfl _ (S.old_range hy) _ Try.underlying36 rfl 36 kR lN _ rfl rfl ?_) | (refine step_loadP S 36 _ _ _ rfl _ _ _ pk 36 _ pT lN _ Try.underlying36 rfl kR rfl ?_)) | (at_builtin; refine step_append8 S (.tmp 145) (.tmp 148) _ _ rfl pk _ _ rfl bS lE rfl ?_; clear S; intro v149 w S; (try simp only [z4] at S)) | fail)
            go_roundw
            case rel => exact ⟨kk + 1, by omega, by go_num, by rw [HEND.out]; exact S.sub (by repeat (first | exact Sub.nil _ | refine Sub.cons pk ?_))⟩
            case measure => simp [intOf]; omega
        · obtain rfl : kk = nr := by omega
          have hki : ¬ (kk : Int) < (kk : Int) := by omega
          rw [List.take_of_length_le (by rw [← HNR.out]; exact Nat.le_refl _)] at S
          have hl2 := L2.out
          have hl3 := HLF2.out
          have hE := HE.out
          obtain ⟨Y, hY⟩ : ∃ Y, Y = X1 ++ l.flatMap sgtB := ⟨_, rfl⟩
          have hy : Y.length ≤ 24 := by rw [hY, List.length_append]; omega
          rw [← hY] at hE S
          have h3 : Y.length + [QB].length ≤ 140737488355328 := by simp only [List.length_cons, List.length_nil]; omega
          have pf := fun v w h => refFramed_s v (Y ++ [QB]) w h (by simp only [List.length_append, List.length_cons, List.length_nil]; omega)
          have e2' := E2'.out
          clear hY hy hl2 hl3 HE E2'
          have HE := Lib.hid hE; have H3 := Lib.hid h3; have PF := Lib.hid pf; clear hE h3 pf
          go_wp2_with (first | ((with_reducible refine iD 94 (.buildSlice 22 _ _) ?_); refine step_build81 S (.tmp 93) QB (show Value.int IntKind.u8 _ = Value.int IntKind.u8 _ by rw [← B3.out]) gw ?_; clear S; intro v94 w S) | ((with_reducible refine iD 1 (.box 53 (.tmp 0)) ?_); refine step_boxA (dst := some 1) S 53 (.tmp 0) _ rfl rfl ?_; clear S; intro g1 w S) | ((with_reducible refine iO _ (.load 5 _) ?_); refine step_load1 5 _ _ _ rfl (cL) _ Try.underlying5 rfl rfl ?_) | ((with_reducible refine iD 9 (.buildSlice 22 _ _) ?_); refine step_build81 S (.tmp 8) _ rfl rfl ?_; clear S; intro v9 w S) | ((with_reducible refine iO _ (.load 24 _) ?_); refine step_load1 24 _ _ _ rfl (cL) _ Try.underlying24 rfl rfl ?_) | (at_builtin; refine step_append8 S (.tmp 9) (.tmp 13) _ _ rfl pk _ _ rfl bS lE rfl ?_; clear S; intro v14 w S; (try simp only [z4] at S)) | ((with_reducible refine iO _ (.load 32 _) ?_); refine step_load1 32 _ _ _ rfl (cL) _ Try.underlying32 rfl rfl ?_) | (at_builtin; refine step_append8 S (.tmp 15) (.tmp 18) _ _ rfl pk _ _ rfl bS lE rfl ?_; clear S; intro v19 w S; (try simp only [z4] at S)) | (go_at_call 54; (with_reducible refine (PF.out _ _ bS).mono ?_); rintro e w1 ⟨v151, rfl, T⟩; replace S := S.call T; clear T; (try simp only [z4, z5] at S)) | ((with_reducible refine iO _ (.load 3 _) ?_); refine step_load1 3 _ _ _ rfl (cL) _ Try.underlying3 rfl rfl ?_) | (at_builtin; refine step_append8 S (.tmp 30) (.tmp 34) _ _ rfl pk _ _ rfl bS lE rfl ?_; clear S; intro v35 w S; (try simp only [z4] at S)) | ((with_reducible refine iD 41 (.buildSlice 22 _ _) ?_); refine step_build81 S (.tmp 40) _ rfl rfl ?_; clear S; intro v41 w S) | (at_builtin; refine step_append8 S (.tmp 38) (.tmp 41) _ _ rfl pk _ _ rfl bS lE rfl ?_; clear S; intro v42 w S; (try simp only [z4] at S)) | (at_builtin; refine step_append8 S (.tmp 43) (.tmp 46) _ _ rfl pk _ _ rfl bS lE rfl ?_; clear S; intro v47 w S; (try simp only [z4] at S)) | ((with_reducible refine iO _ (.load 50 _) ?_); refine step_load1 50 _ _ _ rfl (cL) _ Try.underlying50 rfl rfl ?_) | ((with_reducible refine iD 55 (.buildSlice 22 _ _) ?_); refine step_build81 S (.tmp 54) _ rfl rfl ?_; clear S; intro v55 w S) | (at_builtin; refine step_append8 S (.tmp 50) (.tmp 55) _ _ rfl pk _ _ rfl bS lE rfl ?_; clear S; intro v56 w S; (try simp only [z4] at S)) | ((with_reducible refine iD 78 (.buildSlice 22 _ _) ?_); refine step_build8 S 2 _ [_, _] (by first | rfl | kernel_rfl) rfl (by decide) rfl ?_; clear S; intro v78 w S) | (at_builtin; refine step_append8 S (.tmp 64) (.tmp 78) _ _ rfl pk _ _ rfl bS lE rfl ?_; clear S; intro v79 w S; (try simp only [z4] at S)) | (at_builtin; refine step_append8 S (.tmp 80) (.tmp 88) _ _ rfl pk _ _ rfl bS lE rfl ?_; clear S; intro v89 w S; (try simp only [z4] at S)) | (at_builtin; refine step_append8 S (.tmp 90) (.tmp 94) _ _ rfl pk _ _ rfl bS lE rfl ?_; clear S; intro v95 w S; (try simp only [z4] at S)) | ((with_reducible refine iO _ (.load 33 _) ?_); refine step_load1 33 _ _ _ rfl (cL) _ Try.underlying33 rfl rfl ?_) | (at_builtin; refine step_append8 S (.tmp 98) (.tmp 102) _ _ rfl pk _ _ rfl bS lE rfl ?_; clear S; intro v103 w S; (try simp only [z4] at S)) | ((with_reducible refine iO _ (.load 51 _) ?_); refine step_load1 51 _ _ _ rfl (cL) _ Try.underlying51 rfl rfl ?_) | ((with_reducible refine iD 109 (.buildSlice 22 _ _) ?_); refine step_build81 S (.tmp 108) _ rfl rfl ?_; clear S; intro v109 w S) | (at_builtin; refine step_append8 S (.tmp 104) (.tmp 109) _ _ rfl pk _ _ rfl bS lE rfl ?_; clear S; intro v110 w S; (try simp only [z4] at S)) | ((with_reducible refine iO _ (.load 106 _) ?_); first | (refine step_loadR 106 _ _ _ rfl _ (S.old_range hy) _ Try.underlying106 rfl 35 kR lN _ rfl rfl ?_) | (refine step_loadP S 106 _ _ _ rfl _ _ _ pk 35 _ pT lN _ Try.underlying106 rfl kR rfl ?_)) | ((with_reducible refine iD 6 (.alloc 106) ?_); refine step_alloc (dst := some 6) S 106 (.agg ((rcdL rcdZ).toArray)) ((rcdL rcdZ).toArray) kR rfl rfl ?_; clear S; intro g6 w S) | ((with_reducible refine iO none (.store 106 (.tmp 6) (.tmp 122)) ?_); refine step_store S 106 (.tmp 6) (.tmp 122) _ _ rfl rfl _ _ pk 35 kR lN lN on1 rfl ?_; clear S; intro w S) | (at_builtin; refine step_append8 S (.tmp 123) (.tmp 126) _ _ rfl pk _ _ rfl bS lE rfl ?_; clear S; intro v127 w S; (try simp only [z4] at S)) | ((with_reducible refine iD 131 (.buildSlice 22 _ _) ?_); refine step_build81 S (.tmp 130) _ rfl rfl ?_; clear S; intro v131 w S) | (at_builtin; refine step_append8 S (.tmp 128) (.tmp 131) _ _ rfl pk _ _ rfl bS lE rfl ?_; clear S; intro v132 w S; (try simp only [z4] at S)) | (at_builtin; refine step_append8 S (.tmp 133) (.tmp 137) _ _ rfl pk _ _ rfl bS lE rfl ?_; clear S; intro v138 w S; (try simp only [z4] at S)) | (at_builtin; refine step_append8 S (.tmp 139) (.tmp 141) _ _ rfl pk _ _ rfl bS lE rfl ?_; clear S; intro v142 w S; (try simp only [z4] at S)) | ((with_reducible refine iO _ (.load 36 _) ?_); first | (refine step_loadR 36 _ _ _ rfl _ (S.old_range hy) _ Try.underlying36 rfl 36 kR lN _ rfl rfl ?_) | (refine step_loadP S 36 _ _ _ rfl _ _ _ pk 36 _ pT lN _ Try.underlying36 rfl kR rfl ?_)) | (at_builtin; refine step_append8 S (.tmp 145) (.tmp 148) _ _ rfl pk _ _ rfl bS lE rfl ?_; clear S; intro v149 w S; (try simp only [z4] at S)) | fail)
          go_ret
          rw [HE.out]
          exact ⟨_, rfl, S.sub (by repeat (first | exact Sub.nil _ | refine Sub.cons pk ?_))⟩
    · have hE := HE.out
      have hb := HB.out
      rw [hq, show rpBK .c r = numB r.count.toNat 4 ++ numB r.records.length 1 ++ r.records.flatMap rcdB from rfl] at hE
      rw [hq] at hb
      obtain ⟨hb1, hall⟩ := (chV_iff r.records).1 hb
      have d8 := D8.out
      have hvc := HVC.out
      have hnc := HNC.out
      obtain ⟨l, hl⟩ : ∃ l, l = r.records := ⟨_, rfl⟩
      rw [← hl] at hE hb1 hall hvc hnc
      have hcl := r.count.toNat_lt
      have n4 := fun w => number_s r.count.toNat 4 (r.count.toNat : Int) 4 rfl rfl w (by omega) (by decide)
      have lz := numB_length r.count.toNat 4
      obtain ⟨Z, hZ⟩ : ∃ Z, Z = numB r.count.toNat 4 := ⟨_, rfl⟩
      rw [← hZ] at n4 lz hE
      obtain ⟨Q, hQ⟩ : ∃ Q, Q = r.count := ⟨_, rfl⟩
      rw [← hQ] at n4 d8 hcl
      rw [← hnc] at hb1 hE
      obtain ⟨b1, b2⟩ := byte1 nc (by omega)
      rw [b2] at hE
      obtain ⟨LB, hLB⟩ : ∃ b, b = UInt8.ofNat nc := ⟨_, rfl⟩
      rw [← hLB] at hE b1
      have hlf : ∀ k, ((l.take k).flatMap rcdB).length ≤ 1376 := fun k => by
        rw [flatLen rcdB 43 rcdB_length, List.length_take]; omega
      have hlf2 : (l.flatMap rcdB).length ≤ 1376 := by rw [flatLen rcdB 43 rcdB_length, ← hnc]; omega
      have h1 : H.length + Z.length ≤ 140737488355328 := by rw [L1.out, lz]; decide
      have l2 : (H ++ Z).length = 15 := by rw [List.length_append, L1.out, lz]
      have hE : E = frm ((H ++ Z ++ [LB]) ++ l.flatMap rcdB) := by rw [hE]; simp only [List.append_assoc]
      have h2 : (H ++ Z).length + [LB].length ≤ 140737488355328 := by simp only [List.length_cons, List.length_nil, l2]; decide
      have l3 : (H ++ Z ++ [LB]).length = 16 := by rw [List.length_append, l2]; rfl
      obtain ⟨X1, hX1⟩ : ∃ X, X = H ++ Z ++ [LB] := ⟨_, rfl⟩
      rw [← hX1] at hE l3
      have e1 : IntKind.u8.wrap (nc : Int) = (nc : Int) := by rw [IntKind.wrap_u8]; omega
      have e1' : (nc : Int) % 256 = (nc : Int) := by omega
      have e3 : IntKind.u64.wrap (Q.toNat : Int) = (Q.toNat : Int) := by rw [IntKind.wrap_u64]; omega
      clear hq HE HB D8 HVC HNC hl hQ b2 hLB hb lz hZ l2 hcl
      have HE := Lib.hid hE; have D8 := Lib.hid d8; have HVC := Lib.hid hvc; have HNC := Lib.hid hnc; have B1 := Lib.hid b1; have HLF := Lib.hid hlf; have HLF2 := Lib.hid hlf2; have H1 := Lib.hid h1; have H2 := Lib.hid h2; have L3 := Lib.hid l3; have HX1 := Lib.hid hX1; have HALL := Lib.hid hall; have N4 := Lib.hid n4; clear hE d8 hvc hnc b1 hlf hlf2 h1 h2 l3 hX1 hall n4
      go_upto_region 23 with (first | ((with_reducible refine iD 109 (.buildSlice 22 _ _) ?_); refine step_build81 S (.tmp 108) LB (show Value.int IntKind.u8 _ = Value.int IntKind.u8 _ by rw [← B1.out]) gw ?_; clear S; intro v109 w S) | ((with_reducible refine iD 1 (.box 53 (.tmp 0)) ?_); refine step_boxA (dst := some 1) S 53 (.tmp 0) _ rfl rfl ?_; clear S; intro g1 w S) | ((with_reducible refine iO _ (.load 5 _) ?_); refine step_load1 5 _ _ _ rfl (cL) _ Try.underlying5 rfl rfl ?_) | ((with_reducible refine iD 9 (.buildSlice 22 _ _) ?_); refine step_build81 S (.tmp 8) _ rfl rfl ?_; clear S; intro v9 w S) | ((with_reducible refine iO _ (.load 24 _) ?_); refine step_load1 24 _ _ _ rfl (cL) _ Try.underlying24 rfl rfl ?_) | (go_at_call 53; (with_reducible refine (N4.out _).mono ?_); rintro e w1 ⟨v102, rfl, T⟩; replace S := S.call T; clear T; (try simp only [z4, z5] at S)) | (at_builtin; refine step_append8 S (.tmp 9) (.tmp 13) _ _ rfl pk _ _ rfl bS lE rfl ?_; clear S; intro v14 w S; (try simp only [z4] at S)) | ((with_reducible refine iO _ (.load 32 _) ?_); refine step_load1 32 _ _ _ rfl (cL) _ Try.underlying32 rfl rfl ?_) | (at_builtin; refine step_append8 S (.tmp 15) (.tmp 18) _ _ rfl pk _ _ rfl bS lE rfl ?_; clear S; intro v19 w S; (try simp only [z4] at S)) | ((with_reducible refine iO _ (.load 3 _) ?_); refine step_load1 3 _ _ _ rfl (cL) _ Try.underlying3 rfl rfl ?_) | (at_builtin; refine step_append8 S (.tmp 30) (.tmp 34) _ _ rfl pk _ _ rfl bS lE rfl ?_; clear S; intro v35 w S; (try simp only [z4] at S)) | ((with_reducible refine iD 41 (.buildSlice 22 _ _) ?_); refine step_build81 S (.tmp 40) _ rfl rfl ?_; clear S; intro v41 w S) | (at_builtin; refine step_append8 S (.tmp 38) (.tmp 41) _ _ rfl pk _ _ rfl bS lE rfl ?_; clear S; intro v42 w S; (try simp only [z4] at S)) | (at_builtin; refine step_append8 S (.tmp 43) (.tmp 46) _ _ rfl pk _ _ rfl bS lE rfl ?_; clear S; intro v47 w S; (try simp only [z4] at S)) | ((with_reducible refine iO _ (.load 50 _) ?_); refine step_load1 50 _ _ _ rfl (cL) _ Try.underlying50 rfl rfl ?_) | ((with_reducible refine iD 55 (.buildSlice 22 _ _) ?_); refine step_build81 S (.tmp 54) _ rfl rfl ?_; clear S; intro v55 w S) | (at_builtin; refine step_append8 S (.tmp 50) (.tmp 55) _ _ rfl pk _ _ rfl bS lE rfl ?_; clear S; intro v56 w S; (try simp only [z4] at S)) | ((with_reducible refine iD 78 (.buildSlice 22 _ _) ?_); refine step_build8 S 2 _ [_, _] (by first | rfl | kernel_rfl) rfl (by decide) rfl ?_; clear S; intro v78 w S) | (at_builtin; refine step_append8 S (.tmp 64) (.tmp 78) _ _ rfl pk _ _ rfl bS lE rfl ?_; clear S; intro v79 w S; (try simp only [z4] at S)) | (at_builtin; refine step_append8 S (.tmp 80) (.tmp 88) _ _ rfl pk _ _ rfl bS lE rfl ?_; clear S; intro v89 w S; (try simp only [z4] at S)) | ((with_reducible refine iD 94 (.buildSlice 22 _ _) ?_); refine step_build81 S (.tmp 93) _ rfl rfl ?_; clear S; intro v94 w S) | (at_builtin; refine step_append8 S (.tmp 90) (.tmp 94) _ _ rfl pk _ _ rfl bS lE rfl ?_; clear S; intro v95 w S; (try simp only [z4] at S)) | ((with_reducible refine iO _ (.load 33 _) ?_); refine step_load1 33 _ _ _ rfl (cL) _ Try.underlying33 rfl rfl ?_) | (at_builtin; refine step_append8 S (.tmp 98) (.tmp 102) _ _ rfl pk _ _ rfl bS lE rfl ?_; clear S; intro v103 w S; (try simp only [z4] at S)) | ((with_reducible refine iO _ (.load 51 _) ?_); refine step_load1 51 _ _ _ rfl (cL) _ Try.underlying51 rfl rfl ?_) | (at_builtin; refine step_append8 S (.tmp 104) (.tmp 109) _ _ rfl pk _ _ rfl bS lE rfl ?_; clear S; intro v110 w S; (try simp only [z4] at S)) | ((with_reducible refine iO _ (.load 106 _) ?_); first | (refine step_loadR 106 _ _ _ rfl _ (S.old_range hy) _ Try.underlying106 rfl 35 kR lN _ rfl rfl ?_) | (refine step_loadP S 106 _ _ _ rfl _ _ _ pk 35 _ pT lN _ Try.underlying106 rfl kR rfl ?_)) | ((with_reducible refine iD 6 (.alloc 106) ?_); refine step_alloc (dst := some 6) S 106 (.agg ((rcdL rcdZ).toArray)) ((rcdL rcdZ).toArray) kR rfl rfl ?_; clear S; intro g6 w S) | ((with_reducible refine iO none (.store 106 (.tmp 6) (.tmp 122)) ?_); refine step_store S 106 (.tmp 6) (.tmp 122) _ _ rfl rfl _ _ pk 35 kR lN lN on1 rfl ?_; clear S; intro w S) | (at_builtin; refine step_append8 S (.tmp 123) (.tmp 126) _ _ rfl pk _ _ rfl bS lE rfl ?_; clear S; intro v127 w S; (try simp only [z4] at S)) | ((with_reducible refine iD 131 (.buildSlice 22 _ _) ?_); refine step_build81 S (.tmp 130) _ rfl rfl ?_; clear S; intro v131 w S) | (at_builtin; refine step_append8 S (.tmp 128) (.tmp 131) _ _ rfl pk _ _ rfl bS lE rfl ?_; clear S; intro v132 w S; (try simp only [z4] at S)) | (at_builtin; refine step_append8 S (.tmp 133) (.tmp 137) _ _ rfl pk _ _ rfl bS lE rfl ?_; clear S; intro v138 w S; (try simp only [z4] at S)) | (at_builtin; refine step_append8 S (.tmp 139) (.tmp 141) _ _ rfl pk _ _ rfl bS lE rfl ?_; clear S; intro v142 w S; (try simp only [z4] at S)) | ((with_reducible refine iO _ (.load 36 _) ?_); first | (refine step_loadR 36 _ _ _ rfl _ (S.old_range hy) _ Try.underlying36 rfl 36 kR lN _ rfl rfl ?_) | (refine step_loadP S 36 _ _ _ rfl _ _ _ pk 36 _ pT lN _ Try.underlying36 rfl kR rfl ?_)) | (at_builtin; refine step_append8 S (.tmp 145) (.tmp 148) _ _ rfl pk _ _ rfl bS lE rfl ?_; clear S; intro v149 w S; (try simp only [z4] at S)) | fail)
      rw [← HX1.out] at S
      clear e1 e1' e3
      go_wp2_with (first | ((with_reducible refine iD 1 (.box 53 (.tmp 0)) ?_); refine step_boxA (dst := some 1) S 53 (.tmp 0) _ rfl rfl ?_; clear S; intro g1 w S) | ((with_reducible refine iO _ (.load 5 _) ?_); refine step_load1 5 _ _ _ rfl (cL) _ Try.underlying5 rfl rfl ?_) | ((with_reducible refine iD 9 (.buildSlice 22 _ _) ?_); refine step_build81 S (.tmp 8) _ rfl rfl ?_; clear S; intro v9 w S) | ((with_reducible refine iO _ (.load 24 _) ?_); refine step_load1 24 _ _ _ rfl (cL) _ Try.underlying24 rfl rfl ?_) | (at_builtin; refine step_append8 S (.tmp 9) (.tmp 13) _ _ rfl pk _ _ rfl bS lE rfl ?_; clear S; intro v14 w S; (try simp only [z4] at S)) | ((with_reducible refine iO _ (.load 32 _) ?_); refine step_load1 32 _ _ _ rfl (cL) _ Try.underlying32 rfl rfl ?_) | (at_builtin; refine step_append8 S (.tmp 15) (.tmp 18) _ _ rfl pk _ _ rfl bS lE rfl ?_; clear S; intro v19 w S; (try simp only [z4] at S)) | ((with_reducible refine iO _ (.load 3 _) ?_); refine step_load1 3 _ _ _ rfl (cL) _ Try.underlying3 rfl rfl ?_) | (at_builtin; refine step_append8 S (.tmp 30) (.tmp 34) _ _ rfl pk _ _ rfl bS lE rfl ?_; clear S; intro v35 w S; (try simp only [z4] at S)) | ((with_reducible refine iD 41 (.buildSlice 22 _ _) ?_); refine step_build81 S (.tmp 40) _ rfl rfl ?_; clear S; intro v41 w S) | (at_builtin; refine step_append8 S (.tmp 38) (.tmp 41) _ _ rfl pk _ _ rfl bS lE rfl ?_; clear S; intro v42 w S; (try simp only [z4] at S)) | (at_builtin; refine step_append8 S (.tmp 43) (.tmp 46) _ _ rfl pk _ _ rfl bS lE rfl ?_; clear S; intro v47 w S; (try simp only [z4] at S)) | ((with_reducible refine iO _ (.load 50 _) ?_); refine step_load1 50 _ _ _ rfl (cL) _ Try.underlying50 rfl rfl ?_) | ((with_reducible refine iD 55 (.buildSlice 22 _ _) ?_); refine step_build81 S (.tmp 54) _ rfl rfl ?_; clear S; intro v55 w S) | (at_builtin; refine step_append8 S (.tmp 50) (.tmp 55) _ _ rfl pk _ _ rfl bS lE rfl ?_; clear S; intro v56 w S; (try simp only [z4] at S)) | ((with_reducible refine iD 78 (.buildSlice 22 _ _) ?_); refine step_build8 S 2 _ [_, _] (by first | rfl | kernel_rfl) rfl (by decide) rfl ?_; clear S; intro v78 w S) | (at_builtin; refine step_append8 S (.tmp 64) (.tmp 78) _ _ rfl pk _ _ rfl bS lE rfl ?_; clear S; intro v79 w S; (try simp only [z4] at S)) | (at_builtin; refine step_append8 S (.tmp 80) (.tmp 88) _ _ rfl pk _ _ rfl bS lE rfl ?_; clear S; intro v89 w S; (try simp only [z4] at S)) | ((with_reducible refine iD 94 (.buildSlice 22 _ _) ?_); refine step_build81 S (.tmp 93) _ rfl rfl ?_; clear S; intro v94 w S) | (at_builtin; refine step_append8 S (.tmp 90) (.tmp 94) _ _ rfl pk _ _ rfl bS lE rfl ?_; clear S; intro v95 w S; (try simp only [z4] at S)) | ((with_reducible refine iO _ (.load 33 _) ?_); refine step_load1 33 _ _ _ rfl (cL) _ Try.underlying33 rfl rfl ?_) | (at_builtin; refine step_append8 S (.tmp 98) (.tmp 102) _ _ rfl pk _ _ rfl bS lE rfl ?_; clear S; intro v103 w S; (try simp only [z4] at S)) | ((with_reducible refine iO _ (.load 51 _) ?_); refine step_load1 51 _ _ _ rfl (cL) _ Try.underlying51 rfl rfl ?_) | ((with_reducible refine iD 109 (.buildSlice 22 _ _) ?_); refine step_build81 S (.tmp 108) _ rfl rfl ?_; clear S; intro v109 w S) | (at_builtin; refine step_append8 S (.tmp 104) (.tmp 109) _ _ rfl pk _ _ rfl bS lE rfl ?_; clear S; intro v110 w S; (try simp only [z4] at S)) | ((with_reducible refine iO _ (.load 106 _) ?_); first | (refine step_loadR 106 _ _ _ rfl _ (S.old_range hy) _ Try.underlying106 rfl 35 kR lN _ rfl rfl ?_) | (refine step_loadP S 106 _ _ _ rfl _ _ _ pk 35 _ pT lN _ Try.underlying106 rfl kR rfl ?_)) | ((with_reducible refine iD 6 (.alloc 106) ?_); refine step_alloc (dst := some 6) S 106 (.agg ((rcdL rcdZ).toArray)) ((rcdL rcdZ).toArray) kR rfl rfl ?_; clear S; intro g6 w S) | ((with_reducible refine iO none (.store 106 (.tmp 6) (.tmp 122)) ?_); refine step_store S 106 (.tmp 6) (.tmp 122) _ _ rfl rfl _ _ pk 35 kR lN lN on1 rfl ?_; clear S; intro w S) | (at_builtin; refine step_append8 S (.tmp 123) (.tmp 126) _ _ rfl pk _ _ rfl bS lE rfl ?_; clear S; intro v127 w S; (try simp only [z4] at S)) | ((with_reducible refine iD 131 (.buildSlice 22 _ _) ?_); refine step_build81 S (.tmp 130) _ rfl rfl ?_; clear S; intro v131 w S) | (at_builtin; refine step_append8 S (.tmp 128) (.tmp 131) _ _ rfl pk _ _ rfl bS lE rfl ?_; clear S; intro v132 w S; (try simp only [z4] at S)) | (at_builtin; refine step_append8 S (.tmp 133) (.tmp 137) _ _ rfl pk _ _ rfl bS lE rfl ?_; clear S; intro v138 w S; (try simp only [z4] at S)) | (at_builtin; refine step_append8 S (.tmp 139) (.tmp 141) _ _ rfl pk _ _ rfl bS lE rfl ?_; clear S; intro v142 w S; (try simp only [z4] at S)) | ((with_reducible refine iO _ (.load 36 _) ?_); first | (refine step_loadR 36 _ _ _ rfl _ (S.old_range hy) _ Try.underlying36 rfl 36 kR lN _ rfl rfl ?_) | (refine step_loadP S 36 _ _ _ rfl _ _ _ pk 36 _ pT lN _ Try.underlying36 rfl kR rfl ?_)) | (at_builtin; refine step_append8 S (.tmp 145) (.tmp 148) _ _ rfl pk _ _ rfl bS lE rfl ?_; clear S; intro v149 w S; (try simp only [z4] at S)) | fail)
      go_loopw [3, 5] (fun v3 u wr => ∃ (k : Nat), k ≤ nc ∧ u = .int .i64 (k : Int) ∧ Has w0 wr [row8 v3 (X1 ++ (l.take k).flatMap rcdB), blk g1 (.cells X 53 (0, 0))]) (fun _ u _ => nc - (intOf u).toNat)
      case atStart => exact ⟨0, Nat.zero_le _, rfl, by rw [List.take_zero, List.flatMap_nil, List.append_nil]; exact S.sub (by repeat (first | exact Sub.nil _ | refine Sub.cons pk ?_))⟩
      case round =>
        clear S
        obtain ⟨kk, hk, rfl, S⟩ := hrel
        by_cases hlt : kk < nc
        · have hki : (kk : Int) < (nc : Int) := by omega
          have hki2 : (kk : Int) < 9223372036854775807 := by omega
          have hlt2 : kk < l.length := by rw [← HNC.out]; exact hlt
          have hx : l[kk]? = some l[kk] := List.getElem?_eq_getElem hlt2
          have hvc := HVC.out
          obtain ⟨b, off, rfl, _⟩ := hvc.atA (by omega)
          have hrg := hvc.elem rcdL_length (by decide) kk _ hx
          have hmore := flat_take1 rcdB l kk _ hx
          have hxv := HALL.out _ (List.getElem_mem hlt2)
          obtain ⟨x, hxe⟩ : ∃ x, x = l[kk] := ⟨_, rfl⟩
          rw [← hxe] at hrg hmore hxv
          unfold rcdV at hxv
          have hxv := of_decide_eq_true hxv
          have hlk := HLF.out kk
          have hl3 := L3.out
          have htl := x.tick.toNat_lt
          have hxl := x.len
          have n3 := fun w => number_s x.tick.toNat 8 (x.tick.toNat : Int) 8 rfl rfl w (by omega) (by decide)
          have n5 := fun w => number_s x.code.v.toNat 2 x.code.v 2 (by omega) rfl w (by omega) (by decide)
          rw [show rcdB x = numB x.tick.toNat 8 ++ numB x.kind.toNat 1 ++ numB x.code.v.toNat 2 ++ x.link from rfl] at hmore
          rw [numB_one] at hmore
          have lt := numB_length x.tick.toNat 8
          have lc := numB_length x.code.v.toNat 2
          obtain ⟨T1, hT1⟩ : ∃ Z, Z = numB x.tick.toNat 8 := ⟨_, rfl⟩
          obtain ⟨C1, hC1⟩ : ∃ Z, Z = numB x.code.v.toNat 2 := ⟨_, rfl⟩
          rw [← hT1] at n3 lt hmore
          rw [← hC1] at n5 lc hmore
          obtain ⟨Y0, hY0⟩ : ∃ X, X = X1 ++ (l.take kk).flatMap rcdB := ⟨_, rfl⟩
          have hy0 : Y0.length ≤ 1392 := by rw [hY0, List.length_append]; omega
          rw [← hY0] at S
          have h3 : Y0.length + T1.length ≤ 140737488355328 := by omega
          have h4 : (Y0 ++ T1).length + [x.kind].length ≤ 140737488355328 := by simp only [List.length_append, List.length_cons, List.length_nil]; omega
          have h5 : (Y0 ++ T1 ++ [x.kind]).length + C1.length ≤ 140737488355328 := by simp only [List.length_append, List.length_cons, List.length_nil]; omega
          have h6 : (Y0 ++ T1 ++ [x.kind] ++ C1).length + x.link.length ≤ 140737488355328 := by simp only [List.length_append, List.length_cons, List.length_nil]; omega
          have hend : X1 ++ (l.take (kk + 1)).flatMap rcdB = Y0 ++ T1 ++ [x.kind] ++ C1 ++ x.link := by
            rw [hmore, hY0]
            simp only [List.append_assoc]
          have e3 : IntKind.u64.wrap x.code.v = x.code.v := by rw [IntKind.wrap_u64]; omega
          have g0 := rcdL_0 x
          have g1' := rcdL_1 x
          have g2' := rcdL_2 x
          clear hx hmore hxe hlk hl3 lt lc hT1 hC1 hY0 hy0 hvc htl hxl hxv
          have HRG := Lib.hid hrg; have N3 := Lib.hid n3; have N5 := Lib.hid n5; have H3 := Lib.hid h3; have H4 := Lib.hid h4; have H5 := Lib.hid h5; have H6 := Lib.hid h6; have HEND := Lib.hid hend; have G0 := Lib.hid g0; have G1' := Lib.hid g1'; have G2' := Lib.hid g2'; clear hrg n3 n5 h3 h4 h5 h6 hend g0 g1' g2'
          go_wp2_with (first | (at_builtin; refine step_append8 S (.tmp 139) (.tmp 141) v138 _ rfl pk _ x.link rfl (S.bs_link (g := g6) (x := x) pk) H6.out gw ?_; clear S; intro v142 w S) | ((with_reducible refine iD 1 (.box 53 (.tmp 0)) ?_); refine step_boxA (dst := some 1) S 53 (.tmp 0) _ rfl rfl ?_; clear S; intro g1 w S) | ((with_reducible refine iO _ (.load 5 _) ?_); refine step_load1 5 _ _ _ rfl (cL) _ Try.underlying5 rfl rfl ?_) | ((with_reducible refine iD 9 (.buildSlice 22 _ _) ?_); refine step_build81 S (.tmp 8) _ rfl rfl ?_; clear S; intro v9 w S) | ((with_reducible refine iO _ (.load 24 _) ?_); refine step_load1 24 _ _ _ rfl (cL) _ Try.underlying24 rfl rfl ?_) | (go_at_call 53; (with_reducible refine (N3.out _).mono ?_); rintro e w1 ⟨v126, rfl, T⟩; replace S := S.call T; clear T; (try simp only [z4, z5] at S)) | (go_at_call 53; (with_reducible refine (N5.out _).mono ?_); rintro e w1 ⟨v137, rfl, T⟩; replace S := S.call T; clear T; (try simp only [z4, z5] at S)) | (at_builtin; refine step_append8 S (.tmp 9) (.tmp 13) _ _ rfl pk _ _ rfl bS lE rfl ?_; clear S; intro v14 w S; (try simp only [z4] at S)) | ((with_reducible refine iO _ (.load 32 _) ?_); refine step_load1 32 _ _ _ rfl (cL) _ Try.underlying32 rfl rfl ?_) | (at_builtin; refine step_append8 S (.tmp 15) (.tmp 18) _ _ rfl pk _ _ rfl bS lE rfl ?_; clear S; intro v19 w S; (try simp only [z4] at S)) | ((with_reducible refine iO _ (.load 3 _) ?_); refine step_load1 3 _ _ _ rfl (cL) _ Try.underlying3 rfl rfl ?_) | (at_builtin; refine step_append8 S (.tmp 30) (.tmp 34) _ _ rfl pk _ _ rfl bS lE rfl ?_; clear S; intro v35 w S; (try simp only [z4] at S)) | ((with_reducible refine iD 41 (.buildSlice 22 _ _) ?_); refine step_build81 S (.tmp 40) _ rfl rfl ?_; clear S; intro v41 w S) | (at_builtin; refine step_append8 S (.tmp 38) (.tmp 41) _ _ rfl pk _ _ rfl bS lE rfl ?_; clear S; intro v42 w S; (try simp only [z4] at S)) | (at_builtin; refine step_append8 S (.tmp 43) (.tmp 46) _ _ rfl pk _ _ rfl bS lE rfl ?_; clear S; intro v47 w S; (try simp only [z4] at S)) | ((with_reducible refine iO _ (.load 50 _) ?_); refine step_load1 50 _ _ _ rfl (cL) _ Try.underlying50 rfl rfl ?_) | ((with_reducible refine iD 55 (.buildSlice 22 _ _) ?_); refine step_build81 S (.tmp 54) _ rfl rfl ?_; clear S; intro v55 w S) | (at_builtin; refine step_append8 S (.tmp 50) (.tmp 55) _ _ rfl pk _ _ rfl bS lE rfl ?_; clear S; intro v56 w S; (try simp only [z4] at S)) | ((with_reducible refine iD 78 (.buildSlice 22 _ _) ?_); refine step_build8 S 2 _ [_, _] (by first | rfl | kernel_rfl) rfl (by decide) rfl ?_; clear S; intro v78 w S) | (at_builtin; refine step_append8 S (.tmp 64) (.tmp 78) _ _ rfl pk _ _ rfl bS lE rfl ?_; clear S; intro v79 w S; (try simp only [z4] at S)) | (at_builtin; refine step_append8 S (.tmp 80) (.tmp 88) _ _ rfl pk _ _ rfl bS lE rfl ?_; clear S; intro v89 w S; (try simp only [z4] at S)) | ((with_reducible refine iD 94 (.buildSlice 22 _ _) ?_); refine step_build81 S (.tmp 93) _ rfl rfl ?_; clear S; intro v94 w S) | (at_builtin; refine step_append8 S (.tmp 90) (.tmp 94) _ _ rfl pk _ _ rfl bS lE rfl ?_; clear S; intro v95 w S; (try simp only [z4] at S)) | ((with_reducible refine iO _ (.load 33 _) ?_); refine step_load1 33 _ _ _ rfl (cL) _ Try.underlying33 rfl rfl ?_) | (at_builtin; refine step_append8 S (.tmp 98) (.tmp 102) _ _ rfl pk _ _ rfl bS lE rfl ?_; clear S; intro v103 w S; (try simp only [z4] at S)) | ((with_reducible refine iO _ (.load 51 _) ?_); refine step_load1 51 _ _ _ rfl (cL) _ Try.underlying51 rfl rfl ?_) | ((with_reducible refine iD 109 (.buildSlice 22 _ _) ?_); refine step_build81 S (.tmp 108) _ rfl rfl ?_; clear S; intro v109 w S) | (at_builtin; refine step_append8 S (.tmp 104) (.tmp 109) _ _ rfl pk _ _ rfl bS lE rfl ?_; clear S; intro v110 w S; (try simp only [z4] at S)) | ((with_reducible refine iO _ (.load 106 _) ?_); first | (refine step_loadR 106 _ _ _ rfl _ (S.old_range hy) _ Try.underlying106 rfl 35 kR lN _ rfl rfl ?_) | (refine step_loadP S 106 _ _ _ rfl _ _ _ pk 35 _ pT lN _ Try.underlying106 rfl kR rfl ?_)) | ((with_reducible refine iD 6 (.alloc 106) ?_); refine step_alloc (dst := some 6) S 106 (.agg ((rcdL rcdZ).toArray)) ((rcdL rcdZ).toArray) kR rfl rfl ?_; clear S; intro g6 w S) | ((with_reducible refine iO none (.store 106 (.tmp 6) (.tmp 122)) ?_); refine step_store S 106 (.tmp 6) (.tmp 122) _ _ rfl rfl _ _ pk 35 kR lN lN on1 rfl ?_; clear S; intro w S) | (at_builtin; refine step_append8 S (.tmp 123) (.tmp 126) _ _ rfl pk _ _ rfl bS lE rfl ?_; clear S; intro v127 w S; (try simp only [z4] at S)) | ((with_reducible refine iD 131 (.buildSlice 22 _ _) ?_); refine step_build81 S (.tmp 130) _ rfl rfl ?_; clear S; intro v131 w S) | (at_builtin; refine step_append8 S (.tmp 128) (.tmp 131) _ _ rfl pk _ _ rfl bS lE rfl ?_; clear S; intro v132 w S; (try simp only [z4] at S)) | (at_builtin; refine step_append8 S (.tmp 133) (.tmp 137) _ _ rfl pk _ _ rfl bS lE rfl ?_; clear S; intro v138 w S; (try simp only [z4] at S)) | ((with_reducible refine iO _ (.load 36 _) ?_); first | (refine step_loadR 36 _ _ _ rfl _ (S.old_range hy) _ Try.underlying36 rfl 36 kR lN _ rfl rfl ?_) | (refine step_loadP S 36 _ _ _ rfl _ _ _ pk 36 _ pT lN _ Try.underlying36 rfl kR rfl ?_)) | (at_builtin; refine step_append8 S (.tmp 145) (.tmp 148) _ _ rfl pk _ _ rfl bS lE rfl ?_; clear S; intro v149 w S; (try simp only [z4] at S)) | fail)
          go_roundw
          case rel => exact ⟨kk + 1, by omega, by go_num, by rw [HEND.out]; exact S.sub (by repeat (first | exact Sub.nil _ | refine Sub.cons pk ?_))⟩
          case measure => simp [intOf]; omega
        · obtain rfl : kk = nc := by omega
          have hki : ¬ (kk : Int) < (kk : Int) := by omega
          rw [List.take_of_length_le (by rw [← HNC.out]; exact Nat.le_refl _)] at S
          have hl3 := L3.out
          have hl4 := HLF2.out
          have hE := HE.out
          obtain ⟨Y, hY⟩ : ∃ Y, Y = X1 ++ l.flatMap rcdB := ⟨_, rfl⟩
          have hy : Y.length ≤ 1392 := by rw [hY, List.length_append]; omega
          rw [← hY] at hE S
          have pf := fun v w h => refFramed_s v Y w h (by omega)
          clear hY hy hl3 hl4 HE
          have HE := Lib.hid hE; have PF := Lib.hid pf; clear hE pf
          go_wp2_with (first | ((with_reducible refine iD 1 (.box 53 (.tmp 0)) ?_); refine step_boxA (dst := some 1) S 53 (.tmp 0) _ rfl rfl ?_; clear S; intro g1 w S) | ((with_reducible refine iO _ (.load 5 _) ?_); refine step_load1 5 _ _ _ rfl (cL) _ Try.underlying5 rfl rfl ?_) | ((with_reducible refine iD 9 (.buildSlice 22 _ _) ?_); refine step_build81 S (.tmp 8) _ rfl rfl ?_; clear S; intro v9 w S) | ((with_reducible refine iO _ (.load 24 _) ?_); refine step_load1 24 _ _ _ rfl (cL) _ Try.underlying24 rfl rfl ?_) | (at_builtin; refine step_append8 S (.tmp 9) (.tmp 13) _ _ rfl pk _ _ rfl bS lE rfl ?_; clear S; intro v14 w S; (try simp only [z4] at S)) | ((with_reducible refine iO _ (.load 32 _) ?_); refine step_load1 32 _ _ _ rfl (cL) _ Try.underlying32 rfl rfl ?_) | (at_builtin; refine step_append8 S (.tmp 15) (.tmp 18) _ _ rfl pk _ _ rfl bS lE rfl ?_; clear S; intro v19 w S; (try simp only [z4] at S)) | (go_at_call 54; (with_reducible refine (PF.out _ _ bS).mono ?_); rintro e w1 ⟨v151, rfl, T⟩; replace S := S.call T; clear T; (try simp only [z4, z5] at S)) | ((with_reducible refine iO _ (.load 3 _) ?_); refine step_load1 3 _ _ _ rfl (cL) _ Try.underlying3 rfl rfl ?_) | (at_builtin; refine step_append8 S (.tmp 30) (.tmp 34) _ _ rfl pk _ _ rfl bS lE rfl ?_; clear S; intro v35 w S; (try simp only [z4] at S)) | ((with_reducible refine iD 41 (.buildSlice 22 _ _) ?_); refine step_build81 S (.tmp 40) _ rfl rfl ?_; clear S; intro v41 w S) | (at_builtin; refine step_append8 S (.tmp 38) (.tmp 41) _ _ rfl pk _ _ rfl bS lE rfl ?_; clear S; intro v42 w S; (try simp only [z4] at S)) | (at_builtin; refine step_append8 S (.tmp 43) (.tmp 46) _ _ rfl pk _ _ rfl bS lE rfl ?_; clear S; intro v47 w S; (try simp only [z4] at S)) | ((with_reducible refine iO _ (.load 50 _) ?_); refine step_load1 50 _ _ _ rfl (cL) _ Try.underlying50 rfl rfl ?_) | ((with_reducible refine iD 55 (.buildSlice 22 _ _) ?_); refine step_build81 S (.tmp 54) _ rfl rfl ?_; clear S; intro v55 w S) | (at_builtin; refine step_append8 S (.tmp 50) (.tmp 55) _ _ rfl pk _ _ rfl bS lE rfl ?_; clear S; intro v56 w S; (try simp only [z4] at S)) | ((with_reducible refine iD 78 (.buildSlice 22 _ _) ?_); refine step_build8 S 2 _ [_, _] (by first | rfl | kernel_rfl) rfl (by decide) rfl ?_; clear S; intro v78 w S) | (at_builtin; refine step_append8 S (.tmp 64) (.tmp 78) _ _ rfl pk _ _ rfl bS lE rfl ?_; clear S; intro v79 w S; (try simp only [z4] at S)) | (at_builtin; refine step_append8 S (.tmp 80) (.tmp 88) _ _ rfl pk _ _ rfl bS lE rfl ?_; clear S; intro v89 w S; (try simp only [z4] at S)) | ((with_reducible refine iD 94 (.buildSlice 22 _ _) ?_); refine step_build81 S (.tmp 93) _ rfl rfl ?_; clear S; intro v94 w S) | (at_builtin; refine step_append8 S (.tmp 90) (.tmp 94) _ _ rfl pk _ _ rfl bS lE rfl ?_; clear S; intro v95 w S; (try simp only [z4] at S)) | ((with_reducible refine iO _ (.load 33 _) ?_); refine step_load1 33 _ _ _ rfl (cL) _ Try.underlying33 rfl rfl ?_) | (at_builtin; refine step_append8 S (.tmp 98) (.tmp 102) _ _ rfl pk _ _ rfl bS lE rfl ?_; clear S; intro v103 w S; (try simp only [z4] at S)) | ((with_reducible refine iO _ (.load 51 _) ?_); refine step_load1 51 _ _ _ rfl (cL) _ Try.underlying51 rfl rfl ?_) | ((with_reducible refine iD 109 (.buildSlice 22 _ _) ?_); refine step_build81 S (.tmp 108) _ rfl rfl ?_; clear S; intro v109 w S) | (at_builtin; refine step_append8 S (.tmp 104) (.tmp 109) _ _ rfl pk _ _ rfl bS lE rfl ?_; clear S; intro v110 w S; (try simp only [z4] at S)) | ((with_reducible refine iO _ (.load 106 _) ?_); first | (refine step_loadR 106 _ _ _ rfl _ (S.old_range hy) _ Try.underlying106 rfl 35 kR lN _ rfl rfl ?_) | (refine step_loadP S 106 _ _ _ rfl _ _ _ pk 35 _ pT lN _ Try.underlying106 rfl kR rfl ?_)) | ((with_reducible refine iD 6 (.alloc 106) ?_); refine step_alloc (dst := some 6) S 106 (.agg ((rcdL rcdZ).toArray)) ((rcdL rcdZ).toArray) kR rfl rfl ?_; clear S; intro g6 w S) | ((with_reducible refine iO none (.store 106 (.tmp 6) (.tmp 122)) ?_); refine step_store S 106 (.tmp 6) (.tmp 122) _ _ rfl rfl _ _ pk 35 kR lN lN on1 rfl ?_; clear S; intro w S) | (at_builtin; refine step_append8 S (.tmp 123) (.tmp 126) _ _ rfl pk _ _ rfl bS lE rfl ?_; clear S; intro v127 w S; (try simp only [z4] at S)) | ((with_reducible refine iD 131 (.buildSlice 22 _ _) ?_); refine step_build81 S (.tmp 130) _ rfl rfl ?_; clear S; intro v131 w S) | (at_builtin; refine step_append8 S (.tmp 128) (.tmp 131) _ _ rfl pk _ _ rfl bS lE rfl ?_; clear S; intro v132 w S; (try simp only [z4] at S)) | (at_builtin; refine step_append8 S (.tmp 133) (.tmp 137) _ _ rfl pk _ _ rfl bS lE rfl ?_; clear S; intro v138 w S; (try simp only [z4] at S)) | (at_builtin; refine step_append8 S (.tmp 139) (.tmp 141) _ _ rfl pk _ _ rfl bS lE rfl ?_; clear S; intro v142 w S; (try simp only [z4] at S)) | ((with_reducible refine iO _ (.load 36 _) ?_); first | (refine step_loadR 36 _ _ _ rfl _ (S.old_range hy) _ Try.underlying36 rfl 36 kR lN _ rfl rfl ?_) | (refine step_loadP S 36 _ _ _ rfl _ _ _ pk 36 _ pT lN _ Try.underlying36 rfl kR rfl ?_)) | (at_builtin; refine step_append8 S (.tmp 145) (.tmp 148) _ _ rfl pk _ _ rfl bS lE rfl ?_; clear S; intro v149 w S; (try simp only [z4] at S)) | fail)
          go_ret
          rw [HE.out]
          exact ⟨_, rfl, S.sub (by repeat (first | exact Sub.nil _ | refine Sub.cons pk ?_))⟩
    · have hE := HE.out
      rw [hq, show rpBK .t r = encT r.tok from rfl] at hE
      have dt := DT.out
      obtain ⟨tk, htk⟩ : ∃ t, t = r.tok := ⟨_, rfl⟩
      rw [← htk] at hE dt
      have n3 := fun w => refEnc_s tk w
      have lz := encT_length tk
      obtain ⟨Z, hZ⟩ : ∃ Z, Z = encT tk := ⟨_, rfl⟩
      rw [← hZ] at hE lz n3
      have h1 : H.length + Z.length ≤ 140737488355328 := by rw [L1.out, lz]; decide
      have pf := fun v w h => refFramed_s v (H ++ Z) w h (by rw [List.length_append, L1.out, lz]; decide)
      clear hq HE HB DT hZ htk lz
      have HE := Lib.hid hE; have PF := Lib.hid pf; have DT := Lib.hid dt; have N3 := Lib.hid n3; have H1 := Lib.hid h1; clear hE pf dt n3 h1
      go_wp2_with (first | ((with_reducible refine iD 147 (.load 36 (.tmp 146)) ?_); refine step_loadP S 36 (.tmp 146) _ _ rfl _ _ _ pk 36 _ DT.out (tokL_size tk) _ Try.underlying36 rfl kR gw ?_) | ((with_reducible refine iD 1 (.box 53 (.tmp 0)) ?_); refine step_boxA (dst := some 1) S 53 (.tmp 0) _ rfl rfl ?_; clear S; intro g1 w S) | ((with_reducible refine iO _ (.load 5 _) ?_); refine step_load1 5 _ _ _ rfl (cL) _ Try.underlying5 rfl rfl ?_) | ((with_reducible refine iD 9 (.buildSlice 22 _ _) ?_); refine step_build81 S (.tmp 8) _ rfl rfl ?_; clear S; intro v9 w S) | ((with_reducible refine iO _ (.load 24 _) ?_); refine step_load1 24 _ _ _ rfl (cL) _ Try.underlying24 rfl rfl ?_) | (at_builtin; refine step_append8 S (.tmp 9) (.tmp 13) _ _ rfl pk _ _ rfl bS lE rfl ?_; clear S; intro v14 w S; (try simp only [z4] at S)) | ((with_reducible refine iO _ (.load 32 _) ?_); refine step_load1 32 _ _ _ rfl (cL) _ Try.underlying32 rfl rfl ?_) | (at_builtin; refine step_append8 S (.tmp 15) (.tmp 18) _ _ rfl pk _ _ rfl bS lE rfl ?_; clear S; intro v19 w S; (try simp only [z4] at S)) | (go_at_call 54; (with_reducible refine (PF.out _ _ bS).mono ?_); rintro e w1 ⟨v151, rfl, T⟩; replace S := S.call T; clear T; (try simp only [z4, z5] at S)) | ((with_reducible refine iO _ (.load 3 _) ?_); refine step_load1 3 _ _ _ rfl (cL) _ Try.underlying3 rfl rfl ?_) | (at_builtin; refine step_append8 S (.tmp 30) (.tmp 34) _ _ rfl pk _ _ rfl bS lE rfl ?_; clear S; intro v35 w S; (try simp only [z4] at S)) | ((with_reducible refine iD 41 (.buildSlice 22 _ _) ?_); refine step_build81 S (.tmp 40) _ rfl rfl ?_; clear S; intro v41 w S) | (at_builtin; refine step_append8 S (.tmp 38) (.tmp 41) _ _ rfl pk _ _ rfl bS lE rfl ?_; clear S; intro v42 w S; (try simp only [z4] at S)) | (at_builtin; refine step_append8 S (.tmp 43) (.tmp 46) _ _ rfl pk _ _ rfl bS lE rfl ?_; clear S; intro v47 w S; (try simp only [z4] at S)) | ((with_reducible refine iO _ (.load 50 _) ?_); refine step_load1 50 _ _ _ rfl (cL) _ Try.underlying50 rfl rfl ?_) | ((with_reducible refine iD 55 (.buildSlice 22 _ _) ?_); refine step_build81 S (.tmp 54) _ rfl rfl ?_; clear S; intro v55 w S) | (at_builtin; refine step_append8 S (.tmp 50) (.tmp 55) _ _ rfl pk _ _ rfl bS lE rfl ?_; clear S; intro v56 w S; (try simp only [z4] at S)) | ((with_reducible refine iD 78 (.buildSlice 22 _ _) ?_); refine step_build8 S 2 _ [_, _] (by first | rfl | kernel_rfl) rfl (by decide) rfl ?_; clear S; intro v78 w S) | (at_builtin; refine step_append8 S (.tmp 64) (.tmp 78) _ _ rfl pk _ _ rfl bS lE rfl ?_; clear S; intro v79 w S; (try simp only [z4] at S)) | (at_builtin; refine step_append8 S (.tmp 80) (.tmp 88) _ _ rfl pk _ _ rfl bS lE rfl ?_; clear S; intro v89 w S; (try simp only [z4] at S)) | ((with_reducible refine iD 94 (.buildSlice 22 _ _) ?_); refine step_build81 S (.tmp 93) _ rfl rfl ?_; clear S; intro v94 w S) | (at_builtin; refine step_append8 S (.tmp 90) (.tmp 94) _ _ rfl pk _ _ rfl bS lE rfl ?_; clear S; intro v95 w S; (try simp only [z4] at S)) | ((with_reducible refine iO _ (.load 33 _) ?_); refine step_load1 33 _ _ _ rfl (cL) _ Try.underlying33 rfl rfl ?_) | (at_builtin; refine step_append8 S (.tmp 98) (.tmp 102) _ _ rfl pk _ _ rfl bS lE rfl ?_; clear S; intro v103 w S; (try simp only [z4] at S)) | ((with_reducible refine iO _ (.load 51 _) ?_); refine step_load1 51 _ _ _ rfl (cL) _ Try.underlying51 rfl rfl ?_) | ((with_reducible refine iD 109 (.buildSlice 22 _ _) ?_); refine step_build81 S (.tmp 108) _ rfl rfl ?_; clear S; intro v109 w S) | (at_builtin; refine step_append8 S (.tmp 104) (.tmp 109) _ _ rfl pk _ _ rfl bS lE rfl ?_; clear S; intro v110 w S; (try simp only [z4] at S)) | ((with_reducible refine iO _ (.load 106 _) ?_); first | (refine step_loadR 106 _ _ _ rfl _ (S.old_range hy) _ Try.underlying106 rfl 35 kR lN _ rfl rfl ?_) | (refine step_loadP S 106 _ _ _ rfl _ _ _ pk 35 _ pT lN _ Try.underlying106 rfl kR rfl ?_)) | ((with_reducible refine iD 6 (.alloc 106) ?_); refine step_alloc (dst := some 6) S 106 (.agg ((rcdL rcdZ).toArray)) ((rcdL rcdZ).toArray) kR rfl rfl ?_; clear S; intro g6 w S) | ((with_reducible refine iO none (.store 106 (.tmp 6) (.tmp 122)) ?_); refine step_store S 106 (.tmp 6) (.tmp 122) _ _ rfl rfl _ _ pk 35 kR lN lN on1 rfl ?_; clear S; intro w S) | (at_builtin; refine step_append8 S (.tmp 123) (.tmp 126) _ _ rfl pk _ _ rfl bS lE rfl ?_; clear S; intro v127 w S; (try simp only [z4] at S)) | ((with_reducible refine iD 131 (.buildSlice 22 _ _) ?_); refine step_build81 S (.tmp 130) _ rfl rfl ?_; clear S; intro v131 w S) | (at_builtin; refine step_append8 S (.tmp 128) (.tmp 131) _ _ rfl pk _ _ rfl bS lE rfl ?_; clear S; intro v132 w S; (try simp only [z4] at S)) | (at_builtin; refine step_append8 S (.tmp 133) (.tmp 137) _ _ rfl pk _ _ rfl bS lE rfl ?_; clear S; intro v138 w S; (try simp only [z4] at S)) | (at_builtin; refine step_append8 S (.tmp 139) (.tmp 141) _ _ rfl pk _ _ rfl bS lE rfl ?_; clear S; intro v142 w S; (try simp only [z4] at S)) | (go_at_call 52; (with_reducible refine (N3.out _).mono ?_); rintro e w1 ⟨v148, rfl, T⟩; replace S := S.call T; clear T; (try simp only [z4, z5] at S)) | (at_builtin; refine step_append8 S (.tmp 145) (.tmp 148) _ _ rfl pk _ _ rfl bS lE rfl ?_; clear S; intro v149 w S; (try simp only [z4] at S)) | fail)
      go_ret
      rw [HE.out]
      exact ⟨_, rfl, S.sub (by repeat (first | exact Sub.nil _ | refine Sub.cons pk ?_))⟩
    · have hE := HE.out
      rw [hq, show rpBK .n r = [] from rfl, List.append_nil] at hE
      have pf := fun v w h => refFramed_s v H w h (by rw [L1.out]; decide)
      clear hq HE
      have HE := Lib.hid hE; have PF := Lib.hid pf; clear hE pf
      go_wp2_with (first | ((with_reducible refine iD 1 (.box 53 (.tmp 0)) ?_); refine step_boxA (dst := some 1) S 53 (.tmp 0) _ rfl rfl ?_; clear S; intro g1 w S) | ((with_reducible refine iO _ (.load 5 _) ?_); refine step_load1 5 _ _ _ rfl (cL) _ Try.underlying5 rfl rfl ?_) | ((with_reducible refine iD 9 (.buildSlice 22 _ _) ?_); refine step_build81 S (.tmp 8) _ rfl rfl ?_; clear S; intro v9 w S) | ((with_reducible refine iO _ (.load 24 _) ?_); refine step_load1 24 _ _ _ rfl (cL) _ Try.underlying24 rfl rfl ?_) | (at_builtin; refine step_append8 S (.tmp 9) (.tmp 13) _ _ rfl pk _ _ rfl bS lE rfl ?_; clear S; intro v14 w S; (try simp only [z4] at S)) | ((with_reducible refine iO _ (.load 32 _) ?_); refine step_load1 32 _ _ _ rfl (cL) _ Try.underlying32 rfl rfl ?_) | (at_builtin; refine step_append8 S (.tmp 15) (.tmp 18) _ _ rfl pk _ _ rfl bS lE rfl ?_; clear S; intro v19 w S; (try simp only [z4] at S)) | (go_at_call 54; (with_reducible refine (PF.out _ _ bS).mono ?_); rintro e w1 ⟨v151, rfl, T⟩; replace S := S.call T; clear T; (try simp only [z4, z5] at S)) | ((with_reducible refine iO _ (.load 3 _) ?_); refine step_load1 3 _ _ _ rfl (cL) _ Try.underlying3 rfl rfl ?_) | (at_builtin; refine step_append8 S (.tmp 30) (.tmp 34) _ _ rfl pk _ _ rfl bS lE rfl ?_; clear S; intro v35 w S; (try simp only [z4] at S)) | ((with_reducible refine iD 41 (.buildSlice 22 _ _) ?_); refine step_build81 S (.tmp 40) _ rfl rfl ?_; clear S; intro v41 w S) | (at_builtin; refine step_append8 S (.tmp 38) (.tmp 41) _ _ rfl pk _ _ rfl bS lE rfl ?_; clear S; intro v42 w S; (try simp only [z4] at S)) | (at_builtin; refine step_append8 S (.tmp 43) (.tmp 46) _ _ rfl pk _ _ rfl bS lE rfl ?_; clear S; intro v47 w S; (try simp only [z4] at S)) | ((with_reducible refine iO _ (.load 50 _) ?_); refine step_load1 50 _ _ _ rfl (cL) _ Try.underlying50 rfl rfl ?_) | ((with_reducible refine iD 55 (.buildSlice 22 _ _) ?_); refine step_build81 S (.tmp 54) _ rfl rfl ?_; clear S; intro v55 w S) | (at_builtin; refine step_append8 S (.tmp 50) (.tmp 55) _ _ rfl pk _ _ rfl bS lE rfl ?_; clear S; intro v56 w S; (try simp only [z4] at S)) | ((with_reducible refine iD 78 (.buildSlice 22 _ _) ?_); refine step_build8 S 2 _ [_, _] (by first | rfl | kernel_rfl) rfl (by decide) rfl ?_; clear S; intro v78 w S) | (at_builtin; refine step_append8 S (.tmp 64) (.tmp 78) _ _ rfl pk _ _ rfl bS lE rfl ?_; clear S; intro v79 w S; (try simp only [z4] at S)) | (at_builtin; refine step_append8 S (.tmp 80) (.tmp 88) _ _ rfl pk _ _ rfl bS lE rfl ?_; clear S; intro v89 w S; (try simp only [z4] at S)) | ((with_reducible refine iD 94 (.buildSlice 22 _ _) ?_); refine step_build81 S (.tmp 93) _ rfl rfl ?_; clear S; intro v94 w S) | (at_builtin; refine step_append8 S (.tmp 90) (.tmp 94) _ _ rfl pk _ _ rfl bS lE rfl ?_; clear S; intro v95 w S; (try simp only [z4] at S)) | ((with_reducible refine iO _ (.load 33 _) ?_); refine step_load1 33 _ _ _ rfl (cL) _ Try.underlying33 rfl rfl ?_) | (at_builtin; refine step_append8 S (.tmp 98) (.tmp 102) _ _ rfl pk _ _ rfl bS lE rfl ?_; clear S; intro v103 w S; (try simp only [z4] at S)) | ((with_reducible refine iO _ (.load 51 _) ?_); refine step_load1 51 _ _ _ rfl (cL) _ Try.underlying51 rfl rfl ?_) | ((with_reducible refine iD 109 (.buildSlice 22 _ _) ?_); refine step_build81 S (.tmp 108) _ rfl rfl ?_; clear S; intro v109 w S) | (at_builtin; refine step_append8 S (.tmp 104) (.tmp 109) _ _ rfl pk _ _ rfl bS lE rfl ?_; clear S; intro v110 w S; (try simp only [z4] at S)) | ((with_reducible refine iO _ (.load 106 _) ?_); first | (refine step_loadR 106 _ _ _ rfl _ (S.old_range hy) _ Try.underlying106 rfl 35 kR lN _ rfl rfl ?_) | (refine step_loadP S 106 _ _ _ rfl _ _ _ pk 35 _ pT lN _ Try.underlying106 rfl kR rfl ?_)) | ((with_reducible refine iD 6 (.alloc 106) ?_); refine step_alloc (dst := some 6) S 106 (.agg ((rcdL rcdZ).toArray)) ((rcdL rcdZ).toArray) kR rfl rfl ?_; clear S; intro g6 w S) | ((with_reducible refine iO none (.store 106 (.tmp 6) (.tmp 122)) ?_); refine step_store S 106 (.tmp 6) (.tmp 122) _ _ rfl rfl _ _ pk 35 kR lN lN on1 rfl ?_; clear S; intro w S) | (at_builtin; refine step_append8 S (.tmp 123) (.tmp 126) _ _ rfl pk _ _ rfl bS lE rfl ?_; clear S; intro v127 w S; (try simp only [z4] at S)) | ((with_reducible refine iD 131 (.buildSlice 22 _ _) ?_); refine step_build81 S (.tmp 130) _ rfl rfl ?_; clear S; intro v131 w S) | (at_builtin; refine step_append8 S (.tmp 128) (.tmp 131) _ _ rfl pk _ _ rfl bS lE rfl ?_; clear S; intro v132 w S; (try simp only [z4] at S)) | (at_builtin; refine step_append8 S (.tmp 133) (.tmp 137) _ _ rfl pk _ _ rfl bS lE rfl ?_; clear S; intro v138 w S; (try simp only [z4] at S)) | (at_builtin; refine step_append8 S (.tmp 139) (.tmp 141) _ _ rfl pk _ _ rfl bS lE rfl ?_; clear S; intro v142 w S; (try simp only [z4] at S)) | ((with_reducible refine iO _ (.load 36 _) ?_); first | (refine step_loadR 36 _ _ _ rfl _ (S.old_range hy) _ Try.underlying36 rfl 36 kR lN _ rfl rfl ?_) | (refine step_loadP S 36 _ _ _ rfl _ _ _ pk 36 _ pT lN _ Try.underlying36 rfl kR rfl ?_)) | (at_builtin; refine step_append8 S (.tmp 145) (.tmp 148) _ _ rfl pk _ _ rfl bS lE rfl ?_; clear S; intro v149 w S; (try simp only [z4] at S)) | fail)
      go_ret
      rw [HE.out]
      exact ⟨_, rfl, S.sub (by repeat (first | exact Sub.nil _ | refine Sub.cons pk ?_))⟩
end Go.Proofs.Ytfhkmmagpnojmaa
