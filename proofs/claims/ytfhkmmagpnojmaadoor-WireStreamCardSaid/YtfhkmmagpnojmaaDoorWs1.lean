/- WireStream's walk. No condition but the table of constants and the reach. -/
import Derived.Test.YtfhkmmagpnojmaaDoorBd
import Derived.Test.YtfhkmmagpnojmaaDoorAlv7
import Derived.Test.YtfhkmmagpnojmaaDoorSpN
import Derived.Test.YtfhkmmagpnojmaaDoorRelyT
set_option linter.unusedSimpArgs false
set_option linter.unusedVariables false
namespace Go.Proofs.YtfhkmmagpnojmaaDoor
open Go.RowKit

set_option maxRecDepth 100000 in
set_option maxHeartbeats 8000000 in
theorem wireStream_walk (fv : Value) (qs : List (Value × List UInt8)) (w0 : World) (hf : Fr w0 fv qs) (hK : KT w0) :
    Calls Tryd.prog 7 #[fv] w0 fun e w' => e = .returned (.bool true) ∧ Has w0 w' [] := by
  have S := Has.start w0
  obtain ⟨a0, c0, rfl, k1, k2⟩ := Sl.shape hf.1
  unfold maxLen at k2
  have pa := fun w h => alive_s w h
  obtain ⟨N, hN⟩ : ∃ N, N = qs.length := ⟨_, rfl⟩
  have hN0 := hN
  rw [← hN] at k1 ⊢
  have HF := Lib.hid hf; have PA := Lib.hid pa; have HK := Lib.hid hK; have HN0 := Lib.hid hN0; clear hf pa hK hN0
  clear hN
  go_enter Tryd.func7, Tryd.ntmps7
  go_wp2_with (first | (go_at_call 29; (with_reducible refine (PA.out _ kT).mono ?_); rintro e w1 ⟨rfl, T⟩; replace S := S.call T; clear T; (try simp only [z4, z5] at S)) | ((with_reducible refine iO _ (.load 25 _) ?_); refine step_load1 25 _ _ _ rfl (cL) _ Tryd.underlying25 rfl gw ?_) | ((with_reducible refine iD 38 (.buildSlice 25 0 _) ?_); refine step_build8 S 0 _ [] (by first | rfl | kernel_rfl) rfl (by decide) gw ?_; clear S; intro v38 w S) | ((with_reducible refine iO _ (.convert 25 9 _) ?_); refine step_conv 25 9 5 _ _ _ rfl Tryd.underlying25 Tryd.underlying5 Tryd.underlying9 bS gw ?_) | fail)
  go_loopw [4, 5, 6, 7] (fun v4 v5 v6 u wr => ∃ (k : Nat) (T : List UInt8) (ps : List (Value × List UInt8)), k ≤ N ∧ u = .int .i64 (k : Int) ∧ T.length ≤ 4096 ∧ ps.map (·.2) = (splitB T).1 ∧ Has w0 wr [row8 v4 T, row8 v5 (splitB T).2, rowH v6 (ps.map (·.1)), allF ps]) (fun _ _ _ u _ => N - (intOf u).toNat)
  case atStart =>
    refine ⟨0, [], [], Nat.zero_le _, rfl, by decide, by rw [split_stop [] (.inl (by decide))]; rfl, ?_⟩
    rw [split_stop [] (.inl (by decide))]
    exact S.nilA.nilH.nil8.nil8
  case round =>
    clear S
    obtain ⟨k, T, ps, hk, rfl, hT, hps, S⟩ := hrel
    obtain ⟨a4, c4, rfl, _, _⟩ := Sl.shape (S.bs (v := u4) (xs := T) pk)
    have hcT := split_count T
    have hwT := (split_whole T).2.2.1
    have hbig := fun p2 => splitB_app T p2
    obtain ⟨R, hR⟩ : ∃ R, R = (splitB T).2 := ⟨_, rfl⟩
    obtain ⟨FF, hFF⟩ : ∃ F, F = (splitB T).1 := ⟨_, rfl⟩
    rw [← hR] at S hwT hbig
    rw [← hFF] at hps hcT hbig
    by_cases hlt : k < N
    · have hki : (k : Int) < (N : Int) := by omega
      have hki2 : (k : Int) < 9223372036854775807 := by omega
      have hkp : k < qs.length := by rw [← HN0.out]; exact hlt
      obtain ⟨b, off, rfl, hcell⟩ := HF.out.1.atA (by omega)
      obtain ⟨p, hpe⟩ : ∃ p, qs[k]? = some p := ⟨_, List.getElem?_eq_getElem hkp⟩
      have hpm := List.mem_of_getElem? hpe
      have hcp := hcell k p.1 (by rw [List.getElem?_map, hpe]; rfl)
      have hbp := HF.out.2 p hpm
      obtain ⟨p1, p2⟩ := p
      dsimp only at hcp hbp
      obtain ⟨ap, cp, rfl, _, _⟩ := Sl.shape hbp
      have e1 : IntKind.i64.wrap (4096 - (T.length : Int)) = 4096 - (T.length : Int) := by rw [IntKind.wrap_i64]; omega
      by_cases h64 : 4096 - (T.length : Int) < (p2.length : Int)
      · have HCP := Lib.hid hcp; have HBP := Lib.hid hbp; have HBIG := Lib.hid hbig; have HPS := Lib.hid hps; have HCT := Lib.hid hcT; have HWT := Lib.hid hwT; clear hcp hbp hbig hps hcT hwT
        clear hcell hpe hpm hT hFF hR
        go_wp2_with (first | ((with_reducible refine iO _ (.load 25 _) ?_); refine step_load1 25 _ _ _ rfl (cL) _ Tryd.underlying25 rfl gw ?_) | ((with_reducible refine iD 38 (.buildSlice 25 0 _) ?_); refine step_build8 S 0 _ [] (by first | rfl | kernel_rfl) rfl (by decide) gw ?_; clear S; intro v38 w S) | ((with_reducible refine iO _ (.convert 25 9 _) ?_); refine step_conv 25 9 5 _ _ _ rfl Tryd.underlying25 Tryd.underlying5 Tryd.underlying9 bS gw ?_) | fail)
        go_ret
        exact ⟨rfl, S.nil⟩
      · have hbig2 := hbig p2
        have hl2 : R.length + p2.length ≤ 4160 := by omega
        have l0 : T.length + p2.length ≤ 140737488355328 := by omega
        have l1 : ([] : List UInt8).length + R.length ≤ 140737488355328 := by simp; omega
        have l2 : R.length + p2.length ≤ 140737488355328 := by omega
        have hT2 : (T ++ p2).length ≤ 4096 := by rw [List.length_append]; omega
        have p3 := fun v w h => split_a v (R ++ p2) w h (by rw [List.length_append]; omega)
        have hc2 := split_count (R ++ p2)
        have hcl : ps.length ≤ 4096 := by
          have := congrArg List.length hps
          rw [List.length_map] at this
          omega
        obtain ⟨Z, hZ⟩ : ∃ Z, Z = splitB (R ++ p2) := ⟨_, rfl⟩
        rw [← hZ] at p3 hbig2 hc2
        have hZl : Z.1.length ≤ 4160 := by
          have := hc2.1
          rw [List.length_append] at this
          omega
        obtain ⟨Z1, Z2⟩ := Z
        dsimp only at hZl hbig2
        clear hcell hpe hpm hT hFF hR hbig hcT hwT hl2 hc2 hZ
        have HCP := Lib.hid hcp; have HBP := Lib.hid hbp; have HPS := Lib.hid hps; have HBIG2 := Lib.hid hbig2; have L0 := Lib.hid l0; have L1 := Lib.hid l1; have L2 := Lib.hid l2; have HT2 := Lib.hid hT2; have P3 := Lib.hid p3; have HCL := Lib.hid hcl; have HZL := Lib.hid hZl; clear hcp hbp hps hbig2 l0 l1 l2 hT2 p3 hcl hZl
        go_upto_region 10 with (first | (at_builtin; refine step_append8 S (.tmp 31) (.tmp 35) _ T rfl pk _ p2 rfl (S.oldB HBP.out) L0.out gw ?_; clear S; intro v36 w S) | ((with_reducible refine iO _ (.load 25 _) ?_); refine step_load1 25 _ _ _ rfl (cL) _ Tryd.underlying25 rfl gw ?_) | ((with_reducible refine iD 38 (.buildSlice 25 0 _) ?_); refine step_build8 S 0 _ [] (by first | rfl | kernel_rfl) rfl (by decide) gw ?_; clear S; intro v38 w S) | ((with_reducible refine iO _ (.convert 25 9 _) ?_); refine step_conv 25 9 5 _ _ _ rfl Tryd.underlying25 Tryd.underlying5 Tryd.underlying9 bS gw ?_) | fail)
        refine wp_relyT S [⟨[], [], [], fun _ v => ∃ y, v = y, fun _ v => [row8 v []]⟩, ⟨[], [], [], fun _ v => v = (u5), fun _ v => []⟩, ⟨[0, 1], [0], [], fun _ v => ∃ y, v = y, fun _ v => [row8 v R]⟩, ⟨[], [], [], fun _ v => v = (.slice (some ⟨b, off, none⟩) N c0), fun _ v => []⟩, ⟨[], [], [], fun _ v => v = (.int .i64 (k : Int)), fun _ v => []⟩, ⟨[3, 4], [], [], fun _ v => v = .pointer (some ⟨b, off + k, none⟩), fun _ v => []⟩, ⟨[3, 4, 5], [], [], fun _ v => v = .slice ap p2.length cp, fun _ v => []⟩, ⟨[0, 1, 2, 3, 4, 5, 6], [2], [], fun _ v => ∃ y, v = y, fun _ v => [row8 v (R ++ p2)]⟩] ?A1 ?hA1 kR kR kR [1, 3, 4, 5, 6, 7] kR ?hok1 ?fin1
        case hA1 => intro u; simp only [putAll, List.length_cons, List.length_nil, Nat.zero_add, Nat.reduceAdd, dstAt, List.getElem?_toArray, List.getElem?_cons_zero, List.getElem?_cons_succ, Option.bind_some, Act.put, List.setIfInBounds_toArray, List.set_cons_zero, List.set_cons_succ]; rfl
        case hok1 =>
          intro i hi
          obtain rfl | rfl | rfl | rfl | rfl | rfl | rfl | rfl : i = 0 ∨ i = 1 ∨ i = 2 ∨ i = 3 ∨ i = 4 ∨ i = 5 ∨ i = 6 ∨ i = 7 := by simp only [List.length_cons, List.length_nil, Nat.zero_add, Nat.reduceAdd] at hi; omega
          · clear hi
            refine step_of rfl rfl rfl ?_
            intro u G w hf S
            simp only [resOf, spec, RSpec.resAt, z0, z1, z2, z3, z4, z5, z6, z7, ptrBlk] at S ⊢
            refine does_build0 S 25 5 Tryd.underlying25 1 kR ?_; intro y w1 S; exact ⟨⟨y, rfl⟩, S⟩
          · clear hi
            refine step_of rfl rfl rfl ?_
            intro u G w hf S
            simp only [resOf, spec, RSpec.resAt, z0, z1, z2, z3, z4, z5, z6, z7, ptrBlk] at S ⊢
            simp only [does]
            go_simp
            try first | exact S | exact ⟨vv, S⟩ | exact vv
          · clear hi
            refine step_of rfl rfl rfl ?_
            intro u G w hf S
            have f0 : ∃ y, u 0 = y := hf 0 (by simp)
            obtain ⟨y38, f0⟩ := f0
            have f1 : u 1 = (u5) := hf 1 (by simp)
            simp only [resOf, spec, RSpec.resAt, z0, z1, z2, z3, z4, z5, z6, z7, ptrBlk] at S ⊢
            simp only [f0, f1] at S ⊢
            try simp only [ptrBlk] at S
            refine does_append8 (.tmp 38) (.tmp 39) y38 [] rfl S u5 R rfl (S.bs (v := u5) pk) L1.out ?_; intro y w1 S; exact ⟨⟨y, rfl⟩, S⟩
          · clear hi
            refine step_of rfl rfl rfl ?_
            intro u G w hf S
            simp only [resOf, spec, RSpec.resAt, z0, z1, z2, z3, z4, z5, z6, z7, ptrBlk] at S ⊢
            simp only [does]
            go_simp
            try first | exact S | exact ⟨vv, S⟩ | exact vv
          · clear hi
            refine step_of rfl rfl rfl ?_
            intro u G w hf S
            simp only [resOf, spec, RSpec.resAt, z0, z1, z2, z3, z4, z5, z6, z7, ptrBlk] at S ⊢
            simp only [does]
            go_simp
            try first | exact S | exact ⟨vv, S⟩ | exact vv
          · clear hi
            refine step_of rfl rfl rfl ?_
            intro u G w hf S
            have f3 : u 3 = (.slice (some ⟨b, off, none⟩) N c0) := hf 3 (by simp)
            have f4 : u 4 = (.int .i64 (k : Int)) := hf 4 (by simp)
            simp only [resOf, spec, RSpec.resAt, z0, z1, z2, z3, z4, z5, z6, z7, ptrBlk] at S ⊢
            simp only [f3, f4]
            simp only [does]
            go_simp
            try first | exact S | exact ⟨vv, S⟩ | exact vv
          · clear hi
            refine step_of rfl rfl rfl ?_
            intro u G w hf S
            have f5 : u 5 = .pointer (some ⟨b, off + k, none⟩) := hf 5 (by simp)
            simp only [resOf, spec, RSpec.resAt, z0, z1, z2, z3, z4, z5, z6, z7, ptrBlk] at S ⊢
            simp only [f5]
            refine does_load1 25 (.tmp 43) _ _ rfl (S.old_cell hy) _ Tryd.underlying25 rfl ?_; exact ⟨rfl, S⟩
          · clear hi
            refine step_of rfl rfl rfl ?_
            intro u G w hf S
            have f0 : ∃ y, u 0 = y := hf 0 (by simp)
            obtain ⟨y38, f0⟩ := f0
            have f2 : ∃ y, u 2 = y := hf 2 (by simp)
            obtain ⟨y40, f2⟩ := f2
            have f6 : u 6 = .slice ap p2.length cp := hf 6 (by simp)
            simp only [resOf, spec, RSpec.resAt, z0, z1, z2, z3, z4, z5, z6, z7, ptrBlk] at S ⊢
            simp only [f0, f2, f6] at S ⊢
            try simp only [ptrBlk] at S
            refine does_append8 (.tmp 40) (.tmp 44) y40 R rfl S _ p2 rfl (S.oldB HBP.out) L2.out ?_; intro y w1 S; exact ⟨⟨y, rfl⟩, S⟩
        case fin1 =>
          intro u w hf S
          have f0 : ∃ y, u 0 = y := hf 0 (by simp)
          obtain ⟨y38, f0⟩ := f0
          have f1 : u 1 = (u5) := hf 1 (by simp)
          have f2 : ∃ y, u 2 = y := hf 2 (by simp)
          obtain ⟨y40, f2⟩ := f2
          have f3 : u 3 = (.slice (some ⟨b, off, none⟩) N c0) := hf 3 (by simp)
          have f4 : u 4 = (.int .i64 (k : Int)) := hf 4 (by simp)
          have f5 : u 5 = .pointer (some ⟨b, off + k, none⟩) := hf 5 (by simp)
          have f6 : u 6 = .slice ap p2.length cp := hf 6 (by simp)
          have f7 : ∃ y, u 7 = y := hf 7 (by simp)
          obtain ⟨y45, f7⟩ := f7
          simp only [resOf, spec, RSpec.resAt, z0, z1, z2, z3, z4, z5, z6, z7, ptrBlk] at S
          clear hf
          simp only [List.length_cons, List.length_nil, Nat.zero_add, Nat.reduceAdd, List.drop_succ_cons, List.drop_zero, f0, f1, f2, f3, f4, f5, f6, f7]
          try simp only [f0, f1, f2, f3, f4, f5, f6, f7, ptrBlk] at S
          show wpAnyH _ _ _ _ _ 8 #[true, true, true, true, true, true, true, true, false, false, false, false, false, false, false, false] _ _
          clear f0 f1 f2 f3 f4 f5 f6 f7
          refine wpAnyH_ready (rs := [8]) kR (by simp) ?_
          refine AllReadyH.cons rfl (fun K hK => ?_) AllReadyH.nil
          go_simp
          go_at_call 30
          (with_reducible refine (P3.out _ _ (S.bs (v := y45) pk)).mono ?_)
          rintro e w1 ⟨v46, v47, qs2, rfl, hp2, T⟩
          have HP2 := Lib.hid hp2; clear hp2
          replace S := S.call T; clear T; simp only [List.nil_append, List.cons_append] at S
          refine hK.out _ _ (trivial) (fun hHeld => ?_)
          clear hK K
          try simp only [Act.put, List.setIfInBounds_toArray, List.set_cons_zero, List.set_cons_succ]
          refine wpAnyH_take (i := 9) (oi := ⟨some 37, _, _, _, _, _⟩) (v := ?v2) rfl kR kR kR (fun _ _ _ h => h) (Or.inl ⟨by rfl, ?y2⟩) (by assumption) ?_
          case y2 => (intro w hSw; (try dsimp only at hSw); go_simp; try (with_reducible rfl))
          try simp only [Act.put, List.setIfInBounds_toArray, List.set_cons_zero, List.set_cons_succ]
          refine wpAnyH_take (i := 10) (oi := ⟨some 47, _, _, _, _, _⟩) (v := ?v3) rfl kR kR kR (fun _ _ _ h => h) (Or.inl ⟨by rfl, ?y3⟩) (by assumption) ?_
          case y3 => (intro w hSw; (try dsimp only at hSw); go_simp; try (with_reducible rfl))
          try simp only [Act.put, List.setIfInBounds_toArray, List.set_cons_zero, List.set_cons_succ]
          refine wpAnyH_take (i := 11) (oi := ⟨some 48, _, _, _, _, _⟩) (v := ?v4) rfl kR kR kR (fun _ _ _ h => h) (Or.inl ⟨by rfl, ?y4⟩) (by assumption) ?_
          case y4 => (intro w hSw; (try dsimp only at hSw); go_simp; try (with_reducible rfl))
          try simp only [Act.put, List.setIfInBounds_toArray, List.set_cons_zero, List.set_cons_succ]
          refine wpAnyH_take (i := 12) (oi := ⟨some 49, _, _, _, _, _⟩) (v := ?v5) rfl kR kR kR (fun _ _ _ h => h) (Or.inl ⟨by rfl, ?y5⟩) (by assumption) ?_
          case y5 => (intro w hSw; (try dsimp only at hSw); go_simp; try (with_reducible rfl))
          try simp only [Act.put, List.setIfInBounds_toArray, List.set_cons_zero, List.set_cons_succ]
          refine wpAnyH_take (i := 13) (oi := ⟨some 8, _, _, _, _, _⟩) (v := ?v6) rfl kR kR kR (fun _ _ _ h => h) (Or.inl ⟨by rfl, ?y6⟩) (by assumption) ?_
          case y6 => (intro w hSw; (try dsimp only at hSw); go_simp; try (with_reducible rfl))
          try simp only [Act.put, List.setIfInBounds_toArray, List.set_cons_zero, List.set_cons_succ]
          refine wpAnyH_take (i := 14) (oi := ⟨some 9, _, _, _, _, _⟩) (v := ?v7) rfl kR kR kR (fun _ _ _ h => h) (Or.inl ⟨by rfl, ?y7⟩) (by assumption) ?_
          case y7 => (intro w hSw; (try dsimp only at hSw); go_simp; try (with_reducible rfl))
          try simp only [Act.put, List.setIfInBounds_toArray, List.set_cons_zero, List.set_cons_succ]
          refine wpAnyH_take (i := 15) (oi := ⟨some 10, _, _, _, _, _⟩) (v := ?v8) rfl kR kR kR (fun _ _ _ h => h) (Or.inl ⟨by rfl, ?y8⟩) (by assumption) ?_
          case y8 => (intro w hSw; (try dsimp only at hSw); go_simp; try (with_reducible rfl))
          try simp only [Act.put, List.setIfInBounds_toArray, List.set_cons_zero, List.set_cons_succ]
          refine wpAnyH_done kR ?_ _
          have hps2 : (ps ++ qs2).map (·.2) = (splitB (T ++ p2)).1 := by rw [List.map_append, HPS.out, HP2.out, HBIG2.out]
          have hrest : (splitB (T ++ p2)).2 = Z2 := by rw [HBIG2.out]
          have hl2 : qs2.length ≤ 4160 := by
            have hp2 : qs2.map (·.2) = Z1 := HP2.out
            have := congrArg List.length hp2
            rw [List.length_map] at this
            have := HZL.out
            omega
          have hcl2 := HCL.out
          have S := (S.sub (k := [rowF v46 qs2, allF ps, allF qs2, row8 v47 Z2, row8 v36 (T ++ p2), rowH u6 (ps.map (·.1))]) (by repeat (first | exact Sub.nil _ | refine Sub.cons pk ?_))).toH
          have ho2 := one_heads (S.piece (ps := qs2) pk)
          have S := ((S.pick (r := allF qs2) pk).pick (r := allF ps) pk).allApp
          have hq12 : (ps ++ qs2).map (·.1) = ps.map (·.1) ++ qs2.map (·.1) := List.map_append
          have l3 : ((ps.map (·.1)).length + (qs2.map (·.1)).length) * 24 ≤ 140737488355328 := by rw [List.length_map, List.length_map]; omega
          obtain ⟨Q1, hQ1⟩ : ∃ Q, Q = ps.map (·.1) := ⟨_, rfl⟩
          obtain ⟨Q2, hQ2⟩ : ∃ Q, Q = qs2.map (·.1) := ⟨_, rfl⟩
          obtain ⟨PS, hPS⟩ : ∃ Q, Q = ps ++ qs2 := ⟨_, rfl⟩
          rw [← hQ1, ← hQ2] at S hq12 l3
          rw [← hQ2] at ho2
          rw [← hPS] at S hq12 hps2
          obtain ⟨a46, c46, rfl, _, _⟩ := Sl.shape (S.sl (v := v46) pk)
          clear hQ1 hQ2 hPS hl2 hcl2 HP2
          have HPS2 := Lib.hid hps2; have HREST := Lib.hid hrest; have HO2 := Lib.hid ho2; have HQ12 := Lib.hid hq12; have L3 := Lib.hid l3; clear hps2 hrest ho2 hq12 l3
          clear P3
          go_wp2_with (first | (at_builtin; refine step_appendH S (.tmp 52) (.tmp 53) u6 Q1 rfl pk _ Q2 rfl (S.sl (v := .slice a46 Q2.length c46) pk) HO2.out L3.out gw ?_; clear S; intro v54 w S) | ((with_reducible refine iO _ (.load 25 _) ?_); refine step_load1 25 _ _ _ rfl (cL) _ Tryd.underlying25 rfl gw ?_) | ((with_reducible refine iD 38 (.buildSlice 25 0 _) ?_); refine step_build8 S 0 _ [] (by first | rfl | kernel_rfl) rfl (by decide) gw ?_; clear S; intro v38 w S) | ((with_reducible refine iO _ (.convert 25 9 _) ?_); refine step_conv 25 9 5 _ _ _ rfl Tryd.underlying25 Tryd.underlying5 Tryd.underlying9 bS gw ?_) | fail)
          go_roundw
          case rel => exact ⟨k + 1, T ++ p2, PS, by omega, by go_num, HT2.out, HPS2.out, by rw [HREST.out, HQ12.out]; exact S.sub (by repeat (first | exact Sub.nil _ | refine Sub.cons pk ?_))⟩
          case measure => simp [intOf]; omega
    · obtain rfl : k = N := by omega
      have hki : ¬ (k : Int) < (k : Int) := by omega
      have p4 := fun v w h => split_a v T w h (by omega)
      have psf := fun v1 v2 qs3 w h1 h2 => sameF_s v1 v2 ps qs3 w h1 h2
      have hsp : splitB T = (FF, R) := by rw [hFF, hR]
      rw [hsp] at p4
      clear hbig hcT hwT hFF hR hT
      have P4 := Lib.hid p4; have PSF := Lib.hid psf; have HPS := Lib.hid hps; have HSP := Lib.hid hsp; clear p4 psf hps hsp
      go_upto_region 16 with (first | ((with_reducible refine iO _ (.load 25 _) ?_); refine step_load1 25 _ _ _ rfl (cL) _ Tryd.underlying25 rfl gw ?_) | ((with_reducible refine iD 38 (.buildSlice 25 0 _) ?_); refine step_build8 S 0 _ [] (by first | rfl | kernel_rfl) rfl (by decide) gw ?_; clear S; intro v38 w S) | (go_at_call 30; (with_reducible refine (P4.out _ _ (S.bs (v := .slice a4 T.length c4) (xs := T) pk)).mono ?_); rintro e w1 ⟨v58, v59, qs3, rfl, hp3, T⟩; replace S := S.call T; clear T; (try simp only [z4, z5] at S)) | ((with_reducible refine iO _ (.convert 25 9 _) ?_); refine step_conv 25 9 5 _ _ _ rfl Tryd.underlying25 Tryd.underlying5 Tryd.underlying9 bS gw ?_) | fail)
      have psf := fun v1 v2 => PSF.out v1 v2 qs3
      rw [decide_eq_true (HPS.out.trans hp3.symm)] at psf
      have S := (S.sub (k := [rowH u6 (ps.map (·.1)), rowF v58 qs3, allF ps, allF qs3, row8 u5 R, row8 v59 R]) (by repeat (first | exact Sub.nil _ | refine Sub.cons pk ?_))).ofH
      obtain ⟨a5, c5, rfl, _, _⟩ := Sl.shape (S.bs (v := u5) (xs := R) pk)
      obtain ⟨a59, c59, rfl, _, _⟩ := Sl.shape (S.bs (v := v59) (xs := R) pk)
      clear hp3 PSF P4
      have PSF := Lib.hid psf; clear psf
      go_wp2_with (first | ((with_reducible refine iO _ (.load 25 _) ?_); refine step_load1 25 _ _ _ rfl (cL) _ Tryd.underlying25 rfl gw ?_) | ((with_reducible refine iD 38 (.buildSlice 25 0 _) ?_); refine step_build8 S 0 _ [] (by first | rfl | kernel_rfl) rfl (by decide) gw ?_; clear S; intro v38 w S) | (go_at_call 31; (with_reducible refine (PSF.out _ _ _ (S.frA (v := u6) (ps := ps) pk pk) (S.frA (v := v58) (ps := qs3) pk pk)).mono ?_); rintro e w1 ⟨rfl, T⟩; replace S := S.call T; clear T; (try simp only [z4, z5] at S)) | ((with_reducible refine iO _ (.convert 25 9 _) ?_); refine step_conv 25 9 5 _ _ _ rfl Tryd.underlying25 Tryd.underlying5 Tryd.underlying9 bS gw ?_) | fail)
      go_ret
      exact ⟨rfl, S.nil⟩
end Go.Proofs.YtfhkmmagpnojmaaDoor
