/- AuthPlays: its walk. No condition but the tables and the reach. -/
import Derived.Test.YtioonimpobcglaaDoorBd
import Derived.Test.YtioonimpobcglaaDoorFlip
import Derived.Test.YtioonimpobcglaaDoorAuzR
import Derived.Test.YtioonimpobcglaaDoorIssue
import Derived.Test.YtioonimpobcglaaDoorRingF
import Derived.Test.YtioonimpobcglaaDoorLaidA
set_option linter.unusedSimpArgs false
set_option linter.unusedVariables false
namespace Go.Proofs.YtioonimpobcglaaDoor
open Go.RowKit

theorem build_tokS (u : Int) (w : World) : (Instr.build 27 #[(3, .int .u32 u)]).run Tryd.prog w = .ok (.agg ([Value.int .u8 0, .int .u8 0, .int .u64 0, .int .u32 u] ++ zs32.map by8).toArray) w := by kernel_rfl

set_option maxRecDepth 100000 in
theorem step_buildTS {ops : Array Oper} {rest : List Oper} {a : Act} {w : World} {Q : Exit → Act → World → Prop} {dst : Option Tmp} {ty : TypeId} {pos : String} {after : Array Edge} {gd : Option (Nat × Bool)} (x3 : Operand) (e : UInt32)
    (h3 : a.eval x3 = .int .u32 (e.toNat : Int))
    (hw : Region.wanted ⟨dst, .build 27 #[(3, x3)], ty, pos, after, gd⟩ (yielded ops a.tmps) = true)
    (h : wpList Tryd.prog ops Q rest (a.put dst (.agg (tokL ⟨0, 0, 0, e, zs32, rfl⟩).toArray)) w) : wpList Tryd.prog ops Q (⟨dst, .build 27 #[(3, x3)], ty, pos, after, gd⟩ :: rest) a w := by
  refine step_val (v := .agg (tokL ⟨0, 0, 0, e, zs32, rfl⟩).toArray) hw ?_ h
  have hp : (#[(3, x3)].map fun (i, x) => (i, a.eval x)) = #[(3, .int .u32 (e.toNat : Int))] := by simp [h3]
  have := build_tokS e.toNat w
  simp only [execOp, hp, Sem.run_bind, this, Result.andThen_ok, Sem.run_pure]
  rfl

theorem TgOne {w : World} {v : Value} {t : Tok} (h : Sl w 36 v 1 (tokL t)) : Tg w v [t] := by
  show Sl w 36 v 1 ([t].flatMap tokL)
  rw [List.flatMap_cons, List.flatMap_nil, List.append_nil]
  exact h

abbrev PlayRel (w0 : World) (l : List Cal) (a b g i : Value) (wr : World) : Prop :=
  ∃ (k : Nat) (R : List Mnt) (Gv : List Tok), k ≤ l.length ∧ Gv.length ≤ k ∧ i = .int .i64 (k : Int) ∧ Has w0 wr [rowM a R, rowM b R, rowT g Gv]

set_option maxRecDepth 100000 in
set_option maxHeartbeats 16000000 in
theorem authPlays_walk (v0 v2 : Value) (key : List UInt8) (tenant : Int) (l : List Cal) (w0 : World) (h1 : Bs w0 v0 key) (h2 : Cs w0 v2 l) (hK : KT w0) (hP : PT w0) (ht : -9223372036854775808 ≤ tenant ∧ tenant ≤ 9223372036854775807) :
    Calls Tryd.prog 12 #[v0, .int .i64 tenant, v2] w0 fun e w' => e = .returned (.bool true) ∧ Has w0 w' [] := by
  have S := Has.start w0
  obtain ⟨a0, c0, rfl, k1, k2⟩ := Sl.shape h1
  obtain ⟨a2, c2, rfl, k3, k4⟩ := Sl.shape h2
  unfold maxLen at k2 k4
  by_cases hl : 200 < l.length
  · have n1 : (200 : Int) < (l.length : Int) := by omega
    clear hl
    have H1 := Lib.hid h1; have H2 := Lib.hid h2; have HK := Lib.hid hK; have HP := Lib.hid hP; clear h1 h2 hK hP
    go_enter Tryd.func12, Tryd.ntmps12
    go_wp2
    go_ret
    exact ⟨rfl, S.nil⟩
  · have n1 : ¬ (200 : Int) < (l.length : Int) := by omega
    have H1 := Lib.hid h1; have H2 := Lib.hid h2; have HK := Lib.hid hK; have HP := Lib.hid hP; have HT := Lib.hid ht; clear h1 h2 hK hP ht
    go_enter Tryd.func12, Tryd.ntmps12
    go_wp2
    go_loopw [7, 8, 9, 10] (fun a b g i wr => PlayRel w0 l a b g i wr) (fun _ _ _ i _ => l.length - (intOf i).toNat)
    case atStart => exact ⟨0, [], [], Nat.zero_le _, Nat.zero_le _, rfl, S.nil.nilT.nilM.nilM⟩
    case round =>
      obtain ⟨k, R, Gv, hk, hG, rfl, S⟩ := hrel
      by_cases hlt : k < l.length
      · have hki : (k : Int) < (l.length : Int) := by omega
        have hk0 : (0 : Int) ≤ (k : Int) := by omega
        obtain ⟨c, hc⟩ : ∃ c, l[k]? = some c := ⟨_, List.getElem?_eq_getElem hlt⟩
        obtain ⟨b, off, hab, _⟩ := H2.out.atA (by omega)
        subst hab
        have hr := H2.out.elem calL_length (by decide) k c hc
        have d0 := calL_0 c
        have d1 := calL_1 c
        have d2 := calL_2 c
        have d3 := calL_3 c
        have d4 := calL_4 c
        have d5 := calL_5 c
        have d6 := calL_6 c
        have d7 := calL_7 c
        have d8 := calL_8 c
        have hcs := calL_size c
        have hco := calL_one c
        have hds := c.do_.toNat_lt
        have eg := eqGuardT
        have hr4 : (c.do_.toNat : Int) % 4 = 0 ∨ (c.do_.toNat : Int) % 4 = 1 ∨ (c.do_.toNat : Int) % 4 = 2 ∨ (c.do_.toNat : Int) % 4 = 3 := by omega
        clear hc
        have HR := Lib.hid hr; have D0 := Lib.hid d0; have D1 := Lib.hid d1; have D2 := Lib.hid d2; have D3 := Lib.hid d3; have D4 := Lib.hid d4; have D5 := Lib.hid d5; have D6 := Lib.hid d6; have D7 := Lib.hid d7; have D8 := Lib.hid d8; have HCS := Lib.hid hcs; have HCO := Lib.hid hco; clear hr d0 d1 d2 d3 d4 d5 d6 d7 d8 hcs hco
        rcases hr4 with hdr | hdr | hdr | hdr
        · -- Issue
          have p1 := fun v w h => issue_s v (.slice a0 key.length c0) R key tenant c.role.toNat c.life.toNat c.now.toNat w h
          have p2 := fun v w h => refIssue_s v (.slice a0 key.length c0) R key tenant c.role.toNat c.life.toNat c.now.toNat w h
          obtain ⟨R1, hR1⟩ : ∃ R1, R1 = issR R key tenant c.role.toNat c.life.toNat c.now.toNat := ⟨_, rfl⟩
          obtain ⟨T1, hT1⟩ : ∃ T1, T1 = issT R key tenant c.role.toNat c.life.toNat c.now.toNat := ⟨_, rfl⟩
          obtain ⟨E, hE⟩ : ∃ E, E = issE R key tenant c.role.toNat c.life.toNat c.now.toNat := ⟨_, rfl⟩
          rw [← hR1, ← hT1, ← hE] at p1 p2
          have q1 := c.role.toNat_lt
          have q2 := c.life.toNat_lt
          have q3 := c.now.toNat_lt
          have hn := fun w => neqT T1 T1 w
          simp only [decide_true, Bool.not_true] at hn
          have n6 : (E != E) = false := by simp
          by_cases hE0 : E = 0
          · rw [hE0] at p1 p2
            have P1 := Lib.hid (fun v w h hb hk => p1 v w h hb hk HT.out (by omega) (by omega) (by omega))
            have P2 := Lib.hid (fun v w h hb => p2 v w h hb HT.out (by omega) (by omega) (by omega))
            clear p1 p2 hR1 hT1 hE hE0 n6 E
            go_wp2_with (first | ((with_reducible show wpList _ _ _ (⟨none, .store 70 (.tmp 11) (.tmp 39), _, _, _, _⟩ :: _) _ _); refine step_store S 70 (.tmp 11) (.tmp 39) _ _ rfl rfl _ _ pk 9 (by kernel_rfl) HCS.out rfl HCO.out rfl ?_; clear S; intro w S) | ((with_reducible show wpList _ _ _ (⟨some 93, .buildSlice _ _ _, _, _, _, _⟩ :: _) _ _); refine step_buildS1 S 67 27 36 (.tmp 92) (tokL T1) (.agg (tokL tokZ).toArray) Tryd.underlying67 infoT2 (by decide) (by decide) rfl (tokL_length _) rfl ?_; clear S; intro v93 w S) | (at_builtin; refine step_appendT S (.tmp 91) (.tmp 93) _ Gv rfl pk _ [T1] rfl (TgOne (S.sl (v := v93) pk)) (by simp only [List.length_cons, List.length_nil]; omega) rfl ?_; clear S; intro v94 w S) | ((with_reducible show wpList _ _ _ (⟨_, .load 70 _, _, _, _, _⟩ :: _) _ _); first | (refine step_loadR 70 _ _ _ rfl _ (S.old_range hy) _ Tryd.underlying70 rfl 9 (by kernel_rfl) (by first | rfl | (first | rfl | assumption | (exact Hid.out (by assumption)) | (exact tokL_size _) | (rw [arr8_size]; first | rfl | assumption | (exact Hid.out (by assumption)) | exact tokL_size _ | exact List.length_replicate ..) | (simp [arr8_size]; done))) _ rfl gw ?_) | (refine step_loadP S 70 _ _ _ rfl _ _ _ pk 9 _ (by (first | exact cellsH_st .. | assumption | rfl)) (by first | rfl | (first | rfl | assumption | (exact Hid.out (by assumption)) | (exact tokL_size _) | (rw [arr8_size]; first | rfl | assumption | (exact Hid.out (by assumption)) | exact tokL_size _ | exact List.length_replicate ..) | (simp [arr8_size]; done))) _ Tryd.underlying70 rfl (by kernel_rfl) gw ?_)) | ((with_reducible show wpList _ _ _ (⟨some 11, .alloc 70, _, _, _, _⟩ :: _) _ _); refine step_alloc (dst := some 11) S 70 (.agg ((calL calZ).toArray)) ((calL calZ).toArray) (by kernel_rfl) rfl gw ?_; clear S; intro g11 w S) | ((with_reducible show wpList _ _ _ (⟨none, .store 70 (.tmp 11) (.tmp 39), _, _, _, _⟩ :: _) _ _); refine step_store S 70 (.tmp 11) (.tmp 39) _ _ rfl rfl _ _ pk 9 (by kernel_rfl) (by first | rfl | (first | rfl | assumption | (exact Hid.out (by assumption)) | (exact tokL_size _) | (rw [arr8_size]; first | rfl | assumption | (exact Hid.out (by assumption)) | exact tokL_size _ | exact List.length_replicate ..) | (simp [arr8_size]; done))) (by first | rfl | (first | rfl | assumption | (exact Hid.out (by assumption)) | (exact tokL_size _) | (rw [arr8_size]; first | rfl | assumption | (exact Hid.out (by assumption)) | exact tokL_size _ | exact List.length_replicate ..) | (simp [arr8_size]; done))) on1 gw ?_; clear S; intro w S) | ((with_reducible show wpList _ _ _ (⟨_, .load 5 _, _, _, _, _⟩ :: _) _ _); first | (refine step_load1 5 _ _ _ rfl (S.cell pk co) _ Tryd.underlying5 rfl gw ?_) | (refine step_load1 5 _ _ _ rfl (S.row_cell pk _ _ hyr) _ Tryd.underlying5 rfl gw ?_) | (refine step_load1 5 _ _ _ rfl (S.row_cellS pk _ _ hy) _ Tryd.underlying5 rfl gw ?_) | (refine step_load1 5 _ _ _ rfl (S.old_cell hy) _ Tryd.underlying5 rfl gw ?_)) | ((with_reducible show wpList _ _ _ (⟨_, .load 23 _, _, _, _, _⟩ :: _) _ _); first | (refine step_load1 23 _ _ _ rfl (S.cell pk co) _ Tryd.underlying23 rfl gw ?_) | (refine step_load1 23 _ _ _ rfl (S.row_cell pk _ _ hyr) _ Tryd.underlying23 rfl gw ?_) | (refine step_load1 23 _ _ _ rfl (S.row_cellS pk _ _ hy) _ Tryd.underlying23 rfl gw ?_) | (refine step_load1 23 _ _ _ rfl (S.old_cell hy) _ Tryd.underlying23 rfl gw ?_)) | (go_at_call 24; (with_reducible refine (P1.out _ _ (by first | assumption | exact S.old (Hid.out (by assumption)) | exact S.sl pk | exact S.sl_rd pk) (S.oldB H1.out) (S.kt (Hid.out (by assumption)))).mono ?_); rintro e w1 ⟨v12, rfl, T⟩; replace S := S.call T; clear T; (try simp only [List.nil_append, List.cons_append] at S)) | ((with_reducible show wpList _ _ _ (⟨some 13, .alloc 27, _, _, _, _⟩ :: _) _ _); refine step_alloc (dst := some 13) S 27 (.agg ((tokL tokZ).toArray)) ((tokL tokZ).toArray) (by kernel_rfl) rfl gw ?_; clear S; intro g13 w S) | ((with_reducible show wpList _ _ _ (⟨none, .store 27 (.tmp 13) (.tmp 57), _, _, _, _⟩ :: _) _ _); refine step_store S 27 (.tmp 13) (.tmp 57) _ _ rfl rfl _ _ pk 36 (by kernel_rfl) (by first | rfl | (first | rfl | assumption | (exact Hid.out (by assumption)) | (exact tokL_size _) | (rw [arr8_size]; first | rfl | assumption | (exact Hid.out (by assumption)) | exact tokL_size _ | exact List.length_replicate ..) | (simp [arr8_size]; done))) (by first | rfl | (first | rfl | assumption | (exact Hid.out (by assumption)) | (exact tokL_size _) | (rw [arr8_size]; first | rfl | assumption | (exact Hid.out (by assumption)) | exact tokL_size _ | exact List.length_replicate ..) | (simp [arr8_size]; done))) on1 gw ?_; clear S; intro w S) | (go_at_call 25; (with_reducible refine (P2.out _ _ (by first | assumption | exact S.old (Hid.out (by assumption)) | exact S.sl pk | exact S.sl_rd pk) (S.oldB H1.out)).mono ?_); rintro e w1 ⟨v15, rfl, T⟩; replace S := S.call T; clear T; (try simp only [List.nil_append, List.cons_append] at S)) | ((with_reducible show wpList _ _ _ (⟨some 16, .alloc 27, _, _, _, _⟩ :: _) _ _); refine step_alloc (dst := some 16) S 27 (.agg ((tokL tokZ).toArray)) ((tokL tokZ).toArray) (by kernel_rfl) rfl gw ?_; clear S; intro g16 w S) | ((with_reducible show wpList _ _ _ (⟨none, .store 27 (.tmp 16) (.tmp 71), _, _, _, _⟩ :: _) _ _); refine step_store S 27 (.tmp 16) (.tmp 71) _ _ rfl rfl _ _ pk 36 (by kernel_rfl) (by first | rfl | (first | rfl | assumption | (exact Hid.out (by assumption)) | (exact tokL_size _) | (rw [arr8_size]; first | rfl | assumption | (exact Hid.out (by assumption)) | exact tokL_size _ | exact List.length_replicate ..) | (simp [arr8_size]; done))) (by first | rfl | (first | rfl | assumption | (exact Hid.out (by assumption)) | (exact tokL_size _) | (rw [arr8_size]; first | rfl | assumption | (exact Hid.out (by assumption)) | exact tokL_size _ | exact List.length_replicate ..) | (simp [arr8_size]; done))) on1 gw ?_; clear S; intro w S) | (go_at_call 26; (with_reducible refine (same_r _ _ R1 _ (by first | assumption | exact S.old (Hid.out (by assumption)) | exact S.sl pk | exact S.sl_rd pk) (by first | assumption | exact S.old (Hid.out (by assumption)) | exact S.sl pk | exact S.sl_rd pk)).mono ?_); rintro e w1 ⟨rfl, T⟩; replace S := S.call T; clear T; (try simp only [List.nil_append, List.cons_append] at S)) | ((with_reducible show wpList _ _ _ (⟨_, .load 27 _, _, _, _, _⟩ :: _) _ _); first | (refine step_load S 27 _ _ rfl _ _ _ pk _ Tryd.underlying27 rfl 36 (by kernel_rfl) (by first | rfl | (first | rfl | assumption | (exact Hid.out (by assumption)) | (exact tokL_size _) | (rw [arr8_size]; first | rfl | assumption | (exact Hid.out (by assumption)) | exact tokL_size _ | exact List.length_replicate ..) | (simp [arr8_size]; done))) gw ?_) | (refine step_loadO 27 _ _ rfl _ _ _ (S.old_heap (Hid.out (by assumption))) _ Tryd.underlying27 rfl 36 (by kernel_rfl) (by first | rfl | (first | rfl | assumption | (exact Hid.out (by assumption)) | (exact tokL_size _) | (rw [arr8_size]; first | rfl | assumption | (exact Hid.out (by assumption)) | exact tokL_size _ | exact List.length_replicate ..) | (simp [arr8_size]; done))) gw ?_) | (refine step_loadR 27 _ _ _ rfl _ (S.old_range hy) _ Tryd.underlying27 rfl 36 (by kernel_rfl) (by first | rfl | (first | rfl | assumption | (exact Hid.out (by assumption)) | (exact tokL_size _) | (rw [arr8_size]; first | rfl | assumption | (exact Hid.out (by assumption)) | exact tokL_size _ | exact List.length_replicate ..) | (simp [arr8_size]; done))) _ rfl gw ?_)) | ((with_reducible show wpList _ _ _ (⟨_, .load 24 _, _, _, _, _⟩ :: _) _ _); first | (refine step_load1 24 _ _ _ rfl (S.cell pk co) _ Tryd.underlying24 rfl gw ?_) | (refine step_load1 24 _ _ _ rfl (S.row_cell pk _ _ hyr) _ Tryd.underlying24 rfl gw ?_) | (refine step_load1 24 _ _ _ rfl (S.row_cellS pk _ _ hy) _ Tryd.underlying24 rfl gw ?_) | (refine step_load1 24 _ _ _ rfl (S.old_cell hy) _ Tryd.underlying24 rfl gw ?_)) | ((with_reducible show wpList _ _ _ (⟨some 22, .alloc 27, _, _, _, _⟩ :: _) _ _); refine step_alloc (dst := some 22) S 27 (.agg ((tokL tokZ).toArray)) ((tokL tokZ).toArray) (by kernel_rfl) rfl gw ?_; clear S; intro g22 w S) | ((with_reducible show wpList _ _ _ (⟨none, .store 27 (.tmp 22) (.tmp 128), _, _, _, _⟩ :: _) _ _); refine step_store S 27 (.tmp 22) (.tmp 128) _ _ rfl rfl _ _ pk 36 (by kernel_rfl) (by first | rfl | (first | rfl | assumption | (exact Hid.out (by assumption)) | (exact tokL_size _) | (rw [arr8_size]; first | rfl | assumption | (exact Hid.out (by assumption)) | exact tokL_size _ | exact List.length_replicate ..) | (simp [arr8_size]; done))) (by first | rfl | (first | rfl | assumption | (exact Hid.out (by assumption)) | (exact tokL_size _) | (rw [arr8_size]; first | rfl | assumption | (exact Hid.out (by assumption)) | exact tokL_size _ | exact List.length_replicate ..) | (simp [arr8_size]; done))) on1 gw ?_; clear S; intro w S) | ((with_reducible show wpList _ _ _ (⟨_, .load 27 _, _, _, _, _⟩ :: _) _ _); first | (refine step_loadR 27 _ _ _ rfl _ (S.old_range hy) _ Tryd.underlying27 rfl 36 (by kernel_rfl) (by first | rfl | (first | rfl | assumption | (exact Hid.out (by assumption)) | (exact tokL_size _) | (rw [arr8_size]; first | rfl | assumption | (exact Hid.out (by assumption)) | exact tokL_size _ | exact List.length_replicate ..) | (simp [arr8_size]; done))) _ rfl gw ?_) | (refine step_loadP S 27 _ _ _ rfl _ _ _ pk 36 _ (by (first | exact cellsH_st .. | assumption | rfl)) (by first | rfl | (first | rfl | assumption | (exact Hid.out (by assumption)) | (exact tokL_size _) | (rw [arr8_size]; first | rfl | assumption | (exact Hid.out (by assumption)) | exact tokL_size _ | exact List.length_replicate ..) | (simp [arr8_size]; done))) _ Tryd.underlying27 rfl (by kernel_rfl) gw ?_)) | ((with_reducible show wpList _ _ _ (⟨_, .load 68 _, _, _, _, _⟩ :: _) _ _); first | (refine step_load1 68 _ _ _ rfl (S.cell pk co) _ Tryd.underlying68 rfl gw ?_) | (refine step_load1 68 _ _ _ rfl (S.row_cell pk _ _ hyr) _ Tryd.underlying68 rfl gw ?_) | (refine step_load1 68 _ _ _ rfl (S.row_cellS pk _ _ hy) _ Tryd.underlying68 rfl gw ?_) | (refine step_load1 68 _ _ _ rfl (S.old_cell hy) _ Tryd.underlying68 rfl gw ?_)) | ((with_reducible show wpList _ _ _ (⟨none, .store 27 (.tmp 22) (.tmp 143), _, _, _, _⟩ :: _) _ _); refine step_store S 27 (.tmp 22) (.tmp 143) _ _ rfl rfl _ _ pk 36 (by kernel_rfl) (by first | rfl | (first | rfl | assumption | (exact Hid.out (by assumption)) | (exact tokL_size _) | (rw [arr8_size]; first | rfl | assumption | (exact Hid.out (by assumption)) | exact tokL_size _ | exact List.length_replicate ..) | (simp [arr8_size]; done))) (by first | rfl | (first | rfl | assumption | (exact Hid.out (by assumption)) | (exact tokL_size _) | (rw [arr8_size]; first | rfl | assumption | (exact Hid.out (by assumption)) | exact tokL_size _ | exact List.length_replicate ..) | (simp [arr8_size]; done))) on1 gw ?_; clear S; intro w S) | ((with_reducible show wpList _ _ _ (⟨_, .load 3 _, _, _, _, _⟩ :: _) _ _); first | (refine step_load1 3 _ _ _ rfl (S.cell pk co) _ Tryd.underlying3 rfl gw ?_) | (refine step_load1 3 _ _ _ rfl (S.row_cell pk _ _ hyr) _ Tryd.underlying3 rfl gw ?_) | (refine step_load1 3 _ _ _ rfl (S.row_cellS pk _ _ hy) _ Tryd.underlying3 rfl gw ?_) | (refine step_load1 3 _ _ _ rfl (S.old_cell hy) _ Tryd.underlying3 rfl gw ?_)) | fail)
            go_roundw
            case rel => exact ⟨k + 1, R1, Gv ++ [T1], by omega, by simp; omega, by go_num, S.sub (by repeat (first | exact Sub.nil _ | refine Sub.cons pk ?_))⟩
            all_goals first | omega | (simp only [intOf]; omega)
          · have n5 : (E == 0) = false := by simpa using hE0
            have P1 := Lib.hid (fun v w h hb hk => p1 v w h hb hk HT.out (by omega) (by omega) (by omega))
            have P2 := Lib.hid (fun v w h hb => p2 v w h hb HT.out (by omega) (by omega) (by omega))
            clear p1 p2 hR1 hT1 hE hE0
            go_wp2_with (first | ((with_reducible show wpList _ _ _ (⟨none, .store 70 (.tmp 11) (.tmp 39), _, _, _, _⟩ :: _) _ _); refine step_store S 70 (.tmp 11) (.tmp 39) _ _ rfl rfl _ _ pk 9 (by kernel_rfl) HCS.out rfl HCO.out rfl ?_; clear S; intro w S) | ((with_reducible show wpList _ _ _ (⟨_, .load 70 _, _, _, _, _⟩ :: _) _ _); first | (refine step_loadR 70 _ _ _ rfl _ (S.old_range hy) _ Tryd.underlying70 rfl 9 (by kernel_rfl) (by first | rfl | (first | rfl | assumption | (exact Hid.out (by assumption)) | (exact tokL_size _) | (rw [arr8_size]; first | rfl | assumption | (exact Hid.out (by assumption)) | exact tokL_size _ | exact List.length_replicate ..) | (simp [arr8_size]; done))) _ rfl gw ?_) | (refine step_loadP S 70 _ _ _ rfl _ _ _ pk 9 _ (by (first | exact cellsH_st .. | assumption | rfl)) (by first | rfl | (first | rfl | assumption | (exact Hid.out (by assumption)) | (exact tokL_size _) | (rw [arr8_size]; first | rfl | assumption | (exact Hid.out (by assumption)) | exact tokL_size _ | exact List.length_replicate ..) | (simp [arr8_size]; done))) _ Tryd.underlying70 rfl (by kernel_rfl) gw ?_)) | ((with_reducible show wpList _ _ _ (⟨some 11, .alloc 70, _, _, _, _⟩ :: _) _ _); refine step_alloc (dst := some 11) S 70 (.agg ((calL calZ).toArray)) ((calL calZ).toArray) (by kernel_rfl) rfl gw ?_; clear S; intro g11 w S) | ((with_reducible show wpList _ _ _ (⟨none, .store 70 (.tmp 11) (.tmp 39), _, _, _, _⟩ :: _) _ _); refine step_store S 70 (.tmp 11) (.tmp 39) _ _ rfl rfl _ _ pk 9 (by kernel_rfl) (by first | rfl | (first | rfl | assumption | (exact Hid.out (by assumption)) | (exact tokL_size _) | (rw [arr8_size]; first | rfl | assumption | (exact Hid.out (by assumption)) | exact tokL_size _ | exact List.length_replicate ..) | (simp [arr8_size]; done))) (by first | rfl | (first | rfl | assumption | (exact Hid.out (by assumption)) | (exact tokL_size _) | (rw [arr8_size]; first | rfl | assumption | (exact Hid.out (by assumption)) | exact tokL_size _ | exact List.length_replicate ..) | (simp [arr8_size]; done))) on1 gw ?_; clear S; intro w S) | ((with_reducible show wpList _ _ _ (⟨_, .load 5 _, _, _, _, _⟩ :: _) _ _); first | (refine step_load1 5 _ _ _ rfl (S.cell pk co) _ Tryd.underlying5 rfl gw ?_) | (refine step_load1 5 _ _ _ rfl (S.row_cell pk _ _ hyr) _ Tryd.underlying5 rfl gw ?_) | (refine step_load1 5 _ _ _ rfl (S.row_cellS pk _ _ hy) _ Tryd.underlying5 rfl gw ?_) | (refine step_load1 5 _ _ _ rfl (S.old_cell hy) _ Tryd.underlying5 rfl gw ?_)) | ((with_reducible show wpList _ _ _ (⟨_, .load 23 _, _, _, _, _⟩ :: _) _ _); first | (refine step_load1 23 _ _ _ rfl (S.cell pk co) _ Tryd.underlying23 rfl gw ?_) | (refine step_load1 23 _ _ _ rfl (S.row_cell pk _ _ hyr) _ Tryd.underlying23 rfl gw ?_) | (refine step_load1 23 _ _ _ rfl (S.row_cellS pk _ _ hy) _ Tryd.underlying23 rfl gw ?_) | (refine step_load1 23 _ _ _ rfl (S.old_cell hy) _ Tryd.underlying23 rfl gw ?_)) | (go_at_call 24; (with_reducible refine (P1.out _ _ (by first | assumption | exact S.old (Hid.out (by assumption)) | exact S.sl pk | exact S.sl_rd pk) (S.oldB H1.out) (S.kt (Hid.out (by assumption)))).mono ?_); rintro e w1 ⟨v12, rfl, T⟩; replace S := S.call T; clear T; (try simp only [List.nil_append, List.cons_append] at S)) | ((with_reducible show wpList _ _ _ (⟨some 13, .alloc 27, _, _, _, _⟩ :: _) _ _); refine step_alloc (dst := some 13) S 27 (.agg ((tokL tokZ).toArray)) ((tokL tokZ).toArray) (by kernel_rfl) rfl gw ?_; clear S; intro g13 w S) | ((with_reducible show wpList _ _ _ (⟨none, .store 27 (.tmp 13) (.tmp 57), _, _, _, _⟩ :: _) _ _); refine step_store S 27 (.tmp 13) (.tmp 57) _ _ rfl rfl _ _ pk 36 (by kernel_rfl) (by first | rfl | (first | rfl | assumption | (exact Hid.out (by assumption)) | (exact tokL_size _) | (rw [arr8_size]; first | rfl | assumption | (exact Hid.out (by assumption)) | exact tokL_size _ | exact List.length_replicate ..) | (simp [arr8_size]; done))) (by first | rfl | (first | rfl | assumption | (exact Hid.out (by assumption)) | (exact tokL_size _) | (rw [arr8_size]; first | rfl | assumption | (exact Hid.out (by assumption)) | exact tokL_size _ | exact List.length_replicate ..) | (simp [arr8_size]; done))) on1 gw ?_; clear S; intro w S) | (go_at_call 25; (with_reducible refine (P2.out _ _ (by first | assumption | exact S.old (Hid.out (by assumption)) | exact S.sl pk | exact S.sl_rd pk) (S.oldB H1.out)).mono ?_); rintro e w1 ⟨v15, rfl, T⟩; replace S := S.call T; clear T; (try simp only [List.nil_append, List.cons_append] at S)) | ((with_reducible show wpList _ _ _ (⟨some 16, .alloc 27, _, _, _, _⟩ :: _) _ _); refine step_alloc (dst := some 16) S 27 (.agg ((tokL tokZ).toArray)) ((tokL tokZ).toArray) (by kernel_rfl) rfl gw ?_; clear S; intro g16 w S) | ((with_reducible show wpList _ _ _ (⟨none, .store 27 (.tmp 16) (.tmp 71), _, _, _, _⟩ :: _) _ _); refine step_store S 27 (.tmp 16) (.tmp 71) _ _ rfl rfl _ _ pk 36 (by kernel_rfl) (by first | rfl | (first | rfl | assumption | (exact Hid.out (by assumption)) | (exact tokL_size _) | (rw [arr8_size]; first | rfl | assumption | (exact Hid.out (by assumption)) | exact tokL_size _ | exact List.length_replicate ..) | (simp [arr8_size]; done))) (by first | rfl | (first | rfl | assumption | (exact Hid.out (by assumption)) | (exact tokL_size _) | (rw [arr8_size]; first | rfl | assumption | (exact Hid.out (by assumption)) | exact tokL_size _ | exact List.length_replicate ..) | (simp [arr8_size]; done))) on1 gw ?_; clear S; intro w S) | (go_at_call 26; (with_reducible refine (same_r _ _ R1 _ (by first | assumption | exact S.old (Hid.out (by assumption)) | exact S.sl pk | exact S.sl_rd pk) (by first | assumption | exact S.old (Hid.out (by assumption)) | exact S.sl pk | exact S.sl_rd pk)).mono ?_); rintro e w1 ⟨rfl, T⟩; replace S := S.call T; clear T; (try simp only [List.nil_append, List.cons_append] at S)) | ((with_reducible show wpList _ _ _ (⟨_, .load 27 _, _, _, _, _⟩ :: _) _ _); first | (refine step_load S 27 _ _ rfl _ _ _ pk _ Tryd.underlying27 rfl 36 (by kernel_rfl) (by first | rfl | (first | rfl | assumption | (exact Hid.out (by assumption)) | (exact tokL_size _) | (rw [arr8_size]; first | rfl | assumption | (exact Hid.out (by assumption)) | exact tokL_size _ | exact List.length_replicate ..) | (simp [arr8_size]; done))) gw ?_) | (refine step_loadO 27 _ _ rfl _ _ _ (S.old_heap (Hid.out (by assumption))) _ Tryd.underlying27 rfl 36 (by kernel_rfl) (by first | rfl | (first | rfl | assumption | (exact Hid.out (by assumption)) | (exact tokL_size _) | (rw [arr8_size]; first | rfl | assumption | (exact Hid.out (by assumption)) | exact tokL_size _ | exact List.length_replicate ..) | (simp [arr8_size]; done))) gw ?_) | (refine step_loadR 27 _ _ _ rfl _ (S.old_range hy) _ Tryd.underlying27 rfl 36 (by kernel_rfl) (by first | rfl | (first | rfl | assumption | (exact Hid.out (by assumption)) | (exact tokL_size _) | (rw [arr8_size]; first | rfl | assumption | (exact Hid.out (by assumption)) | exact tokL_size _ | exact List.length_replicate ..) | (simp [arr8_size]; done))) _ rfl gw ?_)) | ((with_reducible show wpList _ _ _ (⟨_, .load 24 _, _, _, _, _⟩ :: _) _ _); first | (refine step_load1 24 _ _ _ rfl (S.cell pk co) _ Tryd.underlying24 rfl gw ?_) | (refine step_load1 24 _ _ _ rfl (S.row_cell pk _ _ hyr) _ Tryd.underlying24 rfl gw ?_) | (refine step_load1 24 _ _ _ rfl (S.row_cellS pk _ _ hy) _ Tryd.underlying24 rfl gw ?_) | (refine step_load1 24 _ _ _ rfl (S.old_cell hy) _ Tryd.underlying24 rfl gw ?_)) | ((with_reducible show wpList _ _ _ (⟨some 22, .alloc 27, _, _, _, _⟩ :: _) _ _); refine step_alloc (dst := some 22) S 27 (.agg ((tokL tokZ).toArray)) ((tokL tokZ).toArray) (by kernel_rfl) rfl gw ?_; clear S; intro g22 w S) | ((with_reducible show wpList _ _ _ (⟨none, .store 27 (.tmp 22) (.tmp 128), _, _, _, _⟩ :: _) _ _); refine step_store S 27 (.tmp 22) (.tmp 128) _ _ rfl rfl _ _ pk 36 (by kernel_rfl) (by first | rfl | (first | rfl | assumption | (exact Hid.out (by assumption)) | (exact tokL_size _) | (rw [arr8_size]; first | rfl | assumption | (exact Hid.out (by assumption)) | exact tokL_size _ | exact List.length_replicate ..) | (simp [arr8_size]; done))) (by first | rfl | (first | rfl | assumption | (exact Hid.out (by assumption)) | (exact tokL_size _) | (rw [arr8_size]; first | rfl | assumption | (exact Hid.out (by assumption)) | exact tokL_size _ | exact List.length_replicate ..) | (simp [arr8_size]; done))) on1 gw ?_; clear S; intro w S) | ((with_reducible show wpList _ _ _ (⟨_, .load 27 _, _, _, _, _⟩ :: _) _ _); first | (refine step_loadR 27 _ _ _ rfl _ (S.old_range hy) _ Tryd.underlying27 rfl 36 (by kernel_rfl) (by first | rfl | (first | rfl | assumption | (exact Hid.out (by assumption)) | (exact tokL_size _) | (rw [arr8_size]; first | rfl | assumption | (exact Hid.out (by assumption)) | exact tokL_size _ | exact List.length_replicate ..) | (simp [arr8_size]; done))) _ rfl gw ?_) | (refine step_loadP S 27 _ _ _ rfl _ _ _ pk 36 _ (by (first | exact cellsH_st .. | assumption | rfl)) (by first | rfl | (first | rfl | assumption | (exact Hid.out (by assumption)) | (exact tokL_size _) | (rw [arr8_size]; first | rfl | assumption | (exact Hid.out (by assumption)) | exact tokL_size _ | exact List.length_replicate ..) | (simp [arr8_size]; done))) _ Tryd.underlying27 rfl (by kernel_rfl) gw ?_)) | ((with_reducible show wpList _ _ _ (⟨_, .load 68 _, _, _, _, _⟩ :: _) _ _); first | (refine step_load1 68 _ _ _ rfl (S.cell pk co) _ Tryd.underlying68 rfl gw ?_) | (refine step_load1 68 _ _ _ rfl (S.row_cell pk _ _ hyr) _ Tryd.underlying68 rfl gw ?_) | (refine step_load1 68 _ _ _ rfl (S.row_cellS pk _ _ hy) _ Tryd.underlying68 rfl gw ?_) | (refine step_load1 68 _ _ _ rfl (S.old_cell hy) _ Tryd.underlying68 rfl gw ?_)) | ((with_reducible show wpList _ _ _ (⟨none, .store 27 (.tmp 22) (.tmp 143), _, _, _, _⟩ :: _) _ _); refine step_store S 27 (.tmp 22) (.tmp 143) _ _ rfl rfl _ _ pk 36 (by kernel_rfl) (by first | rfl | (first | rfl | assumption | (exact Hid.out (by assumption)) | (exact tokL_size _) | (rw [arr8_size]; first | rfl | assumption | (exact Hid.out (by assumption)) | exact tokL_size _ | exact List.length_replicate ..) | (simp [arr8_size]; done))) (by first | rfl | (first | rfl | assumption | (exact Hid.out (by assumption)) | (exact tokL_size _) | (rw [arr8_size]; first | rfl | assumption | (exact Hid.out (by assumption)) | exact tokL_size _ | exact List.length_replicate ..) | (simp [arr8_size]; done))) on1 gw ?_; clear S; intro w S) | ((with_reducible show wpList _ _ _ (⟨_, .load 3 _, _, _, _, _⟩ :: _) _ _); first | (refine step_load1 3 _ _ _ rfl (S.cell pk co) _ Tryd.underlying3 rfl gw ?_) | (refine step_load1 3 _ _ _ rfl (S.row_cell pk _ _ hyr) _ Tryd.underlying3 rfl gw ?_) | (refine step_load1 3 _ _ _ rfl (S.row_cellS pk _ _ hy) _ Tryd.underlying3 rfl gw ?_) | (refine step_load1 3 _ _ _ rfl (S.old_cell hy) _ Tryd.underlying3 rfl gw ?_)) | fail)
            go_roundw
            case rel => exact ⟨k + 1, R, Gv, by omega, by omega, by go_num, S.sub (by repeat (first | exact Sub.nil _ | refine Sub.cons pk ?_))⟩
            all_goals first | omega | (simp only [intOf]; omega)
        · -- Revoke
          have q1 := c.serial.toNat_lt
          have p1 := fun v w h => revoke_r v R c.serial.toNat w h (by omega)
          have p2 := fun v w h => refRevoke_r v R c.serial.toNat w h (by omega)
          generalize revR R c.serial.toNat = R1 at p1 p2
          generalize revE R c.serial.toNat = E at p1 p2
          have n6 : (E != E) = false := by simp
          by_cases hE0 : E = 0
          · rw [hE0] at p1 p2
            clear hE0 n6 E
            have P1 := Lib.hid p1; have P2 := Lib.hid p2; clear p1 p2
            go_wp2_with (first | ((with_reducible show wpList _ _ _ (⟨none, .store 70 (.tmp 11) (.tmp 39), _, _, _, _⟩ :: _) _ _); refine step_store S 70 (.tmp 11) (.tmp 39) _ _ rfl rfl _ _ pk 9 (by kernel_rfl) HCS.out rfl HCO.out rfl ?_; clear S; intro w S) | ((with_reducible show wpList _ _ _ (⟨_, .load 70 _, _, _, _, _⟩ :: _) _ _); first | (refine step_loadR 70 _ _ _ rfl _ (S.old_range hy) _ Tryd.underlying70 rfl 9 (by kernel_rfl) (by first | rfl | (first | rfl | assumption | (exact Hid.out (by assumption)) | (exact tokL_size _) | (rw [arr8_size]; first | rfl | assumption | (exact Hid.out (by assumption)) | exact tokL_size _ | exact List.length_replicate ..) | (simp [arr8_size]; done))) _ rfl gw ?_) | (refine step_loadP S 70 _ _ _ rfl _ _ _ pk 9 _ (by (first | exact cellsH_st .. | assumption | rfl)) (by first | rfl | (first | rfl | assumption | (exact Hid.out (by assumption)) | (exact tokL_size _) | (rw [arr8_size]; first | rfl | assumption | (exact Hid.out (by assumption)) | exact tokL_size _ | exact List.length_replicate ..) | (simp [arr8_size]; done))) _ Tryd.underlying70 rfl (by kernel_rfl) gw ?_)) | ((with_reducible show wpList _ _ _ (⟨some 11, .alloc 70, _, _, _, _⟩ :: _) _ _); refine step_alloc (dst := some 11) S 70 (.agg ((calL calZ).toArray)) ((calL calZ).toArray) (by kernel_rfl) rfl gw ?_; clear S; intro g11 w S) | ((with_reducible show wpList _ _ _ (⟨none, .store 70 (.tmp 11) (.tmp 39), _, _, _, _⟩ :: _) _ _); refine step_store S 70 (.tmp 11) (.tmp 39) _ _ rfl rfl _ _ pk 9 (by kernel_rfl) (by first | rfl | (first | rfl | assumption | (exact Hid.out (by assumption)) | (exact tokL_size _) | (rw [arr8_size]; first | rfl | assumption | (exact Hid.out (by assumption)) | exact tokL_size _ | exact List.length_replicate ..) | (simp [arr8_size]; done))) (by first | rfl | (first | rfl | assumption | (exact Hid.out (by assumption)) | (exact tokL_size _) | (rw [arr8_size]; first | rfl | assumption | (exact Hid.out (by assumption)) | exact tokL_size _ | exact List.length_replicate ..) | (simp [arr8_size]; done))) on1 gw ?_; clear S; intro w S) | ((with_reducible show wpList _ _ _ (⟨_, .load 5 _, _, _, _, _⟩ :: _) _ _); first | (refine step_load1 5 _ _ _ rfl (S.cell pk co) _ Tryd.underlying5 rfl gw ?_) | (refine step_load1 5 _ _ _ rfl (S.row_cell pk _ _ hyr) _ Tryd.underlying5 rfl gw ?_) | (refine step_load1 5 _ _ _ rfl (S.row_cellS pk _ _ hy) _ Tryd.underlying5 rfl gw ?_) | (refine step_load1 5 _ _ _ rfl (S.old_cell hy) _ Tryd.underlying5 rfl gw ?_)) | ((with_reducible show wpList _ _ _ (⟨_, .load 23 _, _, _, _, _⟩ :: _) _ _); first | (refine step_load1 23 _ _ _ rfl (S.cell pk co) _ Tryd.underlying23 rfl gw ?_) | (refine step_load1 23 _ _ _ rfl (S.row_cell pk _ _ hyr) _ Tryd.underlying23 rfl gw ?_) | (refine step_load1 23 _ _ _ rfl (S.row_cellS pk _ _ hy) _ Tryd.underlying23 rfl gw ?_) | (refine step_load1 23 _ _ _ rfl (S.old_cell hy) _ Tryd.underlying23 rfl gw ?_)) | ((with_reducible show wpList _ _ _ (⟨some 13, .alloc 27, _, _, _, _⟩ :: _) _ _); refine step_alloc (dst := some 13) S 27 (.agg ((tokL tokZ).toArray)) ((tokL tokZ).toArray) (by kernel_rfl) rfl gw ?_; clear S; intro g13 w S) | ((with_reducible show wpList _ _ _ (⟨none, .store 27 (.tmp 13) (.tmp 57), _, _, _, _⟩ :: _) _ _); refine step_store S 27 (.tmp 13) (.tmp 57) _ _ rfl rfl _ _ pk 36 (by kernel_rfl) (by first | rfl | (first | rfl | assumption | (exact Hid.out (by assumption)) | (exact tokL_size _) | (rw [arr8_size]; first | rfl | assumption | (exact Hid.out (by assumption)) | exact tokL_size _ | exact List.length_replicate ..) | (simp [arr8_size]; done))) (by first | rfl | (first | rfl | assumption | (exact Hid.out (by assumption)) | (exact tokL_size _) | (rw [arr8_size]; first | rfl | assumption | (exact Hid.out (by assumption)) | exact tokL_size _ | exact List.length_replicate ..) | (simp [arr8_size]; done))) on1 gw ?_; clear S; intro w S) | ((with_reducible show wpList _ _ _ (⟨some 16, .alloc 27, _, _, _, _⟩ :: _) _ _); refine step_alloc (dst := some 16) S 27 (.agg ((tokL tokZ).toArray)) ((tokL tokZ).toArray) (by kernel_rfl) rfl gw ?_; clear S; intro g16 w S) | ((with_reducible show wpList _ _ _ (⟨none, .store 27 (.tmp 16) (.tmp 71), _, _, _, _⟩ :: _) _ _); refine step_store S 27 (.tmp 16) (.tmp 71) _ _ rfl rfl _ _ pk 36 (by kernel_rfl) (by first | rfl | (first | rfl | assumption | (exact Hid.out (by assumption)) | (exact tokL_size _) | (rw [arr8_size]; first | rfl | assumption | (exact Hid.out (by assumption)) | exact tokL_size _ | exact List.length_replicate ..) | (simp [arr8_size]; done))) (by first | rfl | (first | rfl | assumption | (exact Hid.out (by assumption)) | (exact tokL_size _) | (rw [arr8_size]; first | rfl | assumption | (exact Hid.out (by assumption)) | exact tokL_size _ | exact List.length_replicate ..) | (simp [arr8_size]; done))) on1 gw ?_; clear S; intro w S) | (go_at_call 26; (with_reducible refine (same_r _ _ R1 _ (by first | assumption | exact S.old (Hid.out (by assumption)) | exact S.sl pk | exact S.sl_rd pk) (by first | assumption | exact S.old (Hid.out (by assumption)) | exact S.sl pk | exact S.sl_rd pk)).mono ?_); rintro e w1 ⟨rfl, T⟩; replace S := S.call T; clear T; (try simp only [List.nil_append, List.cons_append] at S)) | ((with_reducible show wpList _ _ _ (⟨_, .load 27 _, _, _, _, _⟩ :: _) _ _); first | (refine step_load S 27 _ _ rfl _ _ _ pk _ Tryd.underlying27 rfl 36 (by kernel_rfl) (by first | rfl | (first | rfl | assumption | (exact Hid.out (by assumption)) | (exact tokL_size _) | (rw [arr8_size]; first | rfl | assumption | (exact Hid.out (by assumption)) | exact tokL_size _ | exact List.length_replicate ..) | (simp [arr8_size]; done))) gw ?_) | (refine step_loadO 27 _ _ rfl _ _ _ (S.old_heap (Hid.out (by assumption))) _ Tryd.underlying27 rfl 36 (by kernel_rfl) (by first | rfl | (first | rfl | assumption | (exact Hid.out (by assumption)) | (exact tokL_size _) | (rw [arr8_size]; first | rfl | assumption | (exact Hid.out (by assumption)) | exact tokL_size _ | exact List.length_replicate ..) | (simp [arr8_size]; done))) gw ?_) | (refine step_loadR 27 _ _ _ rfl _ (S.old_range hy) _ Tryd.underlying27 rfl 36 (by kernel_rfl) (by first | rfl | (first | rfl | assumption | (exact Hid.out (by assumption)) | (exact tokL_size _) | (rw [arr8_size]; first | rfl | assumption | (exact Hid.out (by assumption)) | exact tokL_size _ | exact List.length_replicate ..) | (simp [arr8_size]; done))) _ rfl gw ?_)) | ((with_reducible show wpList _ _ _ (⟨_, .load 24 _, _, _, _, _⟩ :: _) _ _); first | (refine step_load1 24 _ _ _ rfl (S.cell pk co) _ Tryd.underlying24 rfl gw ?_) | (refine step_load1 24 _ _ _ rfl (S.row_cell pk _ _ hyr) _ Tryd.underlying24 rfl gw ?_) | (refine step_load1 24 _ _ _ rfl (S.row_cellS pk _ _ hy) _ Tryd.underlying24 rfl gw ?_) | (refine step_load1 24 _ _ _ rfl (S.old_cell hy) _ Tryd.underlying24 rfl gw ?_)) | (go_at_call 34; (with_reducible refine (P1.out _ _ (by first | assumption | exact S.old (Hid.out (by assumption)) | exact S.sl pk | exact S.sl_rd pk)).mono ?_); rintro e w1 ⟨v18, rfl, T⟩; replace S := S.call T; clear T; (try simp only [List.nil_append, List.cons_append] at S)) | (go_at_call 36; (with_reducible refine (P2.out _ _ (by first | assumption | exact S.old (Hid.out (by assumption)) | exact S.sl pk | exact S.sl_rd pk)).mono ?_); rintro e w1 ⟨v20, rfl, T⟩; replace S := S.call T; clear T; (try simp only [List.nil_append, List.cons_append] at S)) | ((with_reducible show wpList _ _ _ (⟨some 22, .alloc 27, _, _, _, _⟩ :: _) _ _); refine step_alloc (dst := some 22) S 27 (.agg ((tokL tokZ).toArray)) ((tokL tokZ).toArray) (by kernel_rfl) rfl gw ?_; clear S; intro g22 w S) | ((with_reducible show wpList _ _ _ (⟨none, .store 27 (.tmp 22) (.tmp 128), _, _, _, _⟩ :: _) _ _); refine step_store S 27 (.tmp 22) (.tmp 128) _ _ rfl rfl _ _ pk 36 (by kernel_rfl) (by first | rfl | (first | rfl | assumption | (exact Hid.out (by assumption)) | (exact tokL_size _) | (rw [arr8_size]; first | rfl | assumption | (exact Hid.out (by assumption)) | exact tokL_size _ | exact List.length_replicate ..) | (simp [arr8_size]; done))) (by first | rfl | (first | rfl | assumption | (exact Hid.out (by assumption)) | (exact tokL_size _) | (rw [arr8_size]; first | rfl | assumption | (exact Hid.out (by assumption)) | exact tokL_size _ | exact List.length_replicate ..) | (simp [arr8_size]; done))) on1 gw ?_; clear S; intro w S) | ((with_reducible show wpList _ _ _ (⟨_, .load 27 _, _, _, _, _⟩ :: _) _ _); first | (refine step_loadR 27 _ _ _ rfl _ (S.old_range hy) _ Tryd.underlying27 rfl 36 (by kernel_rfl) (by first | rfl | (first | rfl | assumption | (exact Hid.out (by assumption)) | (exact tokL_size _) | (rw [arr8_size]; first | rfl | assumption | (exact Hid.out (by assumption)) | exact tokL_size _ | exact List.length_replicate ..) | (simp [arr8_size]; done))) _ rfl gw ?_) | (refine step_loadP S 27 _ _ _ rfl _ _ _ pk 36 _ (by (first | exact cellsH_st .. | assumption | rfl)) (by first | rfl | (first | rfl | assumption | (exact Hid.out (by assumption)) | (exact tokL_size _) | (rw [arr8_size]; first | rfl | assumption | (exact Hid.out (by assumption)) | exact tokL_size _ | exact List.length_replicate ..) | (simp [arr8_size]; done))) _ Tryd.underlying27 rfl (by kernel_rfl) gw ?_)) | ((with_reducible show wpList _ _ _ (⟨_, .load 68 _, _, _, _, _⟩ :: _) _ _); first | (refine step_load1 68 _ _ _ rfl (S.cell pk co) _ Tryd.underlying68 rfl gw ?_) | (refine step_load1 68 _ _ _ rfl (S.row_cell pk _ _ hyr) _ Tryd.underlying68 rfl gw ?_) | (refine step_load1 68 _ _ _ rfl (S.row_cellS pk _ _ hy) _ Tryd.underlying68 rfl gw ?_) | (refine step_load1 68 _ _ _ rfl (S.old_cell hy) _ Tryd.underlying68 rfl gw ?_)) | ((with_reducible show wpList _ _ _ (⟨none, .store 27 (.tmp 22) (.tmp 143), _, _, _, _⟩ :: _) _ _); refine step_store S 27 (.tmp 22) (.tmp 143) _ _ rfl rfl _ _ pk 36 (by kernel_rfl) (by first | rfl | (first | rfl | assumption | (exact Hid.out (by assumption)) | (exact tokL_size _) | (rw [arr8_size]; first | rfl | assumption | (exact Hid.out (by assumption)) | exact tokL_size _ | exact List.length_replicate ..) | (simp [arr8_size]; done))) (by first | rfl | (first | rfl | assumption | (exact Hid.out (by assumption)) | (exact tokL_size _) | (rw [arr8_size]; first | rfl | assumption | (exact Hid.out (by assumption)) | exact tokL_size _ | exact List.length_replicate ..) | (simp [arr8_size]; done))) on1 gw ?_; clear S; intro w S) | ((with_reducible show wpList _ _ _ (⟨_, .load 3 _, _, _, _, _⟩ :: _) _ _); first | (refine step_load1 3 _ _ _ rfl (S.cell pk co) _ Tryd.underlying3 rfl gw ?_) | (refine step_load1 3 _ _ _ rfl (S.row_cell pk _ _ hyr) _ Tryd.underlying3 rfl gw ?_) | (refine step_load1 3 _ _ _ rfl (S.row_cellS pk _ _ hy) _ Tryd.underlying3 rfl gw ?_) | (refine step_load1 3 _ _ _ rfl (S.old_cell hy) _ Tryd.underlying3 rfl gw ?_)) | fail)
            go_roundw
            case rel => exact ⟨k + 1, R1, Gv, by omega, by omega, by go_num, S.sub (by repeat (first | exact Sub.nil _ | refine Sub.cons pk ?_))⟩
            all_goals first | omega | (simp only [intOf]; omega)
          · have n5 : (E == 0) = false := by simpa using hE0
            clear hE0
            have P1 := Lib.hid p1; have P2 := Lib.hid p2; clear p1 p2
            go_wp2_with (first | ((with_reducible show wpList _ _ _ (⟨none, .store 70 (.tmp 11) (.tmp 39), _, _, _, _⟩ :: _) _ _); refine step_store S 70 (.tmp 11) (.tmp 39) _ _ rfl rfl _ _ pk 9 (by kernel_rfl) HCS.out rfl HCO.out rfl ?_; clear S; intro w S) | ((with_reducible show wpList _ _ _ (⟨_, .load 70 _, _, _, _, _⟩ :: _) _ _); first | (refine step_loadR 70 _ _ _ rfl _ (S.old_range hy) _ Tryd.underlying70 rfl 9 (by kernel_rfl) (by first | rfl | (first | rfl | assumption | (exact Hid.out (by assumption)) | (exact tokL_size _) | (rw [arr8_size]; first | rfl | assumption | (exact Hid.out (by assumption)) | exact tokL_size _ | exact List.length_replicate ..) | (simp [arr8_size]; done))) _ rfl gw ?_) | (refine step_loadP S 70 _ _ _ rfl _ _ _ pk 9 _ (by (first | exact cellsH_st .. | assumption | rfl)) (by first | rfl | (first | rfl | assumption | (exact Hid.out (by assumption)) | (exact tokL_size _) | (rw [arr8_size]; first | rfl | assumption | (exact Hid.out (by assumption)) | exact tokL_size _ | exact List.length_replicate ..) | (simp [arr8_size]; done))) _ Tryd.underlying70 rfl (by kernel_rfl) gw ?_)) | ((with_reducible show wpList _ _ _ (⟨some 11, .alloc 70, _, _, _, _⟩ :: _) _ _); refine step_alloc (dst := some 11) S 70 (.agg ((calL calZ).toArray)) ((calL calZ).toArray) (by kernel_rfl) rfl gw ?_; clear S; intro g11 w S) | ((with_reducible show wpList _ _ _ (⟨none, .store 70 (.tmp 11) (.tmp 39), _, _, _, _⟩ :: _) _ _); refine step_store S 70 (.tmp 11) (.tmp 39) _ _ rfl rfl _ _ pk 9 (by kernel_rfl) (by first | rfl | (first | rfl | assumption | (exact Hid.out (by assumption)) | (exact tokL_size _) | (rw [arr8_size]; first | rfl | assumption | (exact Hid.out (by assumption)) | exact tokL_size _ | exact List.length_replicate ..) | (simp [arr8_size]; done))) (by first | rfl | (first | rfl | assumption | (exact Hid.out (by assumption)) | (exact tokL_size _) | (rw [arr8_size]; first | rfl | assumption | (exact Hid.out (by assumption)) | exact tokL_size _ | exact List.length_replicate ..) | (simp [arr8_size]; done))) on1 gw ?_; clear S; intro w S) | ((with_reducible show wpList _ _ _ (⟨_, .load 5 _, _, _, _, _⟩ :: _) _ _); first | (refine step_load1 5 _ _ _ rfl (S.cell pk co) _ Tryd.underlying5 rfl gw ?_) | (refine step_load1 5 _ _ _ rfl (S.row_cell pk _ _ hyr) _ Tryd.underlying5 rfl gw ?_) | (refine step_load1 5 _ _ _ rfl (S.row_cellS pk _ _ hy) _ Tryd.underlying5 rfl gw ?_) | (refine step_load1 5 _ _ _ rfl (S.old_cell hy) _ Tryd.underlying5 rfl gw ?_)) | ((with_reducible show wpList _ _ _ (⟨_, .load 23 _, _, _, _, _⟩ :: _) _ _); first | (refine step_load1 23 _ _ _ rfl (S.cell pk co) _ Tryd.underlying23 rfl gw ?_) | (refine step_load1 23 _ _ _ rfl (S.row_cell pk _ _ hyr) _ Tryd.underlying23 rfl gw ?_) | (refine step_load1 23 _ _ _ rfl (S.row_cellS pk _ _ hy) _ Tryd.underlying23 rfl gw ?_) | (refine step_load1 23 _ _ _ rfl (S.old_cell hy) _ Tryd.underlying23 rfl gw ?_)) | ((with_reducible show wpList _ _ _ (⟨some 13, .alloc 27, _, _, _, _⟩ :: _) _ _); refine step_alloc (dst := some 13) S 27 (.agg ((tokL tokZ).toArray)) ((tokL tokZ).toArray) (by kernel_rfl) rfl gw ?_; clear S; intro g13 w S) | ((with_reducible show wpList _ _ _ (⟨none, .store 27 (.tmp 13) (.tmp 57), _, _, _, _⟩ :: _) _ _); refine step_store S 27 (.tmp 13) (.tmp 57) _ _ rfl rfl _ _ pk 36 (by kernel_rfl) (by first | rfl | (first | rfl | assumption | (exact Hid.out (by assumption)) | (exact tokL_size _) | (rw [arr8_size]; first | rfl | assumption | (exact Hid.out (by assumption)) | exact tokL_size _ | exact List.length_replicate ..) | (simp [arr8_size]; done))) (by first | rfl | (first | rfl | assumption | (exact Hid.out (by assumption)) | (exact tokL_size _) | (rw [arr8_size]; first | rfl | assumption | (exact Hid.out (by assumption)) | exact tokL_size _ | exact List.length_replicate ..) | (simp [arr8_size]; done))) on1 gw ?_; clear S; intro w S) | ((with_reducible show wpList _ _ _ (⟨some 16, .alloc 27, _, _, _, _⟩ :: _) _ _); refine step_alloc (dst := some 16) S 27 (.agg ((tokL tokZ).toArray)) ((tokL tokZ).toArray) (by kernel_rfl) rfl gw ?_; clear S; intro g16 w S) | ((with_reducible show wpList _ _ _ (⟨none, .store 27 (.tmp 16) (.tmp 71), _, _, _, _⟩ :: _) _ _); refine step_store S 27 (.tmp 16) (.tmp 71) _ _ rfl rfl _ _ pk 36 (by kernel_rfl) (by first | rfl | (first | rfl | assumption | (exact Hid.out (by assumption)) | (exact tokL_size _) | (rw [arr8_size]; first | rfl | assumption | (exact Hid.out (by assumption)) | exact tokL_size _ | exact List.length_replicate ..) | (simp [arr8_size]; done))) (by first | rfl | (first | rfl | assumption | (exact Hid.out (by assumption)) | (exact tokL_size _) | (rw [arr8_size]; first | rfl | assumption | (exact Hid.out (by assumption)) | exact tokL_size _ | exact List.length_replicate ..) | (simp [arr8_size]; done))) on1 gw ?_; clear S; intro w S) | (go_at_call 26; (with_reducible refine (same_r _ _ R1 _ (by first | assumption | exact S.old (Hid.out (by assumption)) | exact S.sl pk | exact S.sl_rd pk) (by first | assumption | exact S.old (Hid.out (by assumption)) | exact S.sl pk | exact S.sl_rd pk)).mono ?_); rintro e w1 ⟨rfl, T⟩; replace S := S.call T; clear T; (try simp only [List.nil_append, List.cons_append] at S)) | ((with_reducible show wpList _ _ _ (⟨_, .load 27 _, _, _, _, _⟩ :: _) _ _); first | (refine step_load S 27 _ _ rfl _ _ _ pk _ Tryd.underlying27 rfl 36 (by kernel_rfl) (by first | rfl | (first | rfl | assumption | (exact Hid.out (by assumption)) | (exact tokL_size _) | (rw [arr8_size]; first | rfl | assumption | (exact Hid.out (by assumption)) | exact tokL_size _ | exact List.length_replicate ..) | (simp [arr8_size]; done))) gw ?_) | (refine step_loadO 27 _ _ rfl _ _ _ (S.old_heap (Hid.out (by assumption))) _ Tryd.underlying27 rfl 36 (by kernel_rfl) (by first | rfl | (first | rfl | assumption | (exact Hid.out (by assumption)) | (exact tokL_size _) | (rw [arr8_size]; first | rfl | assumption | (exact Hid.out (by assumption)) | exact tokL_size _ | exact List.length_replicate ..) | (simp [arr8_size]; done))) gw ?_) | (refine step_loadR 27 _ _ _ rfl _ (S.old_range hy) _ Tryd.underlying27 rfl 36 (by kernel_rfl) (by first | rfl | (first | rfl | assumption | (exact Hid.out (by assumption)) | (exact tokL_size _) | (rw [arr8_size]; first | rfl | assumption | (exact Hid.out (by assumption)) | exact tokL_size _ | exact List.length_replicate ..) | (simp [arr8_size]; done))) _ rfl gw ?_)) | ((with_reducible show wpList _ _ _ (⟨_, .load 24 _, _, _, _, _⟩ :: _) _ _); first | (refine step_load1 24 _ _ _ rfl (S.cell pk co) _ Tryd.underlying24 rfl gw ?_) | (refine step_load1 24 _ _ _ rfl (S.row_cell pk _ _ hyr) _ Tryd.underlying24 rfl gw ?_) | (refine step_load1 24 _ _ _ rfl (S.row_cellS pk _ _ hy) _ Tryd.underlying24 rfl gw ?_) | (refine step_load1 24 _ _ _ rfl (S.old_cell hy) _ Tryd.underlying24 rfl gw ?_)) | (go_at_call 34; (with_reducible refine (P1.out _ _ (by first | assumption | exact S.old (Hid.out (by assumption)) | exact S.sl pk | exact S.sl_rd pk)).mono ?_); rintro e w1 ⟨v18, rfl, T⟩; replace S := S.call T; clear T; (try simp only [List.nil_append, List.cons_append] at S)) | (go_at_call 36; (with_reducible refine (P2.out _ _ (by first | assumption | exact S.old (Hid.out (by assumption)) | exact S.sl pk | exact S.sl_rd pk)).mono ?_); rintro e w1 ⟨v20, rfl, T⟩; replace S := S.call T; clear T; (try simp only [List.nil_append, List.cons_append] at S)) | ((with_reducible show wpList _ _ _ (⟨some 22, .alloc 27, _, _, _, _⟩ :: _) _ _); refine step_alloc (dst := some 22) S 27 (.agg ((tokL tokZ).toArray)) ((tokL tokZ).toArray) (by kernel_rfl) rfl gw ?_; clear S; intro g22 w S) | ((with_reducible show wpList _ _ _ (⟨none, .store 27 (.tmp 22) (.tmp 128), _, _, _, _⟩ :: _) _ _); refine step_store S 27 (.tmp 22) (.tmp 128) _ _ rfl rfl _ _ pk 36 (by kernel_rfl) (by first | rfl | (first | rfl | assumption | (exact Hid.out (by assumption)) | (exact tokL_size _) | (rw [arr8_size]; first | rfl | assumption | (exact Hid.out (by assumption)) | exact tokL_size _ | exact List.length_replicate ..) | (simp [arr8_size]; done))) (by first | rfl | (first | rfl | assumption | (exact Hid.out (by assumption)) | (exact tokL_size _) | (rw [arr8_size]; first | rfl | assumption | (exact Hid.out (by assumption)) | exact tokL_size _ | exact List.length_replicate ..) | (simp [arr8_size]; done))) on1 gw ?_; clear S; intro w S) | ((with_reducible show wpList _ _ _ (⟨_, .load 27 _, _, _, _, _⟩ :: _) _ _); first | (refine step_loadR 27 _ _ _ rfl _ (S.old_range hy) _ Tryd.underlying27 rfl 36 (by kernel_rfl) (by first | rfl | (first | rfl | assumption | (exact Hid.out (by assumption)) | (exact tokL_size _) | (rw [arr8_size]; first | rfl | assumption | (exact Hid.out (by assumption)) | exact tokL_size _ | exact List.length_replicate ..) | (simp [arr8_size]; done))) _ rfl gw ?_) | (refine step_loadP S 27 _ _ _ rfl _ _ _ pk 36 _ (by (first | exact cellsH_st .. | assumption | rfl)) (by first | rfl | (first | rfl | assumption | (exact Hid.out (by assumption)) | (exact tokL_size _) | (rw [arr8_size]; first | rfl | assumption | (exact Hid.out (by assumption)) | exact tokL_size _ | exact List.length_replicate ..) | (simp [arr8_size]; done))) _ Tryd.underlying27 rfl (by kernel_rfl) gw ?_)) | ((with_reducible show wpList _ _ _ (⟨_, .load 68 _, _, _, _, _⟩ :: _) _ _); first | (refine step_load1 68 _ _ _ rfl (S.cell pk co) _ Tryd.underlying68 rfl gw ?_) | (refine step_load1 68 _ _ _ rfl (S.row_cell pk _ _ hyr) _ Tryd.underlying68 rfl gw ?_) | (refine step_load1 68 _ _ _ rfl (S.row_cellS pk _ _ hy) _ Tryd.underlying68 rfl gw ?_) | (refine step_load1 68 _ _ _ rfl (S.old_cell hy) _ Tryd.underlying68 rfl gw ?_)) | ((with_reducible show wpList _ _ _ (⟨none, .store 27 (.tmp 22) (.tmp 143), _, _, _, _⟩ :: _) _ _); refine step_store S 27 (.tmp 22) (.tmp 143) _ _ rfl rfl _ _ pk 36 (by kernel_rfl) (by first | rfl | (first | rfl | assumption | (exact Hid.out (by assumption)) | (exact tokL_size _) | (rw [arr8_size]; first | rfl | assumption | (exact Hid.out (by assumption)) | exact tokL_size _ | exact List.length_replicate ..) | (simp [arr8_size]; done))) (by first | rfl | (first | rfl | assumption | (exact Hid.out (by assumption)) | (exact tokL_size _) | (rw [arr8_size]; first | rfl | assumption | (exact Hid.out (by assumption)) | exact tokL_size _ | exact List.length_replicate ..) | (simp [arr8_size]; done))) on1 gw ?_; clear S; intro w S) | ((with_reducible show wpList _ _ _ (⟨_, .load 3 _, _, _, _, _⟩ :: _) _ _); first | (refine step_load1 3 _ _ _ rfl (S.cell pk co) _ Tryd.underlying3 rfl gw ?_) | (refine step_load1 3 _ _ _ rfl (S.row_cell pk _ _ hyr) _ Tryd.underlying3 rfl gw ?_) | (refine step_load1 3 _ _ _ rfl (S.row_cellS pk _ _ hy) _ Tryd.underlying3 rfl gw ?_) | (refine step_load1 3 _ _ _ rfl (S.old_cell hy) _ Tryd.underlying3 rfl gw ?_)) | fail)
            go_roundw
            case rel => exact ⟨k + 1, R, Gv, by omega, by omega, by go_num, S.sub (by repeat (first | exact Sub.nil _ | refine Sub.cons pk ?_))⟩
            all_goals first | omega | (simp only [intOf]; omega)
        · -- Authorize
          have q1 := c.kind.toNat_lt
          have q2 := c.now.toNat_lt
          have HTN := Lib.hid (And.intro c.lo c.hi)
          by_cases hG0 : Gv.length = 0
          · obtain ⟨T2, hT2⟩ : ∃ T2 : Tok, T2 = ⟨0, 0, 0, c.serial, zs32, rfl⟩ := ⟨_, rfl⟩
            have HT2 := Lib.hid hT2
            clear hT2
            have p1 := fun v w (h : Rg w v R) h2 hK hP => authz_s v (.slice a0 key.length c0) R key c.tenant T2 c.kind.toNat c.now.toNat w h h2 hK hP HTN.out (by omega) (by omega)
            have p2 := fun v w (h : Rg w v R) h2 => refAuthorize_s v (.slice a0 key.length c0) R key c.tenant T2 c.kind.toNat c.now.toNat w h h2 HTN.out (by omega) (by omega)
            generalize auzE R key c.tenant T2 c.kind.toNat c.now.toNat = E at p1 p2
            have P1 := Lib.hid p1; have P2 := Lib.hid p2; clear p1 p2
            obtain ⟨ag, cg, rfl, kg1, kg2⟩ := Sl.shape (S.sl (v := u9) pk)
            have hg0 : (Gv.length : Int) = 0 := by omega
            clear hG0
            go_wp2_with (first | ((with_reducible show wpList _ _ _ (⟨none, .store 70 (.tmp 11) (.tmp 39), _, _, _, _⟩ :: _) _ _); refine step_store S 70 (.tmp 11) (.tmp 39) _ _ rfl rfl _ _ pk 9 (by kernel_rfl) HCS.out rfl HCO.out rfl ?_; clear S; intro w S) | ((with_reducible show wpList _ _ _ (⟨some 128, .build 27 _, _, _, _, _⟩ :: _) _ _); refine step_buildTS (.tmp 127) c.serial rfl rfl ?_; rw [← HT2.out]) | ((with_reducible show wpList _ _ _ (⟨_, .load 70 _, _, _, _, _⟩ :: _) _ _); first | (refine step_loadR 70 _ _ _ rfl _ (S.old_range hy) _ Tryd.underlying70 rfl 9 (by kernel_rfl) (by first | rfl | (first | rfl | assumption | (exact Hid.out (by assumption)) | (exact tokL_size _) | (rw [arr8_size]; first | rfl | assumption | (exact Hid.out (by assumption)) | exact tokL_size _ | exact List.length_replicate ..) | (simp [arr8_size]; done))) _ rfl gw ?_) | (refine step_loadP S 70 _ _ _ rfl _ _ _ pk 9 _ (by (first | exact cellsH_st .. | assumption | rfl)) (by first | rfl | (first | rfl | assumption | (exact Hid.out (by assumption)) | (exact tokL_size _) | (rw [arr8_size]; first | rfl | assumption | (exact Hid.out (by assumption)) | exact tokL_size _ | exact List.length_replicate ..) | (simp [arr8_size]; done))) _ Tryd.underlying70 rfl (by kernel_rfl) gw ?_)) | ((with_reducible show wpList _ _ _ (⟨some 11, .alloc 70, _, _, _, _⟩ :: _) _ _); refine step_alloc (dst := some 11) S 70 (.agg ((calL calZ).toArray)) ((calL calZ).toArray) (by kernel_rfl) rfl gw ?_; clear S; intro g11 w S) | ((with_reducible show wpList _ _ _ (⟨none, .store 70 (.tmp 11) (.tmp 39), _, _, _, _⟩ :: _) _ _); refine step_store S 70 (.tmp 11) (.tmp 39) _ _ rfl rfl _ _ pk 9 (by kernel_rfl) (by first | rfl | (first | rfl | assumption | (exact Hid.out (by assumption)) | (exact tokL_size _) | (rw [arr8_size]; first | rfl | assumption | (exact Hid.out (by assumption)) | exact tokL_size _ | exact List.length_replicate ..) | (simp [arr8_size]; done))) (by first | rfl | (first | rfl | assumption | (exact Hid.out (by assumption)) | (exact tokL_size _) | (rw [arr8_size]; first | rfl | assumption | (exact Hid.out (by assumption)) | exact tokL_size _ | exact List.length_replicate ..) | (simp [arr8_size]; done))) on1 gw ?_; clear S; intro w S) | ((with_reducible show wpList _ _ _ (⟨_, .load 5 _, _, _, _, _⟩ :: _) _ _); first | (refine step_load1 5 _ _ _ rfl (S.cell pk co) _ Tryd.underlying5 rfl gw ?_) | (refine step_load1 5 _ _ _ rfl (S.row_cell pk _ _ hyr) _ Tryd.underlying5 rfl gw ?_) | (refine step_load1 5 _ _ _ rfl (S.row_cellS pk _ _ hy) _ Tryd.underlying5 rfl gw ?_) | (refine step_load1 5 _ _ _ rfl (S.old_cell hy) _ Tryd.underlying5 rfl gw ?_)) | ((with_reducible show wpList _ _ _ (⟨_, .load 23 _, _, _, _, _⟩ :: _) _ _); first | (refine step_load1 23 _ _ _ rfl (S.cell pk co) _ Tryd.underlying23 rfl gw ?_) | (refine step_load1 23 _ _ _ rfl (S.row_cell pk _ _ hyr) _ Tryd.underlying23 rfl gw ?_) | (refine step_load1 23 _ _ _ rfl (S.row_cellS pk _ _ hy) _ Tryd.underlying23 rfl gw ?_) | (refine step_load1 23 _ _ _ rfl (S.old_cell hy) _ Tryd.underlying23 rfl gw ?_)) | ((with_reducible show wpList _ _ _ (⟨some 13, .alloc 27, _, _, _, _⟩ :: _) _ _); refine step_alloc (dst := some 13) S 27 (.agg ((tokL tokZ).toArray)) ((tokL tokZ).toArray) (by kernel_rfl) rfl gw ?_; clear S; intro g13 w S) | ((with_reducible show wpList _ _ _ (⟨none, .store 27 (.tmp 13) (.tmp 57), _, _, _, _⟩ :: _) _ _); refine step_store S 27 (.tmp 13) (.tmp 57) _ _ rfl rfl _ _ pk 36 (by kernel_rfl) (by first | rfl | (first | rfl | assumption | (exact Hid.out (by assumption)) | (exact tokL_size _) | (rw [arr8_size]; first | rfl | assumption | (exact Hid.out (by assumption)) | exact tokL_size _ | exact List.length_replicate ..) | (simp [arr8_size]; done))) (by first | rfl | (first | rfl | assumption | (exact Hid.out (by assumption)) | (exact tokL_size _) | (rw [arr8_size]; first | rfl | assumption | (exact Hid.out (by assumption)) | exact tokL_size _ | exact List.length_replicate ..) | (simp [arr8_size]; done))) on1 gw ?_; clear S; intro w S) | ((with_reducible show wpList _ _ _ (⟨some 16, .alloc 27, _, _, _, _⟩ :: _) _ _); refine step_alloc (dst := some 16) S 27 (.agg ((tokL tokZ).toArray)) ((tokL tokZ).toArray) (by kernel_rfl) rfl gw ?_; clear S; intro g16 w S) | ((with_reducible show wpList _ _ _ (⟨none, .store 27 (.tmp 16) (.tmp 71), _, _, _, _⟩ :: _) _ _); refine step_store S 27 (.tmp 16) (.tmp 71) _ _ rfl rfl _ _ pk 36 (by kernel_rfl) (by first | rfl | (first | rfl | assumption | (exact Hid.out (by assumption)) | (exact tokL_size _) | (rw [arr8_size]; first | rfl | assumption | (exact Hid.out (by assumption)) | exact tokL_size _ | exact List.length_replicate ..) | (simp [arr8_size]; done))) (by first | rfl | (first | rfl | assumption | (exact Hid.out (by assumption)) | (exact tokL_size _) | (rw [arr8_size]; first | rfl | assumption | (exact Hid.out (by assumption)) | exact tokL_size _ | exact List.length_replicate ..) | (simp [arr8_size]; done))) on1 gw ?_; clear S; intro w S) | ((with_reducible show wpList _ _ _ (⟨_, .load 27 _, _, _, _, _⟩ :: _) _ _); first | (refine step_load S 27 _ _ rfl _ _ _ pk _ Tryd.underlying27 rfl 36 (by kernel_rfl) (by first | rfl | (first | rfl | assumption | (exact Hid.out (by assumption)) | (exact tokL_size _) | (rw [arr8_size]; first | rfl | assumption | (exact Hid.out (by assumption)) | exact tokL_size _ | exact List.length_replicate ..) | (simp [arr8_size]; done))) gw ?_) | (refine step_loadO 27 _ _ rfl _ _ _ (S.old_heap (Hid.out (by assumption))) _ Tryd.underlying27 rfl 36 (by kernel_rfl) (by first | rfl | (first | rfl | assumption | (exact Hid.out (by assumption)) | (exact tokL_size _) | (rw [arr8_size]; first | rfl | assumption | (exact Hid.out (by assumption)) | exact tokL_size _ | exact List.length_replicate ..) | (simp [arr8_size]; done))) gw ?_) | (refine step_loadR 27 _ _ _ rfl _ (S.old_range hy) _ Tryd.underlying27 rfl 36 (by kernel_rfl) (by first | rfl | (first | rfl | assumption | (exact Hid.out (by assumption)) | (exact tokL_size _) | (rw [arr8_size]; first | rfl | assumption | (exact Hid.out (by assumption)) | exact tokL_size _ | exact List.length_replicate ..) | (simp [arr8_size]; done))) _ rfl gw ?_)) | ((with_reducible show wpList _ _ _ (⟨_, .load 24 _, _, _, _, _⟩ :: _) _ _); first | (refine step_load1 24 _ _ _ rfl (S.cell pk co) _ Tryd.underlying24 rfl gw ?_) | (refine step_load1 24 _ _ _ rfl (S.row_cell pk _ _ hyr) _ Tryd.underlying24 rfl gw ?_) | (refine step_load1 24 _ _ _ rfl (S.row_cellS pk _ _ hy) _ Tryd.underlying24 rfl gw ?_) | (refine step_load1 24 _ _ _ rfl (S.old_cell hy) _ Tryd.underlying24 rfl gw ?_)) | ((with_reducible show wpList _ _ _ (⟨some 22, .alloc 27, _, _, _, _⟩ :: _) _ _); refine step_alloc (dst := some 22) S 27 (.agg ((tokL tokZ).toArray)) ((tokL tokZ).toArray) (by kernel_rfl) rfl gw ?_; clear S; intro g22 w S) | ((with_reducible show wpList _ _ _ (⟨none, .store 27 (.tmp 22) (.tmp 128), _, _, _, _⟩ :: _) _ _); refine step_store S 27 (.tmp 22) (.tmp 128) _ _ rfl rfl _ _ pk 36 (by kernel_rfl) (by first | rfl | (first | rfl | assumption | (exact Hid.out (by assumption)) | (exact tokL_size _) | (rw [arr8_size]; first | rfl | assumption | (exact Hid.out (by assumption)) | exact tokL_size _ | exact List.length_replicate ..) | (simp [arr8_size]; done))) (by first | rfl | (first | rfl | assumption | (exact Hid.out (by assumption)) | (exact tokL_size _) | (rw [arr8_size]; first | rfl | assumption | (exact Hid.out (by assumption)) | exact tokL_size _ | exact List.length_replicate ..) | (simp [arr8_size]; done))) on1 gw ?_; clear S; intro w S) | ((with_reducible show wpList _ _ _ (⟨_, .load 27 _, _, _, _, _⟩ :: _) _ _); first | (refine step_loadR 27 _ _ _ rfl _ (S.old_range hy) _ Tryd.underlying27 rfl 36 (by kernel_rfl) (by first | rfl | (first | rfl | assumption | (exact Hid.out (by assumption)) | (exact tokL_size _) | (rw [arr8_size]; first | rfl | assumption | (exact Hid.out (by assumption)) | exact tokL_size _ | exact List.length_replicate ..) | (simp [arr8_size]; done))) _ rfl gw ?_) | (refine step_loadP S 27 _ _ _ rfl _ _ _ pk 36 _ (by (first | exact cellsH_st .. | assumption | rfl)) (by first | rfl | (first | rfl | assumption | (exact Hid.out (by assumption)) | (exact tokL_size _) | (rw [arr8_size]; first | rfl | assumption | (exact Hid.out (by assumption)) | exact tokL_size _ | exact List.length_replicate ..) | (simp [arr8_size]; done))) _ Tryd.underlying27 rfl (by kernel_rfl) gw ?_)) | ((with_reducible show wpList _ _ _ (⟨_, .load 68 _, _, _, _, _⟩ :: _) _ _); first | (refine step_load1 68 _ _ _ rfl (S.cell pk co) _ Tryd.underlying68 rfl gw ?_) | (refine step_load1 68 _ _ _ rfl (S.row_cell pk _ _ hyr) _ Tryd.underlying68 rfl gw ?_) | (refine step_load1 68 _ _ _ rfl (S.row_cellS pk _ _ hy) _ Tryd.underlying68 rfl gw ?_) | (refine step_load1 68 _ _ _ rfl (S.old_cell hy) _ Tryd.underlying68 rfl gw ?_)) | ((with_reducible show wpList _ _ _ (⟨none, .store 27 (.tmp 22) (.tmp 143), _, _, _, _⟩ :: _) _ _); refine step_store S 27 (.tmp 22) (.tmp 143) _ _ rfl rfl _ _ pk 36 (by kernel_rfl) (by first | rfl | (first | rfl | assumption | (exact Hid.out (by assumption)) | (exact tokL_size _) | (rw [arr8_size]; first | rfl | assumption | (exact Hid.out (by assumption)) | exact tokL_size _ | exact List.length_replicate ..) | (simp [arr8_size]; done))) (by first | rfl | (first | rfl | assumption | (exact Hid.out (by assumption)) | (exact tokL_size _) | (rw [arr8_size]; first | rfl | assumption | (exact Hid.out (by assumption)) | exact tokL_size _ | exact List.length_replicate ..) | (simp [arr8_size]; done))) on1 gw ?_; clear S; intro w S) | ((with_reducible show wpList _ _ _ (⟨_, .load 3 _, _, _, _, _⟩ :: _) _ _); first | (refine step_load1 3 _ _ _ rfl (S.cell pk co) _ Tryd.underlying3 rfl gw ?_) | (refine step_load1 3 _ _ _ rfl (S.row_cell pk _ _ hyr) _ Tryd.underlying3 rfl gw ?_) | (refine step_load1 3 _ _ _ rfl (S.row_cellS pk _ _ hy) _ Tryd.underlying3 rfl gw ?_) | (refine step_load1 3 _ _ _ rfl (S.old_cell hy) _ Tryd.underlying3 rfl gw ?_)) | fail)
            refine wp_rely S [⟨[], [], [], fun _ v => v = (u7), fun _ v => []⟩, ⟨[], [], [], fun _ v => v = (.slice a0 key.length c0), fun _ v => []⟩, ⟨[], [], [], fun _ v => v = .pointer (some ⟨g11, 7, none⟩), fun _ v => []⟩, ⟨[2], [], [], fun _ v => v = .int .i64 c.tenant, fun _ v => []⟩, ⟨[], [], [], fun _ v => v = .agg (tokL T2).toArray, fun _ v => []⟩, ⟨[], [], [], fun _ v => v = .pointer (some ⟨g11, 6, none⟩), fun _ v => []⟩, ⟨[5], [], [], fun _ v => v = .int .u8 (c.kind.toNat : Int), fun _ v => []⟩, ⟨[], [], [], fun _ v => v = .pointer (some ⟨g11, 3, none⟩), fun _ v => []⟩, ⟨[7], [], [], fun _ v => v = .int .u64 (c.now.toNat : Int), fun _ v => []⟩, ⟨[0, 1, 2, 3, 4, 5, 6, 7, 8], [], [], fun _ v => v = .int .i64 E, fun _ v => []⟩, ⟨[], [], [], fun _ v => v = (u8), fun _ v => []⟩, ⟨[], [], [], fun _ v => v = (.slice a0 key.length c0), fun _ v => []⟩, ⟨[], [], [], fun _ v => v = .pointer (some ⟨g11, 7, none⟩), fun _ v => []⟩, ⟨[12], [], [], fun _ v => v = .int .i64 c.tenant, fun _ v => []⟩, ⟨[], [], [], fun _ v => v = .agg (tokL T2).toArray, fun _ v => []⟩, ⟨[], [], [], fun _ v => v = .pointer (some ⟨g11, 6, none⟩), fun _ v => []⟩, ⟨[15], [], [], fun _ v => v = .int .u8 (c.kind.toNat : Int), fun _ v => []⟩, ⟨[], [], [], fun _ v => v = .pointer (some ⟨g11, 3, none⟩), fun _ v => []⟩, ⟨[17], [], [], fun _ v => v = .int .u64 (c.now.toNat : Int), fun _ v => []⟩, ⟨[0, 1, 2, 3, 4, 5, 6, 7, 8, 9, 10, 11, 12, 13, 14, 15, 16, 17, 18], [], [], fun _ v => v = .int .i64 E, fun _ v => []⟩, ⟨[0, 1, 2, 3, 4, 5, 6, 7, 8, 9, 10, 11, 12, 13, 14, 15, 16, 17, 18, 19], [], [], fun _ v => v = .bool false, fun _ v => []⟩] ?A1 ?hA1 (by kernel_rfl) (by kernel_rfl) (by kernel_rfl) [0, 1, 2, 3, 4, 5, 6, 7, 8, 9, 10, 11, 12, 13, 14, 15, 16, 17, 18, 19, 20] (by kernel_rfl) ?hok1 ?fin1
            case hA1 => intro u; simp only [putAll, List.length_cons, List.length_nil, Nat.zero_add, Nat.reduceAdd, dstAt, List.getElem?_toArray, List.getElem?_cons_zero, List.getElem?_cons_succ, Option.bind_some, Act.put, List.setIfInBounds_toArray, List.set_cons_zero, List.set_cons_succ]; rfl
            case hok1 =>
              intro i hi
              obtain rfl | rfl | rfl | rfl | rfl | rfl | rfl | rfl | rfl | rfl | rfl | rfl | rfl | rfl | rfl | rfl | rfl | rfl | rfl | rfl | rfl : i = 0 ∨ i = 1 ∨ i = 2 ∨ i = 3 ∨ i = 4 ∨ i = 5 ∨ i = 6 ∨ i = 7 ∨ i = 8 ∨ i = 9 ∨ i = 10 ∨ i = 11 ∨ i = 12 ∨ i = 13 ∨ i = 14 ∨ i = 15 ∨ i = 16 ∨ i = 17 ∨ i = 18 ∨ i = 19 ∨ i = 20 := by simp only [List.length_cons, List.length_nil, Nat.zero_add, Nat.reduceAdd] at hi; omega
              · clear hi
                refine step_of rfl rfl rfl ?_
                intro u G w hf S
                simp only [resOf, spec, RSpec.resAt, z0, z1, z2, z3, z4, z5, z6, z7, ptrBlk] at S ⊢
                simp only [does]
                go_simp
                try first | exact S | exact ⟨vv, S⟩ | exact vv
              · clear hi
                refine step_of rfl rfl rfl ?_
                intro u G w hf S
                simp only [resOf, spec, RSpec.resAt, z0, z1, z2, z3, z4, z5, z6, z7, ptrBlk] at S ⊢
                simp only [does]
                go_simp
                try first | exact S | exact ⟨vv, S⟩ | exact vv
              · clear hi
                refine step_of rfl rfl rfl ?_
                intro u G w hf S
                simp only [resOf, spec, RSpec.resAt, z0, z1, z2, z3, z4, z5, z6, z7, ptrBlk] at S ⊢
                simp only [does]
                go_simp
                try first | exact S | exact ⟨vv, S⟩ | exact vv
              · clear hi
                refine step_of rfl rfl rfl ?_
                intro u G w hf S
                have f2 : u 2 = .pointer (some ⟨g11, 7, none⟩) := hf 2 (by simp)
                simp only [resOf, spec, RSpec.resAt, z0, z1, z2, z3, z4, z5, z6, z7, ptrBlk] at S ⊢
                simp only [f2]
                refine does_load1 3 (.tmp 146) _ _ rfl (S.cell (g := g11) pk co) _ Tryd.underlying3 rfl ?_; exact ⟨rfl, S⟩
              · clear hi
                refine step_of rfl rfl rfl ?_
                intro u G w hf S
                simp only [resOf, spec, RSpec.resAt, z0, z1, z2, z3, z4, z5, z6, z7, ptrBlk] at S ⊢
                refine does_load 27 (.tmp 22) g22 rfl _ _ _ (S.get (r := blk g22 _) pk) _ Tryd.underlying27 rfl 36 (by kernel_rfl) (by first | rfl | (first | rfl | assumption | (exact Hid.out (by assumption)) | (exact tokL_size _) | (rw [arr8_size]; first | rfl | assumption | (exact Hid.out (by assumption)) | exact tokL_size _ | exact List.length_replicate ..) | (simp [arr8_size]; done))) ?_; exact ⟨rfl, S⟩
              · clear hi
                refine step_of rfl rfl rfl ?_
                intro u G w hf S
                simp only [resOf, spec, RSpec.resAt, z0, z1, z2, z3, z4, z5, z6, z7, ptrBlk] at S ⊢
                simp only [does]
                go_simp
                try first | exact S | exact ⟨vv, S⟩ | exact vv
              · clear hi
                refine step_of rfl rfl rfl ?_
                intro u G w hf S
                have f5 : u 5 = .pointer (some ⟨g11, 6, none⟩) := hf 5 (by simp)
                simp only [resOf, spec, RSpec.resAt, z0, z1, z2, z3, z4, z5, z6, z7, ptrBlk] at S ⊢
                simp only [f5]
                refine does_load1 5 (.tmp 149) _ _ rfl (S.cell (g := g11) pk co) _ Tryd.underlying5 rfl ?_; exact ⟨rfl, S⟩
              · clear hi
                refine step_of rfl rfl rfl ?_
                intro u G w hf S
                simp only [resOf, spec, RSpec.resAt, z0, z1, z2, z3, z4, z5, z6, z7, ptrBlk] at S ⊢
                simp only [does]
                go_simp
                try first | exact S | exact ⟨vv, S⟩ | exact vv
              · clear hi
                refine step_of rfl rfl rfl ?_
                intro u G w hf S
                have f7 : u 7 = .pointer (some ⟨g11, 3, none⟩) := hf 7 (by simp)
                simp only [resOf, spec, RSpec.resAt, z0, z1, z2, z3, z4, z5, z6, z7, ptrBlk] at S ⊢
                simp only [f7]
                refine does_load1 23 (.tmp 151) _ _ rfl (S.cell (g := g11) pk co) _ Tryd.underlying23 rfl ?_; exact ⟨rfl, S⟩
              · clear hi
                refine step_of rfl rfl rfl ?_
                intro u G w hf S
                have f0 : u 0 = (u7) := hf 0 (by simp)
                have f1 : u 1 = (.slice a0 key.length c0) := hf 1 (by simp)
                have f2 : u 2 = .pointer (some ⟨g11, 7, none⟩) := hf 2 (by simp)
                have f3 : u 3 = .int .i64 c.tenant := hf 3 (by simp)
                have f4 : u 4 = .agg (tokL T2).toArray := hf 4 (by simp)
                have f5 : u 5 = .pointer (some ⟨g11, 6, none⟩) := hf 5 (by simp)
                have f6 : u 6 = .int .u8 (c.kind.toNat : Int) := hf 6 (by simp)
                have f7 : u 7 = .pointer (some ⟨g11, 3, none⟩) := hf 7 (by simp)
                have f8 : u 8 = .int .u64 (c.now.toNat : Int) := hf 8 (by simp)
                simp only [resOf, spec, RSpec.resAt, z0, z1, z2, z3, z4, z5, z6, z7, ptrBlk] at S ⊢
                simp only [f0, f1, f2, f3, f4, f5, f6, f7, f8]
                refine does_fn (args := [((u7)), ((.slice a0 key.length c0)), (.int .i64 c.tenant), (.agg (tokL T2).toArray), (.int .u8 (c.kind.toNat : Int)), (.int .u64 (c.now.toNat : Int))]) Tryd.func29 (by kernel_rfl) (by kernel_rfl) (P1.out _ w (by first | assumption | exact S.old (Hid.out (by assumption)) | exact S.sl pk | exact S.sl_rd pk) (S.oldB H1.out) (S.kt HK.out) (S.pt HP.out)) rfl ?_
                rintro e w1 ⟨rfl, T⟩
                exact ⟨_, rfl, rfl, S.call T⟩
              · clear hi
                refine step_of rfl rfl rfl ?_
                intro u G w hf S
                simp only [resOf, spec, RSpec.resAt, z0, z1, z2, z3, z4, z5, z6, z7, ptrBlk] at S ⊢
                simp only [does]
                go_simp
                try first | exact S | exact ⟨vv, S⟩ | exact vv
              · clear hi
                refine step_of rfl rfl rfl ?_
                intro u G w hf S
                simp only [resOf, spec, RSpec.resAt, z0, z1, z2, z3, z4, z5, z6, z7, ptrBlk] at S ⊢
                simp only [does]
                go_simp
                try first | exact S | exact ⟨vv, S⟩ | exact vv
              · clear hi
                refine step_of rfl rfl rfl ?_
                intro u G w hf S
                simp only [resOf, spec, RSpec.resAt, z0, z1, z2, z3, z4, z5, z6, z7, ptrBlk] at S ⊢
                simp only [does]
                go_simp
                try first | exact S | exact ⟨vv, S⟩ | exact vv
              · clear hi
                refine step_of rfl rfl rfl ?_
                intro u G w hf S
                have f12 : u 12 = .pointer (some ⟨g11, 7, none⟩) := hf 12 (by simp)
                simp only [resOf, spec, RSpec.resAt, z0, z1, z2, z3, z4, z5, z6, z7, ptrBlk] at S ⊢
                simp only [f12]
                refine does_load1 3 (.tmp 156) _ _ rfl (S.cell (g := g11) pk co) _ Tryd.underlying3 rfl ?_; exact ⟨rfl, S⟩
              · clear hi
                refine step_of rfl rfl rfl ?_
                intro u G w hf S
                simp only [resOf, spec, RSpec.resAt, z0, z1, z2, z3, z4, z5, z6, z7, ptrBlk] at S ⊢
                refine does_load 27 (.tmp 22) g22 rfl _ _ _ (S.get (r := blk g22 _) pk) _ Tryd.underlying27 rfl 36 (by kernel_rfl) (by first | rfl | (first | rfl | assumption | (exact Hid.out (by assumption)) | (exact tokL_size _) | (rw [arr8_size]; first | rfl | assumption | (exact Hid.out (by assumption)) | exact tokL_size _ | exact List.length_replicate ..) | (simp [arr8_size]; done))) ?_; exact ⟨rfl, S⟩
              · clear hi
                refine step_of rfl rfl rfl ?_
                intro u G w hf S
                simp only [resOf, spec, RSpec.resAt, z0, z1, z2, z3, z4, z5, z6, z7, ptrBlk] at S ⊢
                simp only [does]
                go_simp
                try first | exact S | exact ⟨vv, S⟩ | exact vv
              · clear hi
                refine step_of rfl rfl rfl ?_
                intro u G w hf S
                have f15 : u 15 = .pointer (some ⟨g11, 6, none⟩) := hf 15 (by simp)
                simp only [resOf, spec, RSpec.resAt, z0, z1, z2, z3, z4, z5, z6, z7, ptrBlk] at S ⊢
                simp only [f15]
                refine does_load1 5 (.tmp 159) _ _ rfl (S.cell (g := g11) pk co) _ Tryd.underlying5 rfl ?_; exact ⟨rfl, S⟩
              · clear hi
                refine step_of rfl rfl rfl ?_
                intro u G w hf S
                simp only [resOf, spec, RSpec.resAt, z0, z1, z2, z3, z4, z5, z6, z7, ptrBlk] at S ⊢
                simp only [does]
                go_simp
                try first | exact S | exact ⟨vv, S⟩ | exact vv
              · clear hi
                refine step_of rfl rfl rfl ?_
                intro u G w hf S
                have f17 : u 17 = .pointer (some ⟨g11, 3, none⟩) := hf 17 (by simp)
                simp only [resOf, spec, RSpec.resAt, z0, z1, z2, z3, z4, z5, z6, z7, ptrBlk] at S ⊢
                simp only [f17]
                refine does_load1 23 (.tmp 161) _ _ rfl (S.cell (g := g11) pk co) _ Tryd.underlying23 rfl ?_; exact ⟨rfl, S⟩
              · clear hi
                refine step_of rfl rfl rfl ?_
                intro u G w hf S
                have f0 : u 0 = (u7) := hf 0 (by simp)
                have f1 : u 1 = (.slice a0 key.length c0) := hf 1 (by simp)
                have f2 : u 2 = .pointer (some ⟨g11, 7, none⟩) := hf 2 (by simp)
                have f3 : u 3 = .int .i64 c.tenant := hf 3 (by simp)
                have f4 : u 4 = .agg (tokL T2).toArray := hf 4 (by simp)
                have f5 : u 5 = .pointer (some ⟨g11, 6, none⟩) := hf 5 (by simp)
                have f6 : u 6 = .int .u8 (c.kind.toNat : Int) := hf 6 (by simp)
                have f7 : u 7 = .pointer (some ⟨g11, 3, none⟩) := hf 7 (by simp)
                have f8 : u 8 = .int .u64 (c.now.toNat : Int) := hf 8 (by simp)
                have f9 : u 9 = .int .i64 E := hf 9 (by simp)
                have f10 : u 10 = (u8) := hf 10 (by simp)
                have f11 : u 11 = (.slice a0 key.length c0) := hf 11 (by simp)
                have f12 : u 12 = .pointer (some ⟨g11, 7, none⟩) := hf 12 (by simp)
                have f13 : u 13 = .int .i64 c.tenant := hf 13 (by simp)
                have f14 : u 14 = .agg (tokL T2).toArray := hf 14 (by simp)
                have f15 : u 15 = .pointer (some ⟨g11, 6, none⟩) := hf 15 (by simp)
                have f16 : u 16 = .int .u8 (c.kind.toNat : Int) := hf 16 (by simp)
                have f17 : u 17 = .pointer (some ⟨g11, 3, none⟩) := hf 17 (by simp)
                have f18 : u 18 = .int .u64 (c.now.toNat : Int) := hf 18 (by simp)
                simp only [resOf, spec, RSpec.resAt, z0, z1, z2, z3, z4, z5, z6, z7, ptrBlk] at S ⊢
                simp only [f0, f1, f2, f3, f4, f5, f6, f7, f8, f9, f10, f11, f12, f13, f14, f15, f16, f17, f18]
                refine does_fn (args := [((u8)), ((.slice a0 key.length c0)), (.int .i64 c.tenant), (.agg (tokL T2).toArray), (.int .u8 (c.kind.toNat : Int)), (.int .u64 (c.now.toNat : Int))]) Tryd.func30 (by kernel_rfl) (by kernel_rfl) (P2.out _ w (by first | assumption | exact S.old (Hid.out (by assumption)) | exact S.sl pk | exact S.sl_rd pk) (S.oldB H1.out)) rfl ?_
                rintro e w1 ⟨rfl, T⟩
                exact ⟨_, rfl, rfl, S.call T⟩
              · clear hi
                refine step_of rfl rfl rfl ?_
                intro u G w hf S
                have f0 : u 0 = (u7) := hf 0 (by simp)
                have f1 : u 1 = (.slice a0 key.length c0) := hf 1 (by simp)
                have f2 : u 2 = .pointer (some ⟨g11, 7, none⟩) := hf 2 (by simp)
                have f3 : u 3 = .int .i64 c.tenant := hf 3 (by simp)
                have f4 : u 4 = .agg (tokL T2).toArray := hf 4 (by simp)
                have f5 : u 5 = .pointer (some ⟨g11, 6, none⟩) := hf 5 (by simp)
                have f6 : u 6 = .int .u8 (c.kind.toNat : Int) := hf 6 (by simp)
                have f7 : u 7 = .pointer (some ⟨g11, 3, none⟩) := hf 7 (by simp)
                have f8 : u 8 = .int .u64 (c.now.toNat : Int) := hf 8 (by simp)
                have f9 : u 9 = .int .i64 E := hf 9 (by simp)
                have f10 : u 10 = (u8) := hf 10 (by simp)
                have f11 : u 11 = (.slice a0 key.length c0) := hf 11 (by simp)
                have f12 : u 12 = .pointer (some ⟨g11, 7, none⟩) := hf 12 (by simp)
                have f13 : u 13 = .int .i64 c.tenant := hf 13 (by simp)
                have f14 : u 14 = .agg (tokL T2).toArray := hf 14 (by simp)
                have f15 : u 15 = .pointer (some ⟨g11, 6, none⟩) := hf 15 (by simp)
                have f16 : u 16 = .int .u8 (c.kind.toNat : Int) := hf 16 (by simp)
                have f17 : u 17 = .pointer (some ⟨g11, 3, none⟩) := hf 17 (by simp)
                have f18 : u 18 = .int .u64 (c.now.toNat : Int) := hf 18 (by simp)
                have f19 : u 19 = .int .i64 E := hf 19 (by simp)
                simp only [resOf, spec, RSpec.resAt, z0, z1, z2, z3, z4, z5, z6, z7, ptrBlk] at S ⊢
                simp only [f0, f1, f2, f3, f4, f5, f6, f7, f8, f9, f10, f11, f12, f13, f14, f15, f16, f17, f18, f19]
                simp only [does]
                go_simp
                try first | exact S | exact ⟨vv, S⟩ | exact vv
            case fin1 =>
              intro u w hf S
              have f0 : u 0 = (u7) := hf 0 (by simp)
              have f1 : u 1 = (.slice a0 key.length c0) := hf 1 (by simp)
              have f2 : u 2 = .pointer (some ⟨g11, 7, none⟩) := hf 2 (by simp)
              have f3 : u 3 = .int .i64 c.tenant := hf 3 (by simp)
              have f4 : u 4 = .agg (tokL T2).toArray := hf 4 (by simp)
              have f5 : u 5 = .pointer (some ⟨g11, 6, none⟩) := hf 5 (by simp)
              have f6 : u 6 = .int .u8 (c.kind.toNat : Int) := hf 6 (by simp)
              have f7 : u 7 = .pointer (some ⟨g11, 3, none⟩) := hf 7 (by simp)
              have f8 : u 8 = .int .u64 (c.now.toNat : Int) := hf 8 (by simp)
              have f9 : u 9 = .int .i64 E := hf 9 (by simp)
              have f10 : u 10 = (u8) := hf 10 (by simp)
              have f11 : u 11 = (.slice a0 key.length c0) := hf 11 (by simp)
              have f12 : u 12 = .pointer (some ⟨g11, 7, none⟩) := hf 12 (by simp)
              have f13 : u 13 = .int .i64 c.tenant := hf 13 (by simp)
              have f14 : u 14 = .agg (tokL T2).toArray := hf 14 (by simp)
              have f15 : u 15 = .pointer (some ⟨g11, 6, none⟩) := hf 15 (by simp)
              have f16 : u 16 = .int .u8 (c.kind.toNat : Int) := hf 16 (by simp)
              have f17 : u 17 = .pointer (some ⟨g11, 3, none⟩) := hf 17 (by simp)
              have f18 : u 18 = .int .u64 (c.now.toNat : Int) := hf 18 (by simp)
              have f19 : u 19 = .int .i64 E := hf 19 (by simp)
              have f20 : u 20 = .bool false := hf 20 (by simp)
              simp only [resOf, spec, RSpec.resAt, z0, z1, z2, z3, z4, z5, z6, z7, ptrBlk] at S
              clear hf
              simp only [List.length_cons, List.length_nil, Nat.zero_add, Nat.reduceAdd, List.drop_succ_cons, List.drop_zero, f0, f1, f2, f3, f4, f5, f6, f7, f8, f9, f10, f11, f12, f13, f14, f15, f16, f17, f18, f19, f20]
              clear f0 f1 f2 f3 f4 f5 f6 f7 f8 f9 f10 f11 f12 f13 f14 f15 f16 f17 f18 f19 f20
              go_wp2
              go_roundw
              case rel => exact ⟨k + 1, R, Gv, by omega, by omega, by go_num, S.sub (by repeat (first | exact Sub.nil _ | refine Sub.cons pk ?_))⟩
              all_goals first | omega | (simp only [intOf]; omega)
          · obtain ⟨q, hq⟩ : ∃ q, q = c.pick.toNat % Gv.length := ⟨_, rfl⟩
            have hqG : q < Gv.length := by rw [hq]; exact Nat.mod_lt _ (by omega)
            obtain ⟨Tq, hTq⟩ : ∃ Tq, Gv[q]? = some Tq := ⟨_, List.getElem?_eq_getElem hqG⟩
            obtain ⟨T2, hT2⟩ : ∃ T2 : Tok, T2 = flT Tq c.flip.toNat := ⟨_, rfl⟩
            have q3 := c.flip.toNat_lt
            have p3 := fun w => flipped_s Tq c.flip.toNat w (by omega)
            rw [← hT2] at p3
            obtain ⟨gg, cg, hgg, _⟩ := S.row_at (v := u9) pk hG0
            subst hgg
            have hg1 : (0 : Int) < (Gv.length : Int) := by omega
            have hg2 : ¬ (Gv.length : Int) = 0 := by omega
            have hqm : (c.pick.toNat : Int).tmod (Gv.length : Int) = (q : Int) := by rw [Int.tmod_eq_emod_of_nonneg (by omega), hq]; rfl
            have hq2 : (q : Int) < (Gv.length : Int) := by omega
            have hpk := c.pick.toNat_lt
            have hpw : IntKind.i64.wrap (c.pick.toNat : Int) = (c.pick.toNat : Int) := IntWalk.i64_in _ (by omega)
            have HTQ := Lib.hid hTq
            have HGN := Lib.hid (show ¬ Gv = [] from fun h => hG0 (by rw [h]; rfl))
            clear hq hTq hT2 hG0
            have P3 := Lib.hid p3; clear p3
            have p1 := fun v w (h : Rg w v R) h2 hK hP => authz_s v (.slice a0 key.length c0) R key c.tenant T2 c.kind.toNat c.now.toNat w h h2 hK hP HTN.out (by omega) (by omega)
            have p2 := fun v w (h : Rg w v R) h2 => refAuthorize_s v (.slice a0 key.length c0) R key c.tenant T2 c.kind.toNat c.now.toNat w h h2 HTN.out (by omega) (by omega)
            generalize auzE R key c.tenant T2 c.kind.toNat c.now.toNat = E at p1 p2
            have P1 := Lib.hid p1; have P2 := Lib.hid p2; clear p1 p2
            go_wp2_with (first | ((with_reducible show wpList _ _ _ (⟨none, .store 70 (.tmp 11) (.tmp 39), _, _, _, _⟩ :: _) _ _); refine step_store S 70 (.tmp 11) (.tmp 39) _ _ rfl rfl _ _ pk 9 (by kernel_rfl) HCS.out rfl HCO.out rfl ?_; clear S; intro w S) | ((with_reducible show wpList _ _ _ (⟨some 128, .build 27 _, _, _, _, _⟩ :: _) _ _); refine step_buildTS (.tmp 127) c.serial rfl rfl ?_) | ((with_reducible show wpList _ _ _ (⟨_, .load 70 _, _, _, _, _⟩ :: _) _ _); first | (refine step_loadR 70 _ _ _ rfl _ (S.old_range hy) _ Tryd.underlying70 rfl 9 (by kernel_rfl) (by first | rfl | (first | rfl | assumption | (exact Hid.out (by assumption)) | (exact tokL_size _) | (rw [arr8_size]; first | rfl | assumption | (exact Hid.out (by assumption)) | exact tokL_size _ | exact List.length_replicate ..) | (simp [arr8_size]; done))) _ rfl gw ?_) | (refine step_loadP S 70 _ _ _ rfl _ _ _ pk 9 _ (by (first | exact cellsH_st .. | assumption | rfl)) (by first | rfl | (first | rfl | assumption | (exact Hid.out (by assumption)) | (exact tokL_size _) | (rw [arr8_size]; first | rfl | assumption | (exact Hid.out (by assumption)) | exact tokL_size _ | exact List.length_replicate ..) | (simp [arr8_size]; done))) _ Tryd.underlying70 rfl (by kernel_rfl) gw ?_)) | ((with_reducible show wpList _ _ _ (⟨some 11, .alloc 70, _, _, _, _⟩ :: _) _ _); refine step_alloc (dst := some 11) S 70 (.agg ((calL calZ).toArray)) ((calL calZ).toArray) (by kernel_rfl) rfl gw ?_; clear S; intro g11 w S) | ((with_reducible show wpList _ _ _ (⟨none, .store 70 (.tmp 11) (.tmp 39), _, _, _, _⟩ :: _) _ _); refine step_store S 70 (.tmp 11) (.tmp 39) _ _ rfl rfl _ _ pk 9 (by kernel_rfl) (by first | rfl | (first | rfl | assumption | (exact Hid.out (by assumption)) | (exact tokL_size _) | (rw [arr8_size]; first | rfl | assumption | (exact Hid.out (by assumption)) | exact tokL_size _ | exact List.length_replicate ..) | (simp [arr8_size]; done))) (by first | rfl | (first | rfl | assumption | (exact Hid.out (by assumption)) | (exact tokL_size _) | (rw [arr8_size]; first | rfl | assumption | (exact Hid.out (by assumption)) | exact tokL_size _ | exact List.length_replicate ..) | (simp [arr8_size]; done))) on1 gw ?_; clear S; intro w S) | ((with_reducible show wpList _ _ _ (⟨_, .load 5 _, _, _, _, _⟩ :: _) _ _); first | (refine step_load1 5 _ _ _ rfl (S.cell pk co) _ Tryd.underlying5 rfl gw ?_) | (refine step_load1 5 _ _ _ rfl (S.row_cell pk _ _ hyr) _ Tryd.underlying5 rfl gw ?_) | (refine step_load1 5 _ _ _ rfl (S.row_cellS pk _ _ hy) _ Tryd.underlying5 rfl gw ?_) | (refine step_load1 5 _ _ _ rfl (S.old_cell hy) _ Tryd.underlying5 rfl gw ?_)) | ((with_reducible show wpList _ _ _ (⟨_, .load 23 _, _, _, _, _⟩ :: _) _ _); first | (refine step_load1 23 _ _ _ rfl (S.cell pk co) _ Tryd.underlying23 rfl gw ?_) | (refine step_load1 23 _ _ _ rfl (S.row_cell pk _ _ hyr) _ Tryd.underlying23 rfl gw ?_) | (refine step_load1 23 _ _ _ rfl (S.row_cellS pk _ _ hy) _ Tryd.underlying23 rfl gw ?_) | (refine step_load1 23 _ _ _ rfl (S.old_cell hy) _ Tryd.underlying23 rfl gw ?_)) | ((with_reducible show wpList _ _ _ (⟨some 13, .alloc 27, _, _, _, _⟩ :: _) _ _); refine step_alloc (dst := some 13) S 27 (.agg ((tokL tokZ).toArray)) ((tokL tokZ).toArray) (by kernel_rfl) rfl gw ?_; clear S; intro g13 w S) | ((with_reducible show wpList _ _ _ (⟨none, .store 27 (.tmp 13) (.tmp 57), _, _, _, _⟩ :: _) _ _); refine step_store S 27 (.tmp 13) (.tmp 57) _ _ rfl rfl _ _ pk 36 (by kernel_rfl) (by first | rfl | (first | rfl | assumption | (exact Hid.out (by assumption)) | (exact tokL_size _) | (rw [arr8_size]; first | rfl | assumption | (exact Hid.out (by assumption)) | exact tokL_size _ | exact List.length_replicate ..) | (simp [arr8_size]; done))) (by first | rfl | (first | rfl | assumption | (exact Hid.out (by assumption)) | (exact tokL_size _) | (rw [arr8_size]; first | rfl | assumption | (exact Hid.out (by assumption)) | exact tokL_size _ | exact List.length_replicate ..) | (simp [arr8_size]; done))) on1 gw ?_; clear S; intro w S) | ((with_reducible show wpList _ _ _ (⟨some 16, .alloc 27, _, _, _, _⟩ :: _) _ _); refine step_alloc (dst := some 16) S 27 (.agg ((tokL tokZ).toArray)) ((tokL tokZ).toArray) (by kernel_rfl) rfl gw ?_; clear S; intro g16 w S) | ((with_reducible show wpList _ _ _ (⟨none, .store 27 (.tmp 16) (.tmp 71), _, _, _, _⟩ :: _) _ _); refine step_store S 27 (.tmp 16) (.tmp 71) _ _ rfl rfl _ _ pk 36 (by kernel_rfl) (by first | rfl | (first | rfl | assumption | (exact Hid.out (by assumption)) | (exact tokL_size _) | (rw [arr8_size]; first | rfl | assumption | (exact Hid.out (by assumption)) | exact tokL_size _ | exact List.length_replicate ..) | (simp [arr8_size]; done))) (by first | rfl | (first | rfl | assumption | (exact Hid.out (by assumption)) | (exact tokL_size _) | (rw [arr8_size]; first | rfl | assumption | (exact Hid.out (by assumption)) | exact tokL_size _ | exact List.length_replicate ..) | (simp [arr8_size]; done))) on1 gw ?_; clear S; intro w S) | ((with_reducible show wpList _ _ _ (⟨_, .load 27 _, _, _, _, _⟩ :: _) _ _); first | (refine step_load S 27 _ _ rfl _ _ _ pk _ Tryd.underlying27 rfl 36 (by kernel_rfl) (by first | rfl | (first | rfl | assumption | (exact Hid.out (by assumption)) | (exact tokL_size _) | (rw [arr8_size]; first | rfl | assumption | (exact Hid.out (by assumption)) | exact tokL_size _ | exact List.length_replicate ..) | (simp [arr8_size]; done))) gw ?_) | (refine step_loadO 27 _ _ rfl _ _ _ (S.old_heap (Hid.out (by assumption))) _ Tryd.underlying27 rfl 36 (by kernel_rfl) (by first | rfl | (first | rfl | assumption | (exact Hid.out (by assumption)) | (exact tokL_size _) | (rw [arr8_size]; first | rfl | assumption | (exact Hid.out (by assumption)) | exact tokL_size _ | exact List.length_replicate ..) | (simp [arr8_size]; done))) gw ?_) | (refine step_loadR 27 _ _ _ rfl _ (S.old_range hy) _ Tryd.underlying27 rfl 36 (by kernel_rfl) (by first | rfl | (first | rfl | assumption | (exact Hid.out (by assumption)) | (exact tokL_size _) | (rw [arr8_size]; first | rfl | assumption | (exact Hid.out (by assumption)) | exact tokL_size _ | exact List.length_replicate ..) | (simp [arr8_size]; done))) _ rfl gw ?_)) | ((with_reducible show wpList _ _ _ (⟨_, .load 24 _, _, _, _, _⟩ :: _) _ _); first | (refine step_load1 24 _ _ _ rfl (S.cell pk co) _ Tryd.underlying24 rfl gw ?_) | (refine step_load1 24 _ _ _ rfl (S.row_cell pk _ _ hyr) _ Tryd.underlying24 rfl gw ?_) | (refine step_load1 24 _ _ _ rfl (S.row_cellS pk _ _ hy) _ Tryd.underlying24 rfl gw ?_) | (refine step_load1 24 _ _ _ rfl (S.old_cell hy) _ Tryd.underlying24 rfl gw ?_)) | ((with_reducible show wpList _ _ _ (⟨some 22, .alloc 27, _, _, _, _⟩ :: _) _ _); refine step_alloc (dst := some 22) S 27 (.agg ((tokL tokZ).toArray)) ((tokL tokZ).toArray) (by kernel_rfl) rfl gw ?_; clear S; intro g22 w S) | ((with_reducible show wpList _ _ _ (⟨none, .store 27 (.tmp 22) (.tmp 128), _, _, _, _⟩ :: _) _ _); refine step_store S 27 (.tmp 22) (.tmp 128) _ _ rfl rfl _ _ pk 36 (by kernel_rfl) (by first | rfl | (first | rfl | assumption | (exact Hid.out (by assumption)) | (exact tokL_size _) | (rw [arr8_size]; first | rfl | assumption | (exact Hid.out (by assumption)) | exact tokL_size _ | exact List.length_replicate ..) | (simp [arr8_size]; done))) (by first | rfl | (first | rfl | assumption | (exact Hid.out (by assumption)) | (exact tokL_size _) | (rw [arr8_size]; first | rfl | assumption | (exact Hid.out (by assumption)) | exact tokL_size _ | exact List.length_replicate ..) | (simp [arr8_size]; done))) on1 gw ?_; clear S; intro w S) | ((with_reducible show wpList _ _ _ (⟨_, .load 27 _, _, _, _, _⟩ :: _) _ _); first | (refine step_loadR 27 _ _ _ rfl _ (S.old_range hy) _ Tryd.underlying27 rfl 36 (by kernel_rfl) (by first | rfl | (first | rfl | assumption | (exact Hid.out (by assumption)) | (exact tokL_size _) | (rw [arr8_size]; first | rfl | assumption | (exact Hid.out (by assumption)) | exact tokL_size _ | exact List.length_replicate ..) | (simp [arr8_size]; done))) _ rfl gw ?_) | (refine step_loadP S 27 _ _ _ rfl _ _ _ pk 36 _ (by (first | exact cellsH_st .. | assumption | rfl)) (by first | rfl | (first | rfl | assumption | (exact Hid.out (by assumption)) | (exact tokL_size _) | (rw [arr8_size]; first | rfl | assumption | (exact Hid.out (by assumption)) | exact tokL_size _ | exact List.length_replicate ..) | (simp [arr8_size]; done))) _ Tryd.underlying27 rfl (by kernel_rfl) gw ?_)) | ((with_reducible show wpList _ _ _ (⟨_, .load 68 _, _, _, _, _⟩ :: _) _ _); first | (refine step_load1 68 _ _ _ rfl (S.cell pk co) _ Tryd.underlying68 rfl gw ?_) | (refine step_load1 68 _ _ _ rfl (S.row_cell pk _ _ hyr) _ Tryd.underlying68 rfl gw ?_) | (refine step_load1 68 _ _ _ rfl (S.row_cellS pk _ _ hy) _ Tryd.underlying68 rfl gw ?_) | (refine step_load1 68 _ _ _ rfl (S.old_cell hy) _ Tryd.underlying68 rfl gw ?_)) | ((with_reducible show wpList _ _ _ (⟨none, .store 27 (.tmp 22) (.tmp 143), _, _, _, _⟩ :: _) _ _); refine step_store S 27 (.tmp 22) (.tmp 143) _ _ rfl rfl _ _ pk 36 (by kernel_rfl) (by first | rfl | (first | rfl | assumption | (exact Hid.out (by assumption)) | (exact tokL_size _) | (rw [arr8_size]; first | rfl | assumption | (exact Hid.out (by assumption)) | exact tokL_size _ | exact List.length_replicate ..) | (simp [arr8_size]; done))) (by first | rfl | (first | rfl | assumption | (exact Hid.out (by assumption)) | (exact tokL_size _) | (rw [arr8_size]; first | rfl | assumption | (exact Hid.out (by assumption)) | exact tokL_size _ | exact List.length_replicate ..) | (simp [arr8_size]; done))) on1 gw ?_; clear S; intro w S) | ((with_reducible show wpList _ _ _ (⟨_, .load 3 _, _, _, _, _⟩ :: _) _ _); first | (refine step_load1 3 _ _ _ rfl (S.cell pk co) _ Tryd.underlying3 rfl gw ?_) | (refine step_load1 3 _ _ _ rfl (S.row_cell pk _ _ hyr) _ Tryd.underlying3 rfl gw ?_) | (refine step_load1 3 _ _ _ rfl (S.row_cellS pk _ _ hy) _ Tryd.underlying3 rfl gw ?_) | (refine step_load1 3 _ _ _ rfl (S.old_cell hy) _ Tryd.underlying3 rfl gw ?_)) | fail)
            refine wp_relyW (e1 := blk g22 (.cells (tokL T2).toArray 27 (0, 0))) 12 (S.pick (r := blk g22 _) pk) [⟨[], [], [], fun _ v => v = (.slice (some ⟨gg, 0, none⟩) Gv.length cg), fun _ v => []⟩, ⟨[], [], [], fun _ v => v = .pointer (some ⟨g11, 5, none⟩), fun _ v => []⟩, ⟨[1], [], [], fun _ v => v = .int .u8 (c.pick.toNat : Int), fun _ v => []⟩, ⟨[1, 2], [], [], fun _ v => v = .int .i64 (c.pick.toNat : Int), fun _ v => []⟩, ⟨[], [], [], fun _ v => v = (.slice (some ⟨gg, 0, none⟩) Gv.length cg), fun _ v => []⟩, ⟨[4], [], [], fun _ v => v = .int .i64 (Gv.length : Int), fun _ v => []⟩, ⟨[1, 2, 3, 4, 5], [], [], fun _ v => v = .int .i64 (q : Int), fun _ v => []⟩, ⟨[0, 1, 2, 3, 4, 5, 6], [], [], fun _ v => v = .pointer (some ⟨gg, q * 36, none⟩), fun _ v => []⟩, ⟨[0, 1, 2, 3, 4, 5, 6, 7], [], [], fun _ v => v = .agg (tokL Tq).toArray, fun _ v => []⟩, ⟨[], [], [], fun _ v => v = .pointer (some ⟨g11, 8, none⟩), fun _ v => []⟩, ⟨[9], [], [], fun _ v => v = .int .u16 (c.flip.toNat : Int), fun _ v => []⟩, ⟨[0, 1, 2, 3, 4, 5, 6, 7, 8, 9, 10], [], [], fun _ v => v = .agg (tokL T2).toArray, fun _ v => []⟩, ⟨[0, 1, 2, 3, 4, 5, 6, 7, 8, 9, 10, 11], [], [], fun _ v => True, fun _ v => []⟩] ?A2 ?hA2 (by kernel_rfl) (by kernel_rfl) (by kernel_rfl) [0, 1, 2, 3, 4, 5, 6, 7, 8, 9, 10, 11, 12] (by kernel_rfl) (of_decide_eq_true rfl) ?hok2 ?fin2
            case hA2 => intro u; simp only [putAll, List.length_cons, List.length_nil, Nat.zero_add, Nat.reduceAdd, dstAt, List.getElem?_toArray, List.getElem?_cons_zero, List.getElem?_cons_succ, Option.bind_some, Act.put, List.setIfInBounds_toArray, List.set_cons_zero, List.set_cons_succ]; rfl
            case hok2 =>
              intro i hi
              obtain rfl | rfl | rfl | rfl | rfl | rfl | rfl | rfl | rfl | rfl | rfl | rfl | rfl : i = 0 ∨ i = 1 ∨ i = 2 ∨ i = 3 ∨ i = 4 ∨ i = 5 ∨ i = 6 ∨ i = 7 ∨ i = 8 ∨ i = 9 ∨ i = 10 ∨ i = 11 ∨ i = 12 := by simp only [List.length_cons, List.length_nil, Nat.zero_add, Nat.reduceAdd] at hi; omega
              · clear hi
                rw [if_neg (by decide)]; intro r0
                refine step_of rfl rfl rfl ?_
                intro u G w hf S
                simp only [resOf, spec, RSpec.resAt, z0, z1, z2, z3, z4, z5, z6, z7, ptrBlk] at S ⊢
                simp only [does]
                go_simp
                try first | exact S | exact ⟨vv, S⟩ | exact vv
              · clear hi
                rw [if_neg (by decide)]; intro r0
                refine step_of rfl rfl rfl ?_
                intro u G w hf S
                simp only [resOf, spec, RSpec.resAt, z0, z1, z2, z3, z4, z5, z6, z7, ptrBlk] at S ⊢
                simp only [does]
                go_simp
                try first | exact S | exact ⟨vv, S⟩ | exact vv
              · clear hi
                rw [if_neg (by decide)]; intro r0
                refine step_of rfl rfl rfl ?_
                intro u G w hf S
                have f1 : u 1 = .pointer (some ⟨g11, 5, none⟩) := hf 1 (by simp)
                simp only [resOf, spec, RSpec.resAt, z0, z1, z2, z3, z4, z5, z6, z7, ptrBlk] at S ⊢
                simp only [f1]
                refine does_load1 5 (.tmp 133) _ _ rfl (S.cell (g := g11) pk co) _ Tryd.underlying5 rfl ?_; exact ⟨rfl, S⟩
              · clear hi
                rw [if_neg (by decide)]; intro r0
                refine step_of rfl rfl rfl ?_
                intro u G w hf S
                have f1 : u 1 = .pointer (some ⟨g11, 5, none⟩) := hf 1 (by simp)
                have f2 : u 2 = .int .u8 (c.pick.toNat : Int) := hf 2 (by simp)
                simp only [resOf, spec, RSpec.resAt, z0, z1, z2, z3, z4, z5, z6, z7, ptrBlk] at S ⊢
                simp only [f1, f2]
                simp only [does]
                go_simp
                try first | exact S | exact ⟨vv, S⟩ | exact vv
              · clear hi
                rw [if_neg (by decide)]; intro r0
                refine step_of rfl rfl rfl ?_
                intro u G w hf S
                simp only [resOf, spec, RSpec.resAt, z0, z1, z2, z3, z4, z5, z6, z7, ptrBlk] at S ⊢
                simp only [does]
                go_simp
                try first | exact S | exact ⟨vv, S⟩ | exact vv
              · clear hi
                rw [if_neg (by decide)]; intro r0
                refine step_of rfl rfl rfl ?_
                intro u G w hf S
                have f4 : u 4 = (.slice (some ⟨gg, 0, none⟩) Gv.length cg) := hf 4 (by simp)
                simp only [resOf, spec, RSpec.resAt, z0, z1, z2, z3, z4, z5, z6, z7, ptrBlk] at S ⊢
                simp only [f4]
                simp only [does]
                go_simp
                try first | exact S | exact ⟨vv, S⟩ | exact vv
              · clear hi
                rw [if_neg (by decide)]; intro r0
                refine step_of rfl rfl rfl ?_
                intro u G w hf S
                have f1 : u 1 = .pointer (some ⟨g11, 5, none⟩) := hf 1 (by simp)
                have f2 : u 2 = .int .u8 (c.pick.toNat : Int) := hf 2 (by simp)
                have f3 : u 3 = .int .i64 (c.pick.toNat : Int) := hf 3 (by simp)
                have f4 : u 4 = (.slice (some ⟨gg, 0, none⟩) Gv.length cg) := hf 4 (by simp)
                have f5 : u 5 = .int .i64 (Gv.length : Int) := hf 5 (by simp)
                simp only [resOf, spec, RSpec.resAt, z0, z1, z2, z3, z4, z5, z6, z7, ptrBlk] at S ⊢
                simp only [f1, f2, f3, f4, f5]
                simp only [does]; go_simp; rw [if_neg HGN.out]; exact ⟨rfl, S⟩
              · clear hi
                rw [if_neg (by decide)]; intro r0
                refine step_of rfl rfl rfl ?_
                intro u G w hf S
                have f0 : u 0 = (.slice (some ⟨gg, 0, none⟩) Gv.length cg) := hf 0 (by simp)
                have f1 : u 1 = .pointer (some ⟨g11, 5, none⟩) := hf 1 (by simp)
                have f2 : u 2 = .int .u8 (c.pick.toNat : Int) := hf 2 (by simp)
                have f3 : u 3 = .int .i64 (c.pick.toNat : Int) := hf 3 (by simp)
                have f4 : u 4 = (.slice (some ⟨gg, 0, none⟩) Gv.length cg) := hf 4 (by simp)
                have f5 : u 5 = .int .i64 (Gv.length : Int) := hf 5 (by simp)
                have f6 : u 6 = .int .i64 (q : Int) := hf 6 (by simp)
                simp only [resOf, spec, RSpec.resAt, z0, z1, z2, z3, z4, z5, z6, z7, ptrBlk] at S ⊢
                simp only [f0, f1, f2, f3, f4, f5, f6]
                simp only [does]
                go_simp
                try first | exact S | exact ⟨vv, S⟩ | exact vv
              · clear hi
                rw [if_neg (by decide)]; intro r0
                refine step_of rfl rfl rfl ?_
                intro u G w hf S
                have f0 : u 0 = (.slice (some ⟨gg, 0, none⟩) Gv.length cg) := hf 0 (by simp)
                have f1 : u 1 = .pointer (some ⟨g11, 5, none⟩) := hf 1 (by simp)
                have f2 : u 2 = .int .u8 (c.pick.toNat : Int) := hf 2 (by simp)
                have f3 : u 3 = .int .i64 (c.pick.toNat : Int) := hf 3 (by simp)
                have f4 : u 4 = (.slice (some ⟨gg, 0, none⟩) Gv.length cg) := hf 4 (by simp)
                have f5 : u 5 = .int .i64 (Gv.length : Int) := hf 5 (by simp)
                have f6 : u 6 = .int .i64 (q : Int) := hf 6 (by simp)
                have f7 : u 7 = .pointer (some ⟨gg, q * 36, none⟩) := hf 7 (by simp)
                simp only [resOf, spec, RSpec.resAt, z0, z1, z2, z3, z4, z5, z6, z7, ptrBlk] at S ⊢
                simp only [f0, f1, f2, f3, f4, f5, f6, f7]
                refine does_loadR 27 (.tmp 139) _ _ rfl _ (S.row_range (f := tokL) (n := Gv.length) (c := cg) pk tokL_length (by decide) q Tq HTQ.out) _ Tryd.underlying27 rfl 36 (by kernel_rfl) (tokL_length _) _ rfl ?_; exact ⟨rfl, S⟩
              · clear hi
                rw [if_neg (by decide)]; intro r0
                refine step_of rfl rfl rfl ?_
                intro u G w hf S
                simp only [resOf, spec, RSpec.resAt, z0, z1, z2, z3, z4, z5, z6, z7, ptrBlk] at S ⊢
                simp only [does]
                go_simp
                try first | exact S | exact ⟨vv, S⟩ | exact vv
              · clear hi
                rw [if_neg (by decide)]; intro r0
                refine step_of rfl rfl rfl ?_
                intro u G w hf S
                have f9 : u 9 = .pointer (some ⟨g11, 8, none⟩) := hf 9 (by simp)
                simp only [resOf, spec, RSpec.resAt, z0, z1, z2, z3, z4, z5, z6, z7, ptrBlk] at S ⊢
                simp only [f9]
                refine does_load1 68 (.tmp 141) _ _ rfl (S.cell (g := g11) pk co) _ Tryd.underlying68 rfl ?_; exact ⟨rfl, S⟩
              · clear hi
                rw [if_neg (by decide)]; intro r0
                refine step_of rfl rfl rfl ?_
                intro u G w hf S
                have f0 : u 0 = (.slice (some ⟨gg, 0, none⟩) Gv.length cg) := hf 0 (by simp)
                have f1 : u 1 = .pointer (some ⟨g11, 5, none⟩) := hf 1 (by simp)
                have f2 : u 2 = .int .u8 (c.pick.toNat : Int) := hf 2 (by simp)
                have f3 : u 3 = .int .i64 (c.pick.toNat : Int) := hf 3 (by simp)
                have f4 : u 4 = (.slice (some ⟨gg, 0, none⟩) Gv.length cg) := hf 4 (by simp)
                have f5 : u 5 = .int .i64 (Gv.length : Int) := hf 5 (by simp)
                have f6 : u 6 = .int .i64 (q : Int) := hf 6 (by simp)
                have f7 : u 7 = .pointer (some ⟨gg, q * 36, none⟩) := hf 7 (by simp)
                have f8 : u 8 = .agg (tokL Tq).toArray := hf 8 (by simp)
                have f9 : u 9 = .pointer (some ⟨g11, 8, none⟩) := hf 9 (by simp)
                have f10 : u 10 = .int .u16 (c.flip.toNat : Int) := hf 10 (by simp)
                simp only [resOf, spec, RSpec.resAt, z0, z1, z2, z3, z4, z5, z6, z7, ptrBlk] at S ⊢
                simp only [f0, f1, f2, f3, f4, f5, f6, f7, f8, f9, f10]
                refine does_fn (args := [(.agg (tokL Tq).toArray), (.int .u16 (c.flip.toNat : Int))]) Tryd.func37 (by kernel_rfl) (by kernel_rfl) (P3.out w) rfl ?_
                rintro e w1 ⟨rfl, T⟩
                exact ⟨_, rfl, rfl, S.call T⟩
              · clear hi
                rw [if_pos rfl]
                refine step_ofW rfl rfl rfl ?_
                intro u G w hf S
                have f0 : u 0 = (.slice (some ⟨gg, 0, none⟩) Gv.length cg) := hf 0 (by simp)
                have f1 : u 1 = .pointer (some ⟨g11, 5, none⟩) := hf 1 (by simp)
                have f2 : u 2 = .int .u8 (c.pick.toNat : Int) := hf 2 (by simp)
                have f3 : u 3 = .int .i64 (c.pick.toNat : Int) := hf 3 (by simp)
                have f4 : u 4 = (.slice (some ⟨gg, 0, none⟩) Gv.length cg) := hf 4 (by simp)
                have f5 : u 5 = .int .i64 (Gv.length : Int) := hf 5 (by simp)
                have f6 : u 6 = .int .i64 (q : Int) := hf 6 (by simp)
                have f7 : u 7 = .pointer (some ⟨gg, q * 36, none⟩) := hf 7 (by simp)
                have f8 : u 8 = .agg (tokL Tq).toArray := hf 8 (by simp)
                have f9 : u 9 = .pointer (some ⟨g11, 8, none⟩) := hf 9 (by simp)
                have f10 : u 10 = .int .u16 (c.flip.toNat : Int) := hf 10 (by simp)
                have f11 : u 11 = .agg (tokL T2).toArray := hf 11 (by simp)
                simp only [resOf, spec, RSpec.resAt, z0, z1, z2, z3, z4, z5, z6, z7, ptrBlk] at S ⊢
                simp only [f0, f1, f2, f3, f4, f5, f6, f7, f8, f9, f10, f11]
                refine does_store S 27 (.tmp 22) (.tmp 143) (tokL T2).toArray rfl rfl 36 (by kernel_rfl) (tokL_size _) (tokL_size _) (tokL_one _) ?_; intro w1 S; exact ⟨trivial, S⟩
            case fin2 =>
              intro u w hf S
              have f0 : u 0 = (.slice (some ⟨gg, 0, none⟩) Gv.length cg) := hf 0 (by simp)
              have f1 : u 1 = .pointer (some ⟨g11, 5, none⟩) := hf 1 (by simp)
              have f2 : u 2 = .int .u8 (c.pick.toNat : Int) := hf 2 (by simp)
              have f3 : u 3 = .int .i64 (c.pick.toNat : Int) := hf 3 (by simp)
              have f4 : u 4 = (.slice (some ⟨gg, 0, none⟩) Gv.length cg) := hf 4 (by simp)
              have f5 : u 5 = .int .i64 (Gv.length : Int) := hf 5 (by simp)
              have f6 : u 6 = .int .i64 (q : Int) := hf 6 (by simp)
              have f7 : u 7 = .pointer (some ⟨gg, q * 36, none⟩) := hf 7 (by simp)
              have f8 : u 8 = .agg (tokL Tq).toArray := hf 8 (by simp)
              have f9 : u 9 = .pointer (some ⟨g11, 8, none⟩) := hf 9 (by simp)
              have f10 : u 10 = .int .u16 (c.flip.toNat : Int) := hf 10 (by simp)
              have f11 : u 11 = .agg (tokL T2).toArray := hf 11 (by simp)
              simp only [resOf, spec, RSpec.resAt, z0, z1, z2, z3, z4, z5, z6, z7, ptrBlk] at S
              clear hf
              simp only [List.length_cons, List.length_nil, Nat.zero_add, Nat.reduceAdd, List.drop_succ_cons, List.drop_zero, f0, f1, f2, f3, f4, f5, f6, f7, f8, f9, f10, f11]
              clear f0 f1 f2 f3 f4 f5 f6 f7 f8 f9 f10 f11
              go_wp2
              refine wp_rely S [⟨[], [], [], fun _ v => v = (u7), fun _ v => []⟩, ⟨[], [], [], fun _ v => v = (.slice a0 key.length c0), fun _ v => []⟩, ⟨[], [], [], fun _ v => v = .pointer (some ⟨g11, 7, none⟩), fun _ v => []⟩, ⟨[2], [], [], fun _ v => v = .int .i64 c.tenant, fun _ v => []⟩, ⟨[], [], [], fun _ v => v = .agg (tokL T2).toArray, fun _ v => []⟩, ⟨[], [], [], fun _ v => v = .pointer (some ⟨g11, 6, none⟩), fun _ v => []⟩, ⟨[5], [], [], fun _ v => v = .int .u8 (c.kind.toNat : Int), fun _ v => []⟩, ⟨[], [], [], fun _ v => v = .pointer (some ⟨g11, 3, none⟩), fun _ v => []⟩, ⟨[7], [], [], fun _ v => v = .int .u64 (c.now.toNat : Int), fun _ v => []⟩, ⟨[0, 1, 2, 3, 4, 5, 6, 7, 8], [], [], fun _ v => v = .int .i64 E, fun _ v => []⟩, ⟨[], [], [], fun _ v => v = (u8), fun _ v => []⟩, ⟨[], [], [], fun _ v => v = (.slice a0 key.length c0), fun _ v => []⟩, ⟨[], [], [], fun _ v => v = .pointer (some ⟨g11, 7, none⟩), fun _ v => []⟩, ⟨[12], [], [], fun _ v => v = .int .i64 c.tenant, fun _ v => []⟩, ⟨[], [], [], fun _ v => v = .agg (tokL T2).toArray, fun _ v => []⟩, ⟨[], [], [], fun _ v => v = .pointer (some ⟨g11, 6, none⟩), fun _ v => []⟩, ⟨[15], [], [], fun _ v => v = .int .u8 (c.kind.toNat : Int), fun _ v => []⟩, ⟨[], [], [], fun _ v => v = .pointer (some ⟨g11, 3, none⟩), fun _ v => []⟩, ⟨[17], [], [], fun _ v => v = .int .u64 (c.now.toNat : Int), fun _ v => []⟩, ⟨[0, 1, 2, 3, 4, 5, 6, 7, 8, 9, 10, 11, 12, 13, 14, 15, 16, 17, 18], [], [], fun _ v => v = .int .i64 E, fun _ v => []⟩, ⟨[0, 1, 2, 3, 4, 5, 6, 7, 8, 9, 10, 11, 12, 13, 14, 15, 16, 17, 18, 19], [], [], fun _ v => v = .bool false, fun _ v => []⟩] ?A3 ?hA3 (by kernel_rfl) (by kernel_rfl) (by kernel_rfl) [0, 1, 2, 3, 4, 5, 6, 7, 8, 9, 10, 11, 12, 13, 14, 15, 16, 17, 18, 19, 20] (by kernel_rfl) ?hok3 ?fin3
              case hA3 => intro u; simp only [putAll, List.length_cons, List.length_nil, Nat.zero_add, Nat.reduceAdd, dstAt, List.getElem?_toArray, List.getElem?_cons_zero, List.getElem?_cons_succ, Option.bind_some, Act.put, List.setIfInBounds_toArray, List.set_cons_zero, List.set_cons_succ]; rfl
              case hok3 =>
                intro i hi
                obtain rfl | rfl | rfl | rfl | rfl | rfl | rfl | rfl | rfl | rfl | rfl | rfl | rfl | rfl | rfl | rfl | rfl | rfl | rfl | rfl | rfl : i = 0 ∨ i = 1 ∨ i = 2 ∨ i = 3 ∨ i = 4 ∨ i = 5 ∨ i = 6 ∨ i = 7 ∨ i = 8 ∨ i = 9 ∨ i = 10 ∨ i = 11 ∨ i = 12 ∨ i = 13 ∨ i = 14 ∨ i = 15 ∨ i = 16 ∨ i = 17 ∨ i = 18 ∨ i = 19 ∨ i = 20 := by simp only [List.length_cons, List.length_nil, Nat.zero_add, Nat.reduceAdd] at hi; omega
                · clear hi
                  refine step_of rfl rfl rfl ?_
                  intro u G w hf S
                  simp only [resOf, spec, RSpec.resAt, z0, z1, z2, z3, z4, z5, z6, z7, ptrBlk] at S ⊢
                  simp only [does]
                  go_simp
                  try first | exact S | exact ⟨vv, S⟩ | exact vv
                · clear hi
                  refine step_of rfl rfl rfl ?_
                  intro u G w hf S
                  simp only [resOf, spec, RSpec.resAt, z0, z1, z2, z3, z4, z5, z6, z7, ptrBlk] at S ⊢
                  simp only [does]
                  go_simp
                  try first | exact S | exact ⟨vv, S⟩ | exact vv
                · clear hi
                  refine step_of rfl rfl rfl ?_
                  intro u G w hf S
                  simp only [resOf, spec, RSpec.resAt, z0, z1, z2, z3, z4, z5, z6, z7, ptrBlk] at S ⊢
                  simp only [does]
                  go_simp
                  try first | exact S | exact ⟨vv, S⟩ | exact vv
                · clear hi
                  refine step_of rfl rfl rfl ?_
                  intro u G w hf S
                  have f2 : u 2 = .pointer (some ⟨g11, 7, none⟩) := hf 2 (by simp)
                  simp only [resOf, spec, RSpec.resAt, z0, z1, z2, z3, z4, z5, z6, z7, ptrBlk] at S ⊢
                  simp only [f2]
                  refine does_load1 3 (.tmp 146) _ _ rfl (S.cell (g := g11) pk co) _ Tryd.underlying3 rfl ?_; exact ⟨rfl, S⟩
                · clear hi
                  refine step_of rfl rfl rfl ?_
                  intro u G w hf S
                  simp only [resOf, spec, RSpec.resAt, z0, z1, z2, z3, z4, z5, z6, z7, ptrBlk] at S ⊢
                  refine does_load 27 (.tmp 22) g22 rfl _ _ _ (S.get (r := blk g22 _) pk) _ Tryd.underlying27 rfl 36 (by kernel_rfl) (by first | rfl | (first | rfl | assumption | (exact Hid.out (by assumption)) | (exact tokL_size _) | (rw [arr8_size]; first | rfl | assumption | (exact Hid.out (by assumption)) | exact tokL_size _ | exact List.length_replicate ..) | (simp [arr8_size]; done))) ?_; exact ⟨rfl, S⟩
                · clear hi
                  refine step_of rfl rfl rfl ?_
                  intro u G w hf S
                  simp only [resOf, spec, RSpec.resAt, z0, z1, z2, z3, z4, z5, z6, z7, ptrBlk] at S ⊢
                  simp only [does]
                  go_simp
                  try first | exact S | exact ⟨vv, S⟩ | exact vv
                · clear hi
                  refine step_of rfl rfl rfl ?_
                  intro u G w hf S
                  have f5 : u 5 = .pointer (some ⟨g11, 6, none⟩) := hf 5 (by simp)
                  simp only [resOf, spec, RSpec.resAt, z0, z1, z2, z3, z4, z5, z6, z7, ptrBlk] at S ⊢
                  simp only [f5]
                  refine does_load1 5 (.tmp 149) _ _ rfl (S.cell (g := g11) pk co) _ Tryd.underlying5 rfl ?_; exact ⟨rfl, S⟩
                · clear hi
                  refine step_of rfl rfl rfl ?_
                  intro u G w hf S
                  simp only [resOf, spec, RSpec.resAt, z0, z1, z2, z3, z4, z5, z6, z7, ptrBlk] at S ⊢
                  simp only [does]
                  go_simp
                  try first | exact S | exact ⟨vv, S⟩ | exact vv
                · clear hi
                  refine step_of rfl rfl rfl ?_
                  intro u G w hf S
                  have f7 : u 7 = .pointer (some ⟨g11, 3, none⟩) := hf 7 (by simp)
                  simp only [resOf, spec, RSpec.resAt, z0, z1, z2, z3, z4, z5, z6, z7, ptrBlk] at S ⊢
                  simp only [f7]
                  refine does_load1 23 (.tmp 151) _ _ rfl (S.cell (g := g11) pk co) _ Tryd.underlying23 rfl ?_; exact ⟨rfl, S⟩
                · clear hi
                  refine step_of rfl rfl rfl ?_
                  intro u G w hf S
                  have f0 : u 0 = (u7) := hf 0 (by simp)
                  have f1 : u 1 = (.slice a0 key.length c0) := hf 1 (by simp)
                  have f2 : u 2 = .pointer (some ⟨g11, 7, none⟩) := hf 2 (by simp)
                  have f3 : u 3 = .int .i64 c.tenant := hf 3 (by simp)
                  have f4 : u 4 = .agg (tokL T2).toArray := hf 4 (by simp)
                  have f5 : u 5 = .pointer (some ⟨g11, 6, none⟩) := hf 5 (by simp)
                  have f6 : u 6 = .int .u8 (c.kind.toNat : Int) := hf 6 (by simp)
                  have f7 : u 7 = .pointer (some ⟨g11, 3, none⟩) := hf 7 (by simp)
                  have f8 : u 8 = .int .u64 (c.now.toNat : Int) := hf 8 (by simp)
                  simp only [resOf, spec, RSpec.resAt, z0, z1, z2, z3, z4, z5, z6, z7, ptrBlk] at S ⊢
                  simp only [f0, f1, f2, f3, f4, f5, f6, f7, f8]
                  refine does_fn (args := [((u7)), ((.slice a0 key.length c0)), (.int .i64 c.tenant), (.agg (tokL T2).toArray), (.int .u8 (c.kind.toNat : Int)), (.int .u64 (c.now.toNat : Int))]) Tryd.func29 (by kernel_rfl) (by kernel_rfl) (P1.out _ w (by first | assumption | exact S.old (Hid.out (by assumption)) | exact S.sl pk | exact S.sl_rd pk) (S.oldB H1.out) (S.kt HK.out) (S.pt HP.out)) rfl ?_
                  rintro e w1 ⟨rfl, T⟩
                  exact ⟨_, rfl, rfl, S.call T⟩
                · clear hi
                  refine step_of rfl rfl rfl ?_
                  intro u G w hf S
                  simp only [resOf, spec, RSpec.resAt, z0, z1, z2, z3, z4, z5, z6, z7, ptrBlk] at S ⊢
                  simp only [does]
                  go_simp
                  try first | exact S | exact ⟨vv, S⟩ | exact vv
                · clear hi
                  refine step_of rfl rfl rfl ?_
                  intro u G w hf S
                  simp only [resOf, spec, RSpec.resAt, z0, z1, z2, z3, z4, z5, z6, z7, ptrBlk] at S ⊢
                  simp only [does]
                  go_simp
                  try first | exact S | exact ⟨vv, S⟩ | exact vv
                · clear hi
                  refine step_of rfl rfl rfl ?_
                  intro u G w hf S
                  simp only [resOf, spec, RSpec.resAt, z0, z1, z2, z3, z4, z5, z6, z7, ptrBlk] at S ⊢
                  simp only [does]
                  go_simp
                  try first | exact S | exact ⟨vv, S⟩ | exact vv
                · clear hi
                  refine step_of rfl rfl rfl ?_
                  intro u G w hf S
                  have f12 : u 12 = .pointer (some ⟨g11, 7, none⟩) := hf 12 (by simp)
                  simp only [resOf, spec, RSpec.resAt, z0, z1, z2, z3, z4, z5, z6, z7, ptrBlk] at S ⊢
                  simp only [f12]
                  refine does_load1 3 (.tmp 156) _ _ rfl (S.cell (g := g11) pk co) _ Tryd.underlying3 rfl ?_; exact ⟨rfl, S⟩
                · clear hi
                  refine step_of rfl rfl rfl ?_
                  intro u G w hf S
                  simp only [resOf, spec, RSpec.resAt, z0, z1, z2, z3, z4, z5, z6, z7, ptrBlk] at S ⊢
                  refine does_load 27 (.tmp 22) g22 rfl _ _ _ (S.get (r := blk g22 _) pk) _ Tryd.underlying27 rfl 36 (by kernel_rfl) (by first | rfl | (first | rfl | assumption | (exact Hid.out (by assumption)) | (exact tokL_size _) | (rw [arr8_size]; first | rfl | assumption | (exact Hid.out (by assumption)) | exact tokL_size _ | exact List.length_replicate ..) | (simp [arr8_size]; done))) ?_; exact ⟨rfl, S⟩
                · clear hi
                  refine step_of rfl rfl rfl ?_
                  intro u G w hf S
                  simp only [resOf, spec, RSpec.resAt, z0, z1, z2, z3, z4, z5, z6, z7, ptrBlk] at S ⊢
                  simp only [does]
                  go_simp
                  try first | exact S | exact ⟨vv, S⟩ | exact vv
                · clear hi
                  refine step_of rfl rfl rfl ?_
                  intro u G w hf S
                  have f15 : u 15 = .pointer (some ⟨g11, 6, none⟩) := hf 15 (by simp)
                  simp only [resOf, spec, RSpec.resAt, z0, z1, z2, z3, z4, z5, z6, z7, ptrBlk] at S ⊢
                  simp only [f15]
                  refine does_load1 5 (.tmp 159) _ _ rfl (S.cell (g := g11) pk co) _ Tryd.underlying5 rfl ?_; exact ⟨rfl, S⟩
                · clear hi
                  refine step_of rfl rfl rfl ?_
                  intro u G w hf S
                  simp only [resOf, spec, RSpec.resAt, z0, z1, z2, z3, z4, z5, z6, z7, ptrBlk] at S ⊢
                  simp only [does]
                  go_simp
                  try first | exact S | exact ⟨vv, S⟩ | exact vv
                · clear hi
                  refine step_of rfl rfl rfl ?_
                  intro u G w hf S
                  have f17 : u 17 = .pointer (some ⟨g11, 3, none⟩) := hf 17 (by simp)
                  simp only [resOf, spec, RSpec.resAt, z0, z1, z2, z3, z4, z5, z6, z7, ptrBlk] at S ⊢
                  simp only [f17]
                  refine does_load1 23 (.tmp 161) _ _ rfl (S.cell (g := g11) pk co) _ Tryd.underlying23 rfl ?_; exact ⟨rfl, S⟩
                · clear hi
                  refine step_of rfl rfl rfl ?_
                  intro u G w hf S
                  have f0 : u 0 = (u7) := hf 0 (by simp)
                  have f1 : u 1 = (.slice a0 key.length c0) := hf 1 (by simp)
                  have f2 : u 2 = .pointer (some ⟨g11, 7, none⟩) := hf 2 (by simp)
                  have f3 : u 3 = .int .i64 c.tenant := hf 3 (by simp)
                  have f4 : u 4 = .agg (tokL T2).toArray := hf 4 (by simp)
                  have f5 : u 5 = .pointer (some ⟨g11, 6, none⟩) := hf 5 (by simp)
                  have f6 : u 6 = .int .u8 (c.kind.toNat : Int) := hf 6 (by simp)
                  have f7 : u 7 = .pointer (some ⟨g11, 3, none⟩) := hf 7 (by simp)
                  have f8 : u 8 = .int .u64 (c.now.toNat : Int) := hf 8 (by simp)
                  have f9 : u 9 = .int .i64 E := hf 9 (by simp)
                  have f10 : u 10 = (u8) := hf 10 (by simp)
                  have f11 : u 11 = (.slice a0 key.length c0) := hf 11 (by simp)
                  have f12 : u 12 = .pointer (some ⟨g11, 7, none⟩) := hf 12 (by simp)
                  have f13 : u 13 = .int .i64 c.tenant := hf 13 (by simp)
                  have f14 : u 14 = .agg (tokL T2).toArray := hf 14 (by simp)
                  have f15 : u 15 = .pointer (some ⟨g11, 6, none⟩) := hf 15 (by simp)
                  have f16 : u 16 = .int .u8 (c.kind.toNat : Int) := hf 16 (by simp)
                  have f17 : u 17 = .pointer (some ⟨g11, 3, none⟩) := hf 17 (by simp)
                  have f18 : u 18 = .int .u64 (c.now.toNat : Int) := hf 18 (by simp)
                  simp only [resOf, spec, RSpec.resAt, z0, z1, z2, z3, z4, z5, z6, z7, ptrBlk] at S ⊢
                  simp only [f0, f1, f2, f3, f4, f5, f6, f7, f8, f9, f10, f11, f12, f13, f14, f15, f16, f17, f18]
                  refine does_fn (args := [((u8)), ((.slice a0 key.length c0)), (.int .i64 c.tenant), (.agg (tokL T2).toArray), (.int .u8 (c.kind.toNat : Int)), (.int .u64 (c.now.toNat : Int))]) Tryd.func30 (by kernel_rfl) (by kernel_rfl) (P2.out _ w (by first | assumption | exact S.old (Hid.out (by assumption)) | exact S.sl pk | exact S.sl_rd pk) (S.oldB H1.out)) rfl ?_
                  rintro e w1 ⟨rfl, T⟩
                  exact ⟨_, rfl, rfl, S.call T⟩
                · clear hi
                  refine step_of rfl rfl rfl ?_
                  intro u G w hf S
                  have f0 : u 0 = (u7) := hf 0 (by simp)
                  have f1 : u 1 = (.slice a0 key.length c0) := hf 1 (by simp)
                  have f2 : u 2 = .pointer (some ⟨g11, 7, none⟩) := hf 2 (by simp)
                  have f3 : u 3 = .int .i64 c.tenant := hf 3 (by simp)
                  have f4 : u 4 = .agg (tokL T2).toArray := hf 4 (by simp)
                  have f5 : u 5 = .pointer (some ⟨g11, 6, none⟩) := hf 5 (by simp)
                  have f6 : u 6 = .int .u8 (c.kind.toNat : Int) := hf 6 (by simp)
                  have f7 : u 7 = .pointer (some ⟨g11, 3, none⟩) := hf 7 (by simp)
                  have f8 : u 8 = .int .u64 (c.now.toNat : Int) := hf 8 (by simp)
                  have f9 : u 9 = .int .i64 E := hf 9 (by simp)
                  have f10 : u 10 = (u8) := hf 10 (by simp)
                  have f11 : u 11 = (.slice a0 key.length c0) := hf 11 (by simp)
                  have f12 : u 12 = .pointer (some ⟨g11, 7, none⟩) := hf 12 (by simp)
                  have f13 : u 13 = .int .i64 c.tenant := hf 13 (by simp)
                  have f14 : u 14 = .agg (tokL T2).toArray := hf 14 (by simp)
                  have f15 : u 15 = .pointer (some ⟨g11, 6, none⟩) := hf 15 (by simp)
                  have f16 : u 16 = .int .u8 (c.kind.toNat : Int) := hf 16 (by simp)
                  have f17 : u 17 = .pointer (some ⟨g11, 3, none⟩) := hf 17 (by simp)
                  have f18 : u 18 = .int .u64 (c.now.toNat : Int) := hf 18 (by simp)
                  have f19 : u 19 = .int .i64 E := hf 19 (by simp)
                  simp only [resOf, spec, RSpec.resAt, z0, z1, z2, z3, z4, z5, z6, z7, ptrBlk] at S ⊢
                  simp only [f0, f1, f2, f3, f4, f5, f6, f7, f8, f9, f10, f11, f12, f13, f14, f15, f16, f17, f18, f19]
                  simp only [does]
                  go_simp
                  try first | exact S | exact ⟨vv, S⟩ | exact vv
              case fin3 =>
                intro u w hf S
                have f0 : u 0 = (u7) := hf 0 (by simp)
                have f1 : u 1 = (.slice a0 key.length c0) := hf 1 (by simp)
                have f2 : u 2 = .pointer (some ⟨g11, 7, none⟩) := hf 2 (by simp)
                have f3 : u 3 = .int .i64 c.tenant := hf 3 (by simp)
                have f4 : u 4 = .agg (tokL T2).toArray := hf 4 (by simp)
                have f5 : u 5 = .pointer (some ⟨g11, 6, none⟩) := hf 5 (by simp)
                have f6 : u 6 = .int .u8 (c.kind.toNat : Int) := hf 6 (by simp)
                have f7 : u 7 = .pointer (some ⟨g11, 3, none⟩) := hf 7 (by simp)
                have f8 : u 8 = .int .u64 (c.now.toNat : Int) := hf 8 (by simp)
                have f9 : u 9 = .int .i64 E := hf 9 (by simp)
                have f10 : u 10 = (u8) := hf 10 (by simp)
                have f11 : u 11 = (.slice a0 key.length c0) := hf 11 (by simp)
                have f12 : u 12 = .pointer (some ⟨g11, 7, none⟩) := hf 12 (by simp)
                have f13 : u 13 = .int .i64 c.tenant := hf 13 (by simp)
                have f14 : u 14 = .agg (tokL T2).toArray := hf 14 (by simp)
                have f15 : u 15 = .pointer (some ⟨g11, 6, none⟩) := hf 15 (by simp)
                have f16 : u 16 = .int .u8 (c.kind.toNat : Int) := hf 16 (by simp)
                have f17 : u 17 = .pointer (some ⟨g11, 3, none⟩) := hf 17 (by simp)
                have f18 : u 18 = .int .u64 (c.now.toNat : Int) := hf 18 (by simp)
                have f19 : u 19 = .int .i64 E := hf 19 (by simp)
                have f20 : u 20 = .bool false := hf 20 (by simp)
                simp only [resOf, spec, RSpec.resAt, z0, z1, z2, z3, z4, z5, z6, z7, ptrBlk] at S
                clear hf
                simp only [List.length_cons, List.length_nil, Nat.zero_add, Nat.reduceAdd, List.drop_succ_cons, List.drop_zero, f0, f1, f2, f3, f4, f5, f6, f7, f8, f9, f10, f11, f12, f13, f14, f15, f16, f17, f18, f19, f20]
                clear f0 f1 f2 f3 f4 f5 f6 f7 f8 f9 f10 f11 f12 f13 f14 f15 f16 f17 f18 f19 f20
                go_wp2
                go_roundw
                case rel => exact ⟨k + 1, R, Gv, by omega, by omega, by go_num, S.sub (by repeat (first | exact Sub.nil _ | refine Sub.cons pk ?_))⟩
                all_goals first | omega | (simp only [intOf]; omega)
        · -- Live
          have q1 := c.now.toNat_lt
          have p1 := fun v w h => live_r v R c.now.toNat w h (by omega)
          have p2 := fun v w h => refLive_r v R c.now.toNat w h (by omega)
          generalize liveR R c.now.toNat = X at p1 p2
          generalize liveE R c.now.toNat = E at p1 p2
          have n6 : (E != E) = false := by simp
          have P1 := Lib.hid p1; have P2 := Lib.hid p2; clear p1 p2
          go_wp2_with (first | ((with_reducible show wpList _ _ _ (⟨none, .store 70 (.tmp 11) (.tmp 39), _, _, _, _⟩ :: _) _ _); refine step_store S 70 (.tmp 11) (.tmp 39) _ _ rfl rfl _ _ pk 9 (by kernel_rfl) HCS.out rfl HCO.out rfl ?_; clear S; intro w S) | ((with_reducible show wpList _ _ _ (⟨_, .load 70 _, _, _, _, _⟩ :: _) _ _); first | (refine step_loadR 70 _ _ _ rfl _ (S.old_range hy) _ Tryd.underlying70 rfl 9 (by kernel_rfl) (by first | rfl | (first | rfl | assumption | (exact Hid.out (by assumption)) | (exact tokL_size _) | (rw [arr8_size]; first | rfl | assumption | (exact Hid.out (by assumption)) | exact tokL_size _ | exact List.length_replicate ..) | (simp [arr8_size]; done))) _ rfl gw ?_) | (refine step_loadP S 70 _ _ _ rfl _ _ _ pk 9 _ (by (first | exact cellsH_st .. | assumption | rfl)) (by first | rfl | (first | rfl | assumption | (exact Hid.out (by assumption)) | (exact tokL_size _) | (rw [arr8_size]; first | rfl | assumption | (exact Hid.out (by assumption)) | exact tokL_size _ | exact List.length_replicate ..) | (simp [arr8_size]; done))) _ Tryd.underlying70 rfl (by kernel_rfl) gw ?_)) | ((with_reducible show wpList _ _ _ (⟨some 11, .alloc 70, _, _, _, _⟩ :: _) _ _); refine step_alloc (dst := some 11) S 70 (.agg ((calL calZ).toArray)) ((calL calZ).toArray) (by kernel_rfl) rfl gw ?_; clear S; intro g11 w S) | ((with_reducible show wpList _ _ _ (⟨none, .store 70 (.tmp 11) (.tmp 39), _, _, _, _⟩ :: _) _ _); refine step_store S 70 (.tmp 11) (.tmp 39) _ _ rfl rfl _ _ pk 9 (by kernel_rfl) (by first | rfl | (first | rfl | assumption | (exact Hid.out (by assumption)) | (exact tokL_size _) | (rw [arr8_size]; first | rfl | assumption | (exact Hid.out (by assumption)) | exact tokL_size _ | exact List.length_replicate ..) | (simp [arr8_size]; done))) (by first | rfl | (first | rfl | assumption | (exact Hid.out (by assumption)) | (exact tokL_size _) | (rw [arr8_size]; first | rfl | assumption | (exact Hid.out (by assumption)) | exact tokL_size _ | exact List.length_replicate ..) | (simp [arr8_size]; done))) on1 gw ?_; clear S; intro w S) | ((with_reducible show wpList _ _ _ (⟨_, .load 5 _, _, _, _, _⟩ :: _) _ _); first | (refine step_load1 5 _ _ _ rfl (S.cell pk co) _ Tryd.underlying5 rfl gw ?_) | (refine step_load1 5 _ _ _ rfl (S.row_cell pk _ _ hyr) _ Tryd.underlying5 rfl gw ?_) | (refine step_load1 5 _ _ _ rfl (S.row_cellS pk _ _ hy) _ Tryd.underlying5 rfl gw ?_) | (refine step_load1 5 _ _ _ rfl (S.old_cell hy) _ Tryd.underlying5 rfl gw ?_)) | ((with_reducible show wpList _ _ _ (⟨_, .load 23 _, _, _, _, _⟩ :: _) _ _); first | (refine step_load1 23 _ _ _ rfl (S.cell pk co) _ Tryd.underlying23 rfl gw ?_) | (refine step_load1 23 _ _ _ rfl (S.row_cell pk _ _ hyr) _ Tryd.underlying23 rfl gw ?_) | (refine step_load1 23 _ _ _ rfl (S.row_cellS pk _ _ hy) _ Tryd.underlying23 rfl gw ?_) | (refine step_load1 23 _ _ _ rfl (S.old_cell hy) _ Tryd.underlying23 rfl gw ?_)) | ((with_reducible show wpList _ _ _ (⟨some 13, .alloc 27, _, _, _, _⟩ :: _) _ _); refine step_alloc (dst := some 13) S 27 (.agg ((tokL tokZ).toArray)) ((tokL tokZ).toArray) (by kernel_rfl) rfl gw ?_; clear S; intro g13 w S) | ((with_reducible show wpList _ _ _ (⟨none, .store 27 (.tmp 13) (.tmp 57), _, _, _, _⟩ :: _) _ _); refine step_store S 27 (.tmp 13) (.tmp 57) _ _ rfl rfl _ _ pk 36 (by kernel_rfl) (by first | rfl | (first | rfl | assumption | (exact Hid.out (by assumption)) | (exact tokL_size _) | (rw [arr8_size]; first | rfl | assumption | (exact Hid.out (by assumption)) | exact tokL_size _ | exact List.length_replicate ..) | (simp [arr8_size]; done))) (by first | rfl | (first | rfl | assumption | (exact Hid.out (by assumption)) | (exact tokL_size _) | (rw [arr8_size]; first | rfl | assumption | (exact Hid.out (by assumption)) | exact tokL_size _ | exact List.length_replicate ..) | (simp [arr8_size]; done))) on1 gw ?_; clear S; intro w S) | ((with_reducible show wpList _ _ _ (⟨some 16, .alloc 27, _, _, _, _⟩ :: _) _ _); refine step_alloc (dst := some 16) S 27 (.agg ((tokL tokZ).toArray)) ((tokL tokZ).toArray) (by kernel_rfl) rfl gw ?_; clear S; intro g16 w S) | ((with_reducible show wpList _ _ _ (⟨none, .store 27 (.tmp 16) (.tmp 71), _, _, _, _⟩ :: _) _ _); refine step_store S 27 (.tmp 16) (.tmp 71) _ _ rfl rfl _ _ pk 36 (by kernel_rfl) (by first | rfl | (first | rfl | assumption | (exact Hid.out (by assumption)) | (exact tokL_size _) | (rw [arr8_size]; first | rfl | assumption | (exact Hid.out (by assumption)) | exact tokL_size _ | exact List.length_replicate ..) | (simp [arr8_size]; done))) (by first | rfl | (first | rfl | assumption | (exact Hid.out (by assumption)) | (exact tokL_size _) | (rw [arr8_size]; first | rfl | assumption | (exact Hid.out (by assumption)) | exact tokL_size _ | exact List.length_replicate ..) | (simp [arr8_size]; done))) on1 gw ?_; clear S; intro w S) | ((with_reducible show wpList _ _ _ (⟨_, .load 27 _, _, _, _, _⟩ :: _) _ _); first | (refine step_load S 27 _ _ rfl _ _ _ pk _ Tryd.underlying27 rfl 36 (by kernel_rfl) (by first | rfl | (first | rfl | assumption | (exact Hid.out (by assumption)) | (exact tokL_size _) | (rw [arr8_size]; first | rfl | assumption | (exact Hid.out (by assumption)) | exact tokL_size _ | exact List.length_replicate ..) | (simp [arr8_size]; done))) gw ?_) | (refine step_loadO 27 _ _ rfl _ _ _ (S.old_heap (Hid.out (by assumption))) _ Tryd.underlying27 rfl 36 (by kernel_rfl) (by first | rfl | (first | rfl | assumption | (exact Hid.out (by assumption)) | (exact tokL_size _) | (rw [arr8_size]; first | rfl | assumption | (exact Hid.out (by assumption)) | exact tokL_size _ | exact List.length_replicate ..) | (simp [arr8_size]; done))) gw ?_) | (refine step_loadR 27 _ _ _ rfl _ (S.old_range hy) _ Tryd.underlying27 rfl 36 (by kernel_rfl) (by first | rfl | (first | rfl | assumption | (exact Hid.out (by assumption)) | (exact tokL_size _) | (rw [arr8_size]; first | rfl | assumption | (exact Hid.out (by assumption)) | exact tokL_size _ | exact List.length_replicate ..) | (simp [arr8_size]; done))) _ rfl gw ?_)) | ((with_reducible show wpList _ _ _ (⟨_, .load 24 _, _, _, _, _⟩ :: _) _ _); first | (refine step_load1 24 _ _ _ rfl (S.cell pk co) _ Tryd.underlying24 rfl gw ?_) | (refine step_load1 24 _ _ _ rfl (S.row_cell pk _ _ hyr) _ Tryd.underlying24 rfl gw ?_) | (refine step_load1 24 _ _ _ rfl (S.row_cellS pk _ _ hy) _ Tryd.underlying24 rfl gw ?_) | (refine step_load1 24 _ _ _ rfl (S.old_cell hy) _ Tryd.underlying24 rfl gw ?_)) | ((with_reducible show wpList _ _ _ (⟨some 22, .alloc 27, _, _, _, _⟩ :: _) _ _); refine step_alloc (dst := some 22) S 27 (.agg ((tokL tokZ).toArray)) ((tokL tokZ).toArray) (by kernel_rfl) rfl gw ?_; clear S; intro g22 w S) | ((with_reducible show wpList _ _ _ (⟨none, .store 27 (.tmp 22) (.tmp 128), _, _, _, _⟩ :: _) _ _); refine step_store S 27 (.tmp 22) (.tmp 128) _ _ rfl rfl _ _ pk 36 (by kernel_rfl) (by first | rfl | (first | rfl | assumption | (exact Hid.out (by assumption)) | (exact tokL_size _) | (rw [arr8_size]; first | rfl | assumption | (exact Hid.out (by assumption)) | exact tokL_size _ | exact List.length_replicate ..) | (simp [arr8_size]; done))) (by first | rfl | (first | rfl | assumption | (exact Hid.out (by assumption)) | (exact tokL_size _) | (rw [arr8_size]; first | rfl | assumption | (exact Hid.out (by assumption)) | exact tokL_size _ | exact List.length_replicate ..) | (simp [arr8_size]; done))) on1 gw ?_; clear S; intro w S) | ((with_reducible show wpList _ _ _ (⟨_, .load 27 _, _, _, _, _⟩ :: _) _ _); first | (refine step_loadR 27 _ _ _ rfl _ (S.old_range hy) _ Tryd.underlying27 rfl 36 (by kernel_rfl) (by first | rfl | (first | rfl | assumption | (exact Hid.out (by assumption)) | (exact tokL_size _) | (rw [arr8_size]; first | rfl | assumption | (exact Hid.out (by assumption)) | exact tokL_size _ | exact List.length_replicate ..) | (simp [arr8_size]; done))) _ rfl gw ?_) | (refine step_loadP S 27 _ _ _ rfl _ _ _ pk 36 _ (by (first | exact cellsH_st .. | assumption | rfl)) (by first | rfl | (first | rfl | assumption | (exact Hid.out (by assumption)) | (exact tokL_size _) | (rw [arr8_size]; first | rfl | assumption | (exact Hid.out (by assumption)) | exact tokL_size _ | exact List.length_replicate ..) | (simp [arr8_size]; done))) _ Tryd.underlying27 rfl (by kernel_rfl) gw ?_)) | ((with_reducible show wpList _ _ _ (⟨_, .load 68 _, _, _, _, _⟩ :: _) _ _); first | (refine step_load1 68 _ _ _ rfl (S.cell pk co) _ Tryd.underlying68 rfl gw ?_) | (refine step_load1 68 _ _ _ rfl (S.row_cell pk _ _ hyr) _ Tryd.underlying68 rfl gw ?_) | (refine step_load1 68 _ _ _ rfl (S.row_cellS pk _ _ hy) _ Tryd.underlying68 rfl gw ?_) | (refine step_load1 68 _ _ _ rfl (S.old_cell hy) _ Tryd.underlying68 rfl gw ?_)) | ((with_reducible show wpList _ _ _ (⟨none, .store 27 (.tmp 22) (.tmp 143), _, _, _, _⟩ :: _) _ _); refine step_store S 27 (.tmp 22) (.tmp 143) _ _ rfl rfl _ _ pk 36 (by kernel_rfl) (by first | rfl | (first | rfl | assumption | (exact Hid.out (by assumption)) | (exact tokL_size _) | (rw [arr8_size]; first | rfl | assumption | (exact Hid.out (by assumption)) | exact tokL_size _ | exact List.length_replicate ..) | (simp [arr8_size]; done))) (by first | rfl | (first | rfl | assumption | (exact Hid.out (by assumption)) | (exact tokL_size _) | (rw [arr8_size]; first | rfl | assumption | (exact Hid.out (by assumption)) | exact tokL_size _ | exact List.length_replicate ..) | (simp [arr8_size]; done))) on1 gw ?_; clear S; intro w S) | ((with_reducible show wpList _ _ _ (⟨_, .load 3 _, _, _, _, _⟩ :: _) _ _); first | (refine step_load1 3 _ _ _ rfl (S.cell pk co) _ Tryd.underlying3 rfl gw ?_) | (refine step_load1 3 _ _ _ rfl (S.row_cell pk _ _ hyr) _ Tryd.underlying3 rfl gw ?_) | (refine step_load1 3 _ _ _ rfl (S.row_cellS pk _ _ hy) _ Tryd.underlying3 rfl gw ?_) | (refine step_load1 3 _ _ _ rfl (S.old_cell hy) _ Tryd.underlying3 rfl gw ?_)) | (go_at_call 38; (with_reducible refine (P1.out _ _ (by first | assumption | exact S.old (Hid.out (by assumption)) | exact S.sl pk | exact S.sl_rd pk)).mono ?_); rintro e w1 ⟨v23, rfl, T⟩; replace S := S.call T; clear T; (try simp only [List.nil_append, List.cons_append] at S)) | (go_at_call 39; (with_reducible refine (P2.out _ _ (by first | assumption | exact S.old (Hid.out (by assumption)) | exact S.sl pk | exact S.sl_rd pk)).mono ?_); rintro e w1 ⟨v25, rfl, T⟩; replace S := S.call T; clear T; (try simp only [List.nil_append, List.cons_append] at S)) | (go_at_call 40; (with_reducible refine (sameN_r _ _ X _ (by first | assumption | exact S.old (Hid.out (by assumption)) | exact S.sl pk | exact S.sl_rd pk) (by first | assumption | exact S.old (Hid.out (by assumption)) | exact S.sl pk | exact S.sl_rd pk)).mono ?_); rintro e w1 ⟨rfl, T⟩; replace S := S.call T; clear T; (try simp only [List.nil_append, List.cons_append] at S)) | fail)
          go_roundw
          case rel => exact ⟨k + 1, R, Gv, by omega, by omega, by go_num, S.sub (by repeat (first | exact Sub.nil _ | refine Sub.cons pk ?_))⟩
          all_goals first | omega | (simp only [intOf]; omega)
      · have hke : k = l.length := by omega
        subst hke
        have hkl : ¬ (l.length : Int) < (l.length : Int) := by omega
        have p1 := fun v w h => check_r v R w h
        have p2 := fun v w h => refCheck_r v R w h
        generalize chkR R = E at p1 p2
        have P1 := Lib.hid p1; have P2 := Lib.hid p2; clear p1 p2
        go_wp2_with (first | ((with_reducible show wpList _ _ _ (⟨none, .store 70 (.tmp 11) (.tmp 39), _, _, _, _⟩ :: _) _ _); refine step_store S 70 (.tmp 11) (.tmp 39) _ _ rfl rfl _ _ pk 9 (by kernel_rfl) HCS.out rfl HCO.out rfl ?_; clear S; intro w S) | ((with_reducible show wpList _ _ _ (⟨_, .load 70 _, _, _, _, _⟩ :: _) _ _); first | (refine step_loadR 70 _ _ _ rfl _ (S.old_range hy) _ Tryd.underlying70 rfl 9 (by kernel_rfl) (by first | rfl | (first | rfl | assumption | (exact Hid.out (by assumption)) | (exact tokL_size _) | (rw [arr8_size]; first | rfl | assumption | (exact Hid.out (by assumption)) | exact tokL_size _ | exact List.length_replicate ..) | (simp [arr8_size]; done))) _ rfl gw ?_) | (refine step_loadP S 70 _ _ _ rfl _ _ _ pk 9 _ (by (first | exact cellsH_st .. | assumption | rfl)) (by first | rfl | (first | rfl | assumption | (exact Hid.out (by assumption)) | (exact tokL_size _) | (rw [arr8_size]; first | rfl | assumption | (exact Hid.out (by assumption)) | exact tokL_size _ | exact List.length_replicate ..) | (simp [arr8_size]; done))) _ Tryd.underlying70 rfl (by kernel_rfl) gw ?_)) | ((with_reducible show wpList _ _ _ (⟨some 11, .alloc 70, _, _, _, _⟩ :: _) _ _); refine step_alloc (dst := some 11) S 70 (.agg ((calL calZ).toArray)) ((calL calZ).toArray) (by kernel_rfl) rfl gw ?_; clear S; intro g11 w S) | ((with_reducible show wpList _ _ _ (⟨none, .store 70 (.tmp 11) (.tmp 39), _, _, _, _⟩ :: _) _ _); refine step_store S 70 (.tmp 11) (.tmp 39) _ _ rfl rfl _ _ pk 9 (by kernel_rfl) (by first | rfl | (first | rfl | assumption | (exact Hid.out (by assumption)) | (exact tokL_size _) | (rw [arr8_size]; first | rfl | assumption | (exact Hid.out (by assumption)) | exact tokL_size _ | exact List.length_replicate ..) | (simp [arr8_size]; done))) (by first | rfl | (first | rfl | assumption | (exact Hid.out (by assumption)) | (exact tokL_size _) | (rw [arr8_size]; first | rfl | assumption | (exact Hid.out (by assumption)) | exact tokL_size _ | exact List.length_replicate ..) | (simp [arr8_size]; done))) on1 gw ?_; clear S; intro w S) | ((with_reducible show wpList _ _ _ (⟨_, .load 5 _, _, _, _, _⟩ :: _) _ _); first | (refine step_load1 5 _ _ _ rfl (S.cell pk co) _ Tryd.underlying5 rfl gw ?_) | (refine step_load1 5 _ _ _ rfl (S.row_cell pk _ _ hyr) _ Tryd.underlying5 rfl gw ?_) | (refine step_load1 5 _ _ _ rfl (S.row_cellS pk _ _ hy) _ Tryd.underlying5 rfl gw ?_) | (refine step_load1 5 _ _ _ rfl (S.old_cell hy) _ Tryd.underlying5 rfl gw ?_)) | ((with_reducible show wpList _ _ _ (⟨_, .load 23 _, _, _, _, _⟩ :: _) _ _); first | (refine step_load1 23 _ _ _ rfl (S.cell pk co) _ Tryd.underlying23 rfl gw ?_) | (refine step_load1 23 _ _ _ rfl (S.row_cell pk _ _ hyr) _ Tryd.underlying23 rfl gw ?_) | (refine step_load1 23 _ _ _ rfl (S.row_cellS pk _ _ hy) _ Tryd.underlying23 rfl gw ?_) | (refine step_load1 23 _ _ _ rfl (S.old_cell hy) _ Tryd.underlying23 rfl gw ?_)) | ((with_reducible show wpList _ _ _ (⟨some 13, .alloc 27, _, _, _, _⟩ :: _) _ _); refine step_alloc (dst := some 13) S 27 (.agg ((tokL tokZ).toArray)) ((tokL tokZ).toArray) (by kernel_rfl) rfl gw ?_; clear S; intro g13 w S) | ((with_reducible show wpList _ _ _ (⟨none, .store 27 (.tmp 13) (.tmp 57), _, _, _, _⟩ :: _) _ _); refine step_store S 27 (.tmp 13) (.tmp 57) _ _ rfl rfl _ _ pk 36 (by kernel_rfl) (by first | rfl | (first | rfl | assumption | (exact Hid.out (by assumption)) | (exact tokL_size _) | (rw [arr8_size]; first | rfl | assumption | (exact Hid.out (by assumption)) | exact tokL_size _ | exact List.length_replicate ..) | (simp [arr8_size]; done))) (by first | rfl | (first | rfl | assumption | (exact Hid.out (by assumption)) | (exact tokL_size _) | (rw [arr8_size]; first | rfl | assumption | (exact Hid.out (by assumption)) | exact tokL_size _ | exact List.length_replicate ..) | (simp [arr8_size]; done))) on1 gw ?_; clear S; intro w S) | ((with_reducible show wpList _ _ _ (⟨some 16, .alloc 27, _, _, _, _⟩ :: _) _ _); refine step_alloc (dst := some 16) S 27 (.agg ((tokL tokZ).toArray)) ((tokL tokZ).toArray) (by kernel_rfl) rfl gw ?_; clear S; intro g16 w S) | ((with_reducible show wpList _ _ _ (⟨none, .store 27 (.tmp 16) (.tmp 71), _, _, _, _⟩ :: _) _ _); refine step_store S 27 (.tmp 16) (.tmp 71) _ _ rfl rfl _ _ pk 36 (by kernel_rfl) (by first | rfl | (first | rfl | assumption | (exact Hid.out (by assumption)) | (exact tokL_size _) | (rw [arr8_size]; first | rfl | assumption | (exact Hid.out (by assumption)) | exact tokL_size _ | exact List.length_replicate ..) | (simp [arr8_size]; done))) (by first | rfl | (first | rfl | assumption | (exact Hid.out (by assumption)) | (exact tokL_size _) | (rw [arr8_size]; first | rfl | assumption | (exact Hid.out (by assumption)) | exact tokL_size _ | exact List.length_replicate ..) | (simp [arr8_size]; done))) on1 gw ?_; clear S; intro w S) | ((with_reducible show wpList _ _ _ (⟨_, .load 27 _, _, _, _, _⟩ :: _) _ _); first | (refine step_load S 27 _ _ rfl _ _ _ pk _ Tryd.underlying27 rfl 36 (by kernel_rfl) (by first | rfl | (first | rfl | assumption | (exact Hid.out (by assumption)) | (exact tokL_size _) | (rw [arr8_size]; first | rfl | assumption | (exact Hid.out (by assumption)) | exact tokL_size _ | exact List.length_replicate ..) | (simp [arr8_size]; done))) gw ?_) | (refine step_loadO 27 _ _ rfl _ _ _ (S.old_heap (Hid.out (by assumption))) _ Tryd.underlying27 rfl 36 (by kernel_rfl) (by first | rfl | (first | rfl | assumption | (exact Hid.out (by assumption)) | (exact tokL_size _) | (rw [arr8_size]; first | rfl | assumption | (exact Hid.out (by assumption)) | exact tokL_size _ | exact List.length_replicate ..) | (simp [arr8_size]; done))) gw ?_) | (refine step_loadR 27 _ _ _ rfl _ (S.old_range hy) _ Tryd.underlying27 rfl 36 (by kernel_rfl) (by first | rfl | (first | rfl | assumption | (exact Hid.out (by assumption)) | (exact tokL_size _) | (rw [arr8_size]; first | rfl | assumption | (exact Hid.out (by assumption)) | exact tokL_size _ | exact List.length_replicate ..) | (simp [arr8_size]; done))) _ rfl gw ?_)) | ((with_reducible show wpList _ _ _ (⟨_, .load 24 _, _, _, _, _⟩ :: _) _ _); first | (refine step_load1 24 _ _ _ rfl (S.cell pk co) _ Tryd.underlying24 rfl gw ?_) | (refine step_load1 24 _ _ _ rfl (S.row_cell pk _ _ hyr) _ Tryd.underlying24 rfl gw ?_) | (refine step_load1 24 _ _ _ rfl (S.row_cellS pk _ _ hy) _ Tryd.underlying24 rfl gw ?_) | (refine step_load1 24 _ _ _ rfl (S.old_cell hy) _ Tryd.underlying24 rfl gw ?_)) | ((with_reducible show wpList _ _ _ (⟨some 22, .alloc 27, _, _, _, _⟩ :: _) _ _); refine step_alloc (dst := some 22) S 27 (.agg ((tokL tokZ).toArray)) ((tokL tokZ).toArray) (by kernel_rfl) rfl gw ?_; clear S; intro g22 w S) | ((with_reducible show wpList _ _ _ (⟨none, .store 27 (.tmp 22) (.tmp 128), _, _, _, _⟩ :: _) _ _); refine step_store S 27 (.tmp 22) (.tmp 128) _ _ rfl rfl _ _ pk 36 (by kernel_rfl) (by first | rfl | (first | rfl | assumption | (exact Hid.out (by assumption)) | (exact tokL_size _) | (rw [arr8_size]; first | rfl | assumption | (exact Hid.out (by assumption)) | exact tokL_size _ | exact List.length_replicate ..) | (simp [arr8_size]; done))) (by first | rfl | (first | rfl | assumption | (exact Hid.out (by assumption)) | (exact tokL_size _) | (rw [arr8_size]; first | rfl | assumption | (exact Hid.out (by assumption)) | exact tokL_size _ | exact List.length_replicate ..) | (simp [arr8_size]; done))) on1 gw ?_; clear S; intro w S) | ((with_reducible show wpList _ _ _ (⟨_, .load 27 _, _, _, _, _⟩ :: _) _ _); first | (refine step_loadR 27 _ _ _ rfl _ (S.old_range hy) _ Tryd.underlying27 rfl 36 (by kernel_rfl) (by first | rfl | (first | rfl | assumption | (exact Hid.out (by assumption)) | (exact tokL_size _) | (rw [arr8_size]; first | rfl | assumption | (exact Hid.out (by assumption)) | exact tokL_size _ | exact List.length_replicate ..) | (simp [arr8_size]; done))) _ rfl gw ?_) | (refine step_loadP S 27 _ _ _ rfl _ _ _ pk 36 _ (by (first | exact cellsH_st .. | assumption | rfl)) (by first | rfl | (first | rfl | assumption | (exact Hid.out (by assumption)) | (exact tokL_size _) | (rw [arr8_size]; first | rfl | assumption | (exact Hid.out (by assumption)) | exact tokL_size _ | exact List.length_replicate ..) | (simp [arr8_size]; done))) _ Tryd.underlying27 rfl (by kernel_rfl) gw ?_)) | ((with_reducible show wpList _ _ _ (⟨_, .load 68 _, _, _, _, _⟩ :: _) _ _); first | (refine step_load1 68 _ _ _ rfl (S.cell pk co) _ Tryd.underlying68 rfl gw ?_) | (refine step_load1 68 _ _ _ rfl (S.row_cell pk _ _ hyr) _ Tryd.underlying68 rfl gw ?_) | (refine step_load1 68 _ _ _ rfl (S.row_cellS pk _ _ hy) _ Tryd.underlying68 rfl gw ?_) | (refine step_load1 68 _ _ _ rfl (S.old_cell hy) _ Tryd.underlying68 rfl gw ?_)) | ((with_reducible show wpList _ _ _ (⟨none, .store 27 (.tmp 22) (.tmp 143), _, _, _, _⟩ :: _) _ _); refine step_store S 27 (.tmp 22) (.tmp 143) _ _ rfl rfl _ _ pk 36 (by kernel_rfl) (by first | rfl | (first | rfl | assumption | (exact Hid.out (by assumption)) | (exact tokL_size _) | (rw [arr8_size]; first | rfl | assumption | (exact Hid.out (by assumption)) | exact tokL_size _ | exact List.length_replicate ..) | (simp [arr8_size]; done))) (by first | rfl | (first | rfl | assumption | (exact Hid.out (by assumption)) | (exact tokL_size _) | (rw [arr8_size]; first | rfl | assumption | (exact Hid.out (by assumption)) | exact tokL_size _ | exact List.length_replicate ..) | (simp [arr8_size]; done))) on1 gw ?_; clear S; intro w S) | ((with_reducible show wpList _ _ _ (⟨_, .load 3 _, _, _, _, _⟩ :: _) _ _); first | (refine step_load1 3 _ _ _ rfl (S.cell pk co) _ Tryd.underlying3 rfl gw ?_) | (refine step_load1 3 _ _ _ rfl (S.row_cell pk _ _ hyr) _ Tryd.underlying3 rfl gw ?_) | (refine step_load1 3 _ _ _ rfl (S.row_cellS pk _ _ hy) _ Tryd.underlying3 rfl gw ?_) | (refine step_load1 3 _ _ _ rfl (S.old_cell hy) _ Tryd.underlying3 rfl gw ?_)) | (go_at_call 41; (with_reducible refine (P1.out _ _ (by first | assumption | exact S.old (Hid.out (by assumption)) | exact S.sl pk | exact S.sl_rd pk)).mono ?_); rintro e w1 ⟨rfl, T⟩; replace S := S.call T; clear T; (try simp only [List.nil_append, List.cons_append] at S)) | (go_at_call 42; (with_reducible refine (P2.out _ _ (by first | assumption | exact S.old (Hid.out (by assumption)) | exact S.sl pk | exact S.sl_rd pk)).mono ?_); rintro e w1 ⟨rfl, T⟩; replace S := S.call T; clear T; (try simp only [List.nil_append, List.cons_append] at S)) | fail)
        go_ret
        exact ⟨by simp, S.nil⟩
end Go.Proofs.YtioonimpobcglaaDoor
