/- The specification's schedule of words and its table of constants, in new memory; what was there stays. -/
import Derived.Test.YtioonimpobcglaaDoorComp
import Derived.Test.YtioonimpobcglaaDoorPut
set_option linter.unusedSimpArgs false
set_option linter.unusedVariables false
namespace Go.Proofs.YtioonimpobcglaaDoor
open Go.RowKit

theorem Tryd.infoW : (Tryd.prog.info? 24).map (fun i => (i.zero, i.size, i.bytes)) = some (some (.int .u32 0), 1, 4) := by kernel_rfl

theorem mixS_two (a b : Nat) (x : UInt32) : mixS [a, b] x = rotr x a ^^^ rotr x b := by simp [mixS]
theorem mixS_three (a b c : Nat) (x : UInt32) : mixS [a, b, c] x = rotr x a ^^^ rotr x b ^^^ rotr x c := by simp [mixS]

theorem rotr_7 (x : UInt32) (w : World) : Calls Tryd.prog 95 #[U32 x, .int .i64 7] w fun e w' => e = .returned (U32 (rotr x 7)) ∧ ∃ m, w' = w.drewN m := rotr_any x 7 w (by decide) (by decide)
theorem rotr_18 (x : UInt32) (w : World) : Calls Tryd.prog 95 #[U32 x, .int .i64 18] w fun e w' => e = .returned (U32 (rotr x 18)) ∧ ∃ m, w' = w.drewN m := rotr_any x 18 w (by decide) (by decide)
theorem rotr_17 (x : UInt32) (w : World) : Calls Tryd.prog 95 #[U32 x, .int .i64 17] w fun e w' => e = .returned (U32 (rotr x 17)) ∧ ∃ m, w' = w.drewN m := rotr_any x 17 w (by decide) (by decide)
theorem rotr_19 (x : UInt32) (w : World) : Calls Tryd.prog 95 #[U32 x, .int .i64 19] w fun e w' => e = .returned (U32 (rotr x 19)) ∧ ∃ m, w' = w.drewN m := rotr_any x 19 w (by decide) (by decide)
theorem rotr_6 (x : UInt32) (w : World) : Calls Tryd.prog 95 #[U32 x, .int .i64 6] w fun e w' => e = .returned (U32 (rotr x 6)) ∧ ∃ m, w' = w.drewN m := rotr_any x 6 w (by decide) (by decide)
theorem rotr_11 (x : UInt32) (w : World) : Calls Tryd.prog 95 #[U32 x, .int .i64 11] w fun e w' => e = .returned (U32 (rotr x 11)) ∧ ∃ m, w' = w.drewN m := rotr_any x 11 w (by decide) (by decide)
theorem rotr_25 (x : UInt32) (w : World) : Calls Tryd.prog 95 #[U32 x, .int .i64 25] w fun e w' => e = .returned (U32 (rotr x 25)) ∧ ∃ m, w' = w.drewN m := rotr_any x 25 w (by decide) (by decide)
theorem rotr_2 (x : UInt32) (w : World) : Calls Tryd.prog 95 #[U32 x, .int .i64 2] w fun e w' => e = .returned (U32 (rotr x 2)) ∧ ∃ m, w' = w.drewN m := rotr_any x 2 w (by decide) (by decide)
theorem rotr_13 (x : UInt32) (w : World) : Calls Tryd.prog 95 #[U32 x, .int .i64 13] w fun e w' => e = .returned (U32 (rotr x 13)) ∧ ∃ m, w' = w.drewN m := rotr_any x 13 w (by decide) (by decide)
theorem rotr_22 (x : UInt32) (w : World) : Calls Tryd.prog 95 #[U32 x, .int .i64 22] w fun e w' => e = .returned (U32 (rotr x 22)) ∧ ∃ m, w' = w.drewN m := rotr_any x 22 w (by decide) (by decide)
theorem power_3 (w : World) : Calls Tryd.prog 96 #[.int .i64 3] w fun e w' => e = .returned (U32 (pw 3)) ∧ w' = w := power_any 3 w (by decide)
theorem power_10 (w : World) : Calls Tryd.prog 96 #[.int .i64 10] w fun e w' => e = .returned (U32 (pw 10)) ∧ w' = w := power_any 10 w (by decide)

/-- What a call leaves that returns words in new memory. -/
def FreshW (w : World) (xs : List UInt32) (e : Ending) (w' : World) : Prop :=
  ∃ v', e = .returned v' ∧ w'.ownsRow w.heap.size 24 1 v' 64 (xs.map U32) ∧ Below w.heap.size w w'

theorem own_base {w : World} {base base' e size : Nat} {v : Value} {n : Nat} {xs : List Value} (h : w.ownsRow base e size v n xs) (hb : base' ≤ base) : w.ownsRow base' e size v n xs := by
  refine ⟨h.1, ?_⟩
  rcases h.2 with hn | ⟨g, cap, cur, hv, hg, r⟩
  · exact .inl hn
  · exact .inr ⟨g, cap, cur, hv, Nat.le_trans hb hg, r⟩

theorem oneCell_U32 (xs : List UInt32) : ∀ u ∈ xs.map U32, u.oneCell' = true := by
  intro u hu
  obtain ⟨x, _, rfl⟩ := List.mem_map.1 hu
  rfl

set_option maxRecDepth 20000 in
set_option maxHeartbeats 4000000 in
theorem sched_any (b : List UInt8) (w : World) (hb : b.length = 64) :
    Calls Tryd.prog 93 #[.agg (b.map by8).toArray] w (FreshW w ((schedW b 64))) := by
  obtain ⟨C, hC⟩ : ∃ C, C = (b.map by8).toArray := ⟨_, rfl⟩
  rw [← hC]
  have HC := Lib.hid hC; have HBL := Lib.hid hb; clear hC hb
  go_enter Tryd.func93, Tryd.ntmps93
  go_wp2_with fail
  go_loopw [3, 4] (fun o i wr => ∃ k : Nat, k ≤ 64 ∧ i = .int .i64 (k : Int) ∧ wr.ownsRow (w.heap.size + 1) 24 1 o k ((schedW b k).map U32) ∧ Below (w.heap.size + 1) (w.alloc (.cells C 131)) wr) (fun _ i _ => 64 - (intOf i).toNat)
  case atStart => exact ⟨0, by omega, rfl, World.ownsRow_nil _ _ _ _, Below.refl _ _⟩
  case round =>
    obtain ⟨k, hk, rfl, hown, hbel⟩ := hrel
    have hsz := hbel.size
    have hsz' : w.heap.size + 1 ≤ wr.heap.size := by simpa using hsz
    clear hsz
    have HO := Lib.hid hown; have HB := Lib.hid hbel; clear hown hbel
    by_cases hlt : k < 64
    · by_cases h16 : k < 16
      · have hblk : wr.heap[w.heap.size]? = some (.cells (b.map by8).toArray 131 (0, 0)) := by
          rw [HB.out.block _ (by omega), ← HC.out]; exact heap_alloc_new w _
        have hbs := word_bs hblk HBL.out k h16
        have hl4 : ((b.drop (4 * k)).take 4).length ≤ 8 := by simp; omega
        have HBS := Lib.hid hbs; have HL4 := Lib.hid hl4; clear hbs hl4 hblk
        have hsl := fun wx => slice_blk w.heap.size k h16 wx
        go_wp2_with (first | (go_at_call 48; refine (value_any _ ((b.drop (4 * k)).take 4) _ HBS.out HL4.out).mono ?_; rintro e w' ⟨rfl, rfl⟩) | (at_builtin; refine wpList_append_grew _ rfl (.tmp 13) (.tmp 22) 74 rfl (w.heap.size + 1) 24 (.int .u32 0) 1 4 Tryd.underlying74 Tryd.infoW rfl (by decide) _ _ _ rfl (HO.out.alloc _) _ 1 [.int .u32 ((val ((b.drop (4 * k)).take 4) : Int) % 4294967296)] rfl (Sl.one _ _ _) ?c1 ?c2 ?c3 ?c4 ?_))
        case c1 => intro u hu; simp at hu; subst hu; rfl
        case c2 => unfold maxLen; omega
        case c3 => omega
        case c4 => simp; omega
        intro v' w1 hown' hgrow
        have hb1 := HB.out.trans ((((Below.refl (w.heap.size + 1) wr)).alloc hsz' _).trans (hgrow.belowOwn (HO.out.alloc _) (Nat.le_refl _) (by simp; omega)))
        have ho1 := own_eq (n' := k + 1) (xs' := (schedW b (k + 1)).map U32) hown' rfl (by simp only [schedW, if_pos h16, List.map_append, List.map_cons, List.map_nil, u32_word]; rfl)
        have HO1 := Lib.hid ho1; have HB1 := Lib.hid hb1; clear hown' hgrow hb1 ho1
        go_wp2_with fail
        go_roundw
        case rel => exact ⟨k + 1, by omega, by go_num, HO1.out, HB1.out⟩
        case measure => simp [intOf]; omega
      · rcases own_shape HO.out with ⟨hv3, hk0⟩ | ⟨g, cap, hv3, hown3⟩
        · omega
        rw [hv3]
        have hget : ∀ j, j < k → wr.cell? ⟨g, j, none⟩ = some (U32 ((schedW b k).getD j 0)) := fun j hj => by
          have := hown3.cellAt j (by omega)
          rw [this, List.getElem?_map, List.getElem?_eq_getElem (by rw [schedW_length]; exact hj)]
          simp [List.getD, schedW_length, hj]
        have c16 := hget (k - 16) (by omega)
        have c15 := hget (k - 15) (by omega)
        have c7 := hget (k - 7) (by omega)
        have c2 := hget (k - 2) (by omega)
        generalize hx16 : (schedW b k).getD (k - 16) 0 = x16 at c16
        generalize hx15 : (schedW b k).getD (k - 15) 0 = x15 at c15
        generalize hx7 : (schedW b k).getD (k - 7) 0 = x7 at c7
        generalize hx2 : (schedW b k).getD (k - 2) 0 = x2 at c2
        have hnx : nextW (schedW b k) k = x16 + (rotr x15 7 ^^^ rotr x15 18 ^^^ (x15 / pw 3)) + x7 + (rotr x2 17 ^^^ rotr x2 19 ^^^ (x2 / pw 10)) := by unfold nextW; rw [hx16, hx15, hx7, hx2, mixS_two, mixS_two, pw_shr3, pw_shr10]
        have HNX := Lib.hid hnx; have HO3 := Lib.hid hown3
        clear hnx hx16 hx15 hx7 hx2 hget hv3 hown3 HO
        have p3 := pw_ne 3 (by decide)
        have p10 := pw_ne 10 (by decide)
        have w16 : IntKind.i64.wrap ((k : Int) - 16) = (k : Int) - 16 := IntWalk.i64_in _ (by omega)
        have l16 : (k : Int) - 16 < k := by omega
        have z16 : 0 ≤ (k : Int) - 16 := by omega
        have q16 : (16 : Int) ≤ (k : Int) := by omega
        have t16 : ((k : Int) - 16).toNat = k - 16 := by omega
        have w15 : IntKind.i64.wrap ((k : Int) - 15) = (k : Int) - 15 := IntWalk.i64_in _ (by omega)
        have l15 : (k : Int) - 15 < k := by omega
        have z15 : 0 ≤ (k : Int) - 15 := by omega
        have q15 : (15 : Int) ≤ (k : Int) := by omega
        have t15 : ((k : Int) - 15).toNat = k - 15 := by omega
        have w7 : IntKind.i64.wrap ((k : Int) - 7) = (k : Int) - 7 := IntWalk.i64_in _ (by omega)
        have l7 : (k : Int) - 7 < k := by omega
        have z7 : 0 ≤ (k : Int) - 7 := by omega
        have q7 : (7 : Int) ≤ (k : Int) := by omega
        have t7 : ((k : Int) - 7).toNat = k - 7 := by omega
        have w2 : IntKind.i64.wrap ((k : Int) - 2) = (k : Int) - 2 := IntWalk.i64_in _ (by omega)
        have l2 : (k : Int) - 2 < k := by omega
        have z2 : 0 ≤ (k : Int) - 2 := by omega
        have q2 : (2 : Int) ≤ (k : Int) := by omega
        have t2 : ((k : Int) - 2).toNat = k - 2 := by omega
        go_wp2_with fail
        go_quiet ((first | (go_at_call 95; (with_reducible exact Calls.quiet_of (rotr_7 x15 _))) | (go_at_call 95; (with_reducible exact Calls.quiet_of (rotr_18 x15 _))) | (go_at_call 96; (with_reducible exact Calls.quiet_of_same (power_3 _)))))
        go_wp2_with fail
        have e16 : (wr.drewN nq).cell? ⟨g, k - 16, none⟩ = some (U32 x16) := c16
        have e7 : (wr.drewN nq).cell? ⟨g, k - 7, none⟩ = some (U32 x7) := c7
        have e2 : (wr.drewN nq).cell? ⟨g, k - 2, none⟩ = some (U32 x2) := c2
        have hoq : (wr.drewN nq).ownsRow (w.heap.size + 1) 24 1 (.slice (some ⟨g, 0, none⟩) k cap) k ((schedW b k).map U32) := HO3.out
        have hbq : Below (w.heap.size + 1) (w.alloc (.cells C 131)) (wr.drewN nq) := below_drewN HB.out nq
        have hsq : w.heap.size + 1 ≤ (wr.drewN nq).heap.size := hsz'
        clear c16 c15 c7 c2 HO3 HB hsz'
        generalize wr.drewN nq = wq at e16 e7 e2 hoq hbq hsq ⊢
        have HO3 := Lib.hid hoq; have HB := Lib.hid hbq; clear hoq hbq
        go_quiet ((first | (go_at_call 95; (with_reducible exact Calls.quiet_of (rotr_17 x2 _))) | (go_at_call 95; (with_reducible exact Calls.quiet_of (rotr_19 x2 _))) | (go_at_call 96; (with_reducible exact Calls.quiet_of_same (power_10 _)))))
        go_wp2_with fail
        have f16 : (wq.drewN nq).cell? ⟨g, k - 16, none⟩ = some (U32 x16) := e16
        have f7 : (wq.drewN nq).cell? ⟨g, k - 7, none⟩ = some (U32 x7) := e7
        have hoq : (wq.drewN nq).ownsRow (w.heap.size + 1) 24 1 (.slice (some ⟨g, 0, none⟩) k cap) k ((schedW b k).map U32) := HO3.out
        have hbq : Below (w.heap.size + 1) (w.alloc (.cells C 131)) (wq.drewN nq) := below_drewN HB.out nq
        have hsp : w.heap.size + 1 ≤ (wq.drewN nq).heap.size := hsq
        clear e16 e7 e2 HO3 HB hsq p3 p10
        generalize wq.drewN nq = wp at f16 f7 hoq hbq hsp ⊢
        have HO3 := Lib.hid hoq; have HB := Lib.hid hbq; clear hoq hbq
        go_region_law (refine step_append_grew _ rfl (.tmp 66) (.tmp 82) 74 rfl (w.heap.size + 1) 24 (.int .u32 0) 1 4 Tryd.underlying74 Tryd.infoW rfl (by decide) _ _ _ rfl (HO3.out.alloc _) _ 1 [U32 (x16 + (rotr x15 7 ^^^ rotr x15 18 ^^^ (x15 / pw 3)) + x7 + (rotr x2 17 ^^^ rotr x2 19 ^^^ (x2 / pw 10)))] rfl (Sl.one _ _ _) (by intro u hu; simp at hu; subst hu; rfl) (by unfold maxLen; omega) (by omega) (by simp; omega) ?_; intro v' w1 hown' hgrow; have HO' := Lib.hid hown'; have HG := Lib.hid hgrow; clear hown' hgrow)
        all_goals
          have hb1 := HB.out.trans ((((Below.refl (w.heap.size + 1) wp).drew).alloc hsp _).trans (HG.out.belowOwn (HO3.out.alloc _) (Nat.le_refl _) (by simp; omega)))
          have ho1 := own_eq (n' := k + 1) (xs' := (schedW b (k + 1)).map U32) HO'.out rfl (by simp only [schedW, if_neg h16, List.map_append, List.map_cons, List.map_nil, HNX.out])
          have HO1 := Lib.hid ho1; have HB1 := Lib.hid hb1; clear ho1 hb1
          go_wp2_with fail
          go_roundw
          case rel => first | exact ⟨k + 1, by omega, by go_num, HO1.out, HB1.out⟩ | ((repeat apply Exists.intro); exact ⟨⟨k + 1, by omega, by go_num, HO1.out, HB1.out⟩, rfl⟩)
          case measure => simp [intOf]; omega
    · obtain rfl : k = 64 := by omega
      have hb0 : Below w.heap.size w wr := ((Below.refl w.heap.size w).alloc (Nat.le_refl _) (.cells C 131)).trans (HB.out.mono (by omega))
      have hown := own_base HO.out (show w.heap.size ≤ w.heap.size + 1 by omega)
      have HB0 := Lib.hid hb0; have HO0 := Lib.hid hown; clear hb0 hown
      go_wp2_with fail
      go_ret
      exact ⟨_, rfl, HO0.out, HB0.out⟩
end Go.Proofs.YtioonimpobcglaaDoor
