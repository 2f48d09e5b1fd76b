/- The body of a reply: what replyBody returns, and replyOf. No condition but the reach. -/
import Derived.Test.YtfhkmmagpnojmaaZBd
import Derived.Test.YtfhkmmagpnojmaaZBg
import Derived.Test.YtfhkmmagpnojmaaZRelyC
set_option linter.unusedSimpArgs false
set_option linter.unusedVariables false
namespace Go.Proofs.Ytfhkmmagpnojmaa
open Go.RowKit

abbrev nilV : Value := .slice none 0 0
/-- Which body a reply has. -/
inductive BK | n | o | s | w | c | t
def bk (r : Rp) : BK :=
  if r.code.v ≠ 0 then .n else if r.kind = 1 ∨ r.kind = 16 then .o else if r.kind = 3 then .s else if r.kind = 4 then .w else if r.kind = 5 then .c else if r.kind = 18 then .t else .n
/-- The body of a kind with the fields of a reply. -/
def bodyK (q : BK) (r : Rp) (vr vc : Value) : Value := match q with
  | .n => .iface 113 (.agg #[])
  | .o => .iface 122 (.int .i64 r.order.v)
  | .s => .iface 124 (.agg #[.int .u8 (r.state.toNat : Int), .int .u64 (r.done.toNat : Int)])
  | .w => .iface 126 (.agg #[vr, .int .i64 r.queued.v])
  | .c => .iface 128 (.agg #[.int .u32 (r.count.toNat : Int), vc])
  | .t => .iface 73 (.agg (tokL r.tok).toArray)
def bodyV (r : Rp) (vr vc : Value) : Value := bodyK (bk r) r vr vc
/-- A reply with the fixed fields of a reply and the fields of a body. -/
def usK (q : BK) (h r : Rp) : Rp := match q with
  | .n => rpH h.kind h.code h.tick
  | .o => { rpH h.kind h.code h.tick with order := r.order }
  | .s => { rpH h.kind h.code h.tick with state := r.state, done := r.done }
  | .w => { rpH h.kind h.code h.tick with robots := r.robots, queued := r.queued }
  | .c => { rpH h.kind h.code h.tick with count := r.count, records := r.records }
  | .t => { rpH h.kind h.code h.tick with tok := r.tok }
def vrK (q : BK) (v : Value) : Value := match q with | .w => v | _ => nilV
def vcK (q : BK) (v : Value) : Value := match q with | .c => v | _ => nilV
theorem usR_bk (r : Rp) : usR r = usK (bk r) r r := by
  unfold usR bk usK
  by_cases h0 : r.code.v ≠ 0
  · simp only [if_pos h0]
  · by_cases h1 : r.kind = 1 ∨ r.kind = 16
    · simp only [if_neg h0, if_pos h1]
    · by_cases h3 : r.kind = 3
      · simp only [if_neg h0, if_neg h1, if_pos h3]
      · by_cases h4 : r.kind = 4
        · simp only [if_neg h0, if_neg h1, if_neg h3, if_pos h4]
        · by_cases h5 : r.kind = 5
          · simp only [if_neg h0, if_neg h1, if_neg h3, if_neg h4, if_pos h5]
          · by_cases h18 : r.kind = 18
            · simp only [if_neg h0, if_neg h1, if_neg h3, if_neg h4, if_neg h5, if_pos h18]
            · simp only [if_neg h0, if_neg h1, if_neg h3, if_neg h4, if_neg h5, if_neg h18]
theorem eqU8 (k c : UInt8) : ((k.toNat : Int) == (c.toNat : Int)) = decide (k = c) := by
  rw [Bool.eq_iff_iff, beq_iff_eq, decide_eq_true_eq]
  exact ⟨fun h => UInt8.toNat_inj.1 (by omega), fun h => by rw [h]⟩
/-- A reply's code and kind, case by case. -/
theorem bk_cases (r : Rp) :
    (((r.code.v : Int) != 0) = true ∧ bk r = .n) ∨ (((r.code.v : Int) != 0) = false ∧ (
      (((r.kind.toNat : Int) == 1) = true ∧ bk r = .o) ∨ (((r.kind.toNat : Int) == 1) = false ∧ (
      (((r.kind.toNat : Int) == 16) = true ∧ bk r = .o) ∨ (((r.kind.toNat : Int) == 16) = false ∧ (
      (((r.kind.toNat : Int) == 3) = true ∧ bk r = .s) ∨ (((r.kind.toNat : Int) == 3) = false ∧ (
      (((r.kind.toNat : Int) == 4) = true ∧ bk r = .w) ∨ (((r.kind.toNat : Int) == 4) = false ∧ (
      (((r.kind.toNat : Int) == 5) = true ∧ bk r = .c) ∨ (((r.kind.toNat : Int) == 5) = false ∧ (
      (((r.kind.toNat : Int) == 18) = true ∧ bk r = .t) ∨ (((r.kind.toNat : Int) == 18) = false ∧ bk r = .n))))))))))))) := by
  have e1 := eqU8 r.kind 1
  have e16 := eqU8 r.kind 16
  have e3 := eqU8 r.kind 3
  have e4 := eqU8 r.kind 4
  have e5 := eqU8 r.kind 5
  have e18 := eqU8 r.kind 18
  simp only [show ((1 : UInt8).toNat : Int) = 1 from rfl, show ((16 : UInt8).toNat : Int) = 16 from rfl, show ((3 : UInt8).toNat : Int) = 3 from rfl, show ((4 : UInt8).toNat : Int) = 4 from rfl, show ((5 : UInt8).toNat : Int) = 5 from rfl, show ((18 : UInt8).toNat : Int) = 18 from rfl] at e1 e16 e3 e4 e5 e18
  rw [e1, e16, e3, e4, e5, e18]
  unfold bk
  by_cases h0 : r.code.v ≠ 0
  · exact .inl ⟨by rw [bne_iff_ne]; exact h0, if_pos h0⟩
  · refine .inr ⟨by rw [bne_eq_false_iff_eq]; omega, ?_⟩
    rw [if_neg h0]
    by_cases h1 : r.kind = 1
    · exact .inl ⟨decide_eq_true h1, if_pos (.inl h1)⟩
    refine .inr ⟨decide_eq_false h1, ?_⟩
    by_cases h16 : r.kind = 16
    · exact .inl ⟨decide_eq_true h16, if_pos (.inr h16)⟩
    refine .inr ⟨decide_eq_false h16, ?_⟩
    rw [if_neg (by rintro (h | h); exact h1 h; exact h16 h)]
    by_cases h3 : r.kind = 3
    · exact .inl ⟨decide_eq_true h3, if_pos h3⟩
    refine .inr ⟨decide_eq_false h3, ?_⟩
    rw [if_neg h3]
    by_cases h4 : r.kind = 4
    · exact .inl ⟨decide_eq_true h4, if_pos h4⟩
    refine .inr ⟨decide_eq_false h4, ?_⟩
    rw [if_neg h4]
    by_cases h5 : r.kind = 5
    · exact .inl ⟨decide_eq_true h5, if_pos h5⟩
    refine .inr ⟨decide_eq_false h5, ?_⟩
    rw [if_neg h5]
    by_cases h18 : r.kind = 18
    · exact .inl ⟨decide_eq_true h18, if_pos h18⟩
    · exact .inr ⟨decide_eq_false h18, if_neg h18⟩
theorem build_st (x y : Int) (w : World) : (Instr.build 124 #[(0, .int .u8 x), (1, .int .u64 y)]).run Try.prog w = .ok (.agg #[.int .u8 x, .int .u64 y]) w := by kernel_rfl
theorem build_wt (a : Option Addr) (n c : Nat) (y : Int) (w : World) : (Instr.build 126 #[(0, .slice a n c), (1, .int .i64 y)]).run Try.prog w = .ok (.agg #[.slice a n c, .int .i64 y]) w := by kernel_rfl
theorem build_chn (x : Int) (a : Option Addr) (n c : Nat) (w : World) : (Instr.build 128 #[(0, .int .u32 x), (1, .slice a n c)]).run Try.prog w = .ok (.agg #[.int .u32 x, .slice a n c]) w := by kernel_rfl
theorem build_no (w : World) : (Instr.build 113 #[]).run Try.prog w = .ok (.agg #[]) w := by kernel_rfl
set_option maxRecDepth 100000 in
set_option maxHeartbeats 8000000 in
theorem replyBody_s (r : Rp) (ar ac : Option Addr) (nr cr nc cc : Nat) (w0 : World) : Calls Try.prog 40 #[.agg (rpL r (.slice ar nr cr) (.slice ac nc cc)).toArray] w0 fun e w' => e = .returned (bodyV r (.slice ar nr cr) (.slice ac nc cc)) ∧ Has w0 w' [] := by
  have S := Has.start w0
  have d0 := rpL_0 r (.slice ar nr cr) (.slice ac nc cc)
  have d1 := rpL_1 r (.slice ar nr cr) (.slice ac nc cc)
  have d3 := rpL_3 r (.slice ar nr cr) (.slice ac nc cc)
  have d4 := rpL_4 r (.slice ar nr cr) (.slice ac nc cc)
  have d5 := rpL_5 r (.slice ar nr cr) (.slice ac nc cc)
  have d6 := rpL_6 r (.slice ar nr cr) (.slice ac nc cc)
  have d7 := rpL_7 r (.slice ar nr cr) (.slice ac nc cc)
  have d8 := rpL_8 r (.slice ar nr cr) (.slice ac nc cc)
  have d9 := rpL_9 r (.slice ar nr cr) (.slice ac nc cc)
  have hk := bk_cases r
  have b1 := build_st
  have b2 := build_wt
  have b3 := build_chn
  have b4 := build_no
  unfold bodyV
  rcases hk with ⟨j0, hq⟩ | ⟨j0, ⟨j1, hq⟩ | ⟨j1, ⟨j2, hq⟩ | ⟨j2, ⟨j3, hq⟩ | ⟨j3, ⟨j4, hq⟩ | ⟨j4, ⟨j5, hq⟩ | ⟨j5, ⟨j6, hq⟩ | ⟨j6, hq⟩⟩⟩⟩⟩⟩⟩
  all_goals
    rw [hq]
    have D0 := Lib.hid d0; have D1 := Lib.hid d1; have D3 := Lib.hid d3; have D4 := Lib.hid d4; have D5 := Lib.hid d5; have D6 := Lib.hid d6; have D7 := Lib.hid d7; have D8 := Lib.hid d8; have D9 := Lib.hid d9; clear d0 d1 d3 d4 d5 d6 d7 d8 d9
    clear hq
    go_enter Try.func40, Try.ntmps40
    go_wp2_with (first | ((with_reducible refine iD 1 (.box 53 (.tmp 0)) ?_); refine step_boxA (dst := some 1) S 53 (.tmp 0) _ rfl rfl ?_; clear S; intro g1 w S) | ((with_reducible refine iO _ (.load 24 _) ?_); refine step_load1 24 _ _ _ rfl (cL) _ Try.underlying24 rfl rfl ?_) | ((with_reducible refine iO _ (.load 5 _) ?_); refine step_load1 5 _ _ _ rfl (cL) _ Try.underlying5 rfl rfl ?_) | ((with_reducible refine iO _ (.load 3 _) ?_); refine step_load1 3 _ _ _ rfl (cL) _ Try.underlying3 rfl rfl ?_) | ((with_reducible refine iO _ (.load 32 _) ?_); refine step_load1 32 _ _ _ rfl (cL) _ Try.underlying32 rfl rfl ?_) | ((with_reducible refine iO _ (.load 50 _) ?_); refine step_load1 50 _ _ _ rfl (cL) _ Try.underlying50 rfl rfl ?_) | ((with_reducible refine iO _ (.load 33 _) ?_); refine step_load1 33 _ _ _ rfl (cL) _ Try.underlying33 rfl rfl ?_) | ((with_reducible refine iO _ (.load 51 _) ?_); refine step_load1 51 _ _ _ rfl (cL) _ Try.underlying51 rfl rfl ?_) | ((with_reducible refine iO _ (.load 36 _) ?_); first | (refine step_loadR 36 _ _ _ rfl _ (S.old_range hy) _ Try.underlying36 rfl 36 kR lN _ rfl rfl ?_) | (refine step_loadP S 36 _ _ _ rfl _ _ _ pk 36 _ pT lN _ Try.underlying36 rfl kR rfl ?_)) | fail)
    go_ret
    exact ⟨rfl, S.nil⟩
end Go.Proofs.Ytfhkmmagpnojmaa
