/- Several texts under one header: what the claim needs of RpB, Bh, Bdy, BdyW. No condition but those that each names. -/
import Derived.Test.YtfhkmmagpnojmaaDoorYR1
import Derived.Test.YtfhkmmagpnojmaaDoorYR5
import Derived.Test.YtfhkmmagpnojmaaDoorYR4
import Derived.Laws.Shifts
import Derived.WalkLawsBesides
set_option linter.unusedSimpArgs false
set_option linter.unusedVariables false

/- The body of a reply: what replyBody returns, and replyOf. No condition but the reach. -/
namespace Go.Proofs.YtfhkmmagpnojmaaDoor
open Go.RowKit

abbrev nilV : Value := .slice none 0 0
/-- Which body a reply has. -/
inductive BK | n | o | s | w | c | t
def bk (r : Rp) : BK :=
  if r.code.v ≠ 0 then .n else if r.kind = 1 ∨ r.kind = 16 then .o else if r.kind = 3 then .s else if r.kind = 4 then .w else if r.kind = 5 then .c else if r.kind = 18 then .t else .n
/-- The body of a kind with the fields of a reply. -/
def bodyK (q : BK) (r : Rp) (vr vc : Value) : Value := match q with
  | .n => .iface 152 (.agg #[])
  | .o => .iface 160 (.int .i64 r.order.v)
  | .s => .iface 162 (.agg #[.int .u8 (r.state.toNat : Int), .int .u64 (r.done.toNat : Int)])
  | .w => .iface 164 (.agg #[vr, .int .i64 r.queued.v])
  | .c => .iface 108 (.agg #[.int .u32 (r.count.toNat : Int), vc])
  | .t => .iface 114 (.agg (tokL r.tok).toArray)
def bodyV (r : Rp) (vr vc : Value) : Value := bodyK (bk r) r vr vc
/-- A reply with the fixed fields of a reply and the fields of a body. -/
def usK (q : BK) (h r : Rp) : Rp := match q with
  | .n => rpH h.kind h.code h.tick
  | .o => { rpH h.kind h.code h.tick with order := r.order }
  | .s => { rpH h.kind h.code h.tick with state := r.state, done := r.done }
  | .w => { rpH h.kind h.code h.tick with robots := r.robots, queued := r.queued }
  | .c => { rpH h.kind h.code h.tick with count := r.count, records := r.records }
  | .t => { rpH h.kind h.code h.tick with tok := r.tok }
def vrK (q : BK) (v : Value) : Value := match q with | .w => v | _ => nilV
def vcK (q : BK) (v : Value) : Value := match q with | .c => v | _ => nilV
theorem usR_bk (r : Rp) : usR r = usK (bk r) r r := by
  unfold usR bk usK
  by_cases h0 : r.code.v ≠ 0
  · simp only [if_pos h0]
  · by_cases h1 : r.kind = 1 ∨ r.kind = 16
    · simp only [if_neg h0, if_pos h1]
    · by_cases h3 : r.kind = 3
      · simp only [if_neg h0, if_neg h1, if_pos h3]
      · by_cases h4 : r.kind = 4
        · simp only [if_neg h0, if_neg h1, if_neg h3, if_pos h4]
        · by_cases h5 : r.kind = 5
          · simp only [if_neg h0, if_neg h1, if_neg h3, if_neg h4, if_pos h5]
          · by_cases h18 : r.kind = 18
            · simp only [if_neg h0, if_neg h1, if_neg h3, if_neg h4, if_neg h5, if_pos h18]
            · simp only [if_neg h0, if_neg h1, if_neg h3, if_neg h4, if_neg h5, if_neg h18]
theorem eqU8 (k c : UInt8) : ((k.toNat : Int) == (c.toNat : Int)) = decide (k = c) := by
  rw [Bool.eq_iff_iff, beq_iff_eq, decide_eq_true_eq]
  exact ⟨fun h => UInt8.toNat_inj.1 (by omega), fun h => by rw [h]⟩
/-- A reply's code and kind, case by case. -/
theorem bk_cases (r : Rp) :
    (((r.code.v : Int) != 0) = true ∧ bk r = .n) ∨ (((r.code.v : Int) != 0) = false ∧ (
      (((r.kind.toNat : Int) == 1) = true ∧ bk r = .o) ∨ (((r.kind.toNat : Int) == 1) = false ∧ (
      (((r.kind.toNat : Int) == 16) = true ∧ bk r = .o) ∨ (((r.kind.toNat : Int) == 16) = false ∧ (
      (((r.kind.toNat : Int) == 3) = true ∧ bk r = .s) ∨ (((r.kind.toNat : Int) == 3) = false ∧ (
      (((r.kind.toNat : Int) == 4) = true ∧ bk r = .w) ∨ (((r.kind.toNat : Int) == 4) = false ∧ (
      (((r.kind.toNat : Int) == 5) = true ∧ bk r = .c) ∨ (((r.kind.toNat : Int) == 5) = false ∧ (
      (((r.kind.toNat : Int) == 18) = true ∧ bk r = .t) ∨ (((r.kind.toNat : Int) == 18) = false ∧ bk r = .n))))))))))))) := by
  have e1 := eqU8 r.kind 1
  have e16 := eqU8 r.kind 16
  have e3 := eqU8 r.kind 3
  have e4 := eqU8 r.kind 4
  have e5 := eqU8 r.kind 5
  have e18 := eqU8 r.kind 18
  simp only [show ((1 : UInt8).toNat : Int) = 1 from rfl, show ((16 : UInt8).toNat : Int) = 16 from rfl, show ((3 : UInt8).toNat : Int) = 3 from rfl, show ((4 : UInt8).toNat : Int) = 4 from rfl, show ((5 : UInt8).toNat : Int) = 5 from rfl, show ((18 : UInt8).toNat : Int) = 18 from rfl] at e1 e16 e3 e4 e5 e18
  rw [e1, e16, e3, e4, e5, e18]
  unfold bk
  by_cases h0 : r.code.v ≠ 0
  · exact .inl ⟨by rw [bne_iff_ne]; exact h0, if_pos h0⟩
  · refine .inr ⟨by rw [bne_eq_false_iff_eq]; omega, ?_⟩
    rw [if_neg h0]
    by_cases h1 : r.kind = 1
    · exact .inl ⟨decide_eq_true h1, if_pos (.inl h1)⟩
    refine .inr ⟨decide_eq_false h1, ?_⟩
    by_cases h16 : r.kind = 16
    · exact .inl ⟨decide_eq_true h16, if_pos (.inr h16)⟩
    refine .inr ⟨decide_eq_false h16, ?_⟩
    rw [if_neg (by rintro (h | h); exact h1 h; exact h16 h)]
    by_cases h3 : r.kind = 3
    · exact .inl ⟨decide_eq_true h3, if_pos h3⟩
    refine .inr ⟨decide_eq_false h3, ?_⟩
    rw [if_neg h3]
    by_cases h4 : r.kind = 4
    · exact .inl ⟨decide_eq_true h4, if_pos h4⟩
    refine .inr ⟨decide_eq_false h4, ?_⟩
    rw [if_neg h4]
    by_cases h5 : r.kind = 5
    · exact .inl ⟨decide_eq_true h5, if_pos h5⟩
    refine .inr ⟨decide_eq_false h5, ?_⟩
    rw [if_neg h5]
    by_cases h18 : r.kind = 18
    · exact .inl ⟨decide_eq_true h18, if_pos h18⟩
    · exact .inr ⟨decide_eq_false h18, if_neg h18⟩
theorem build_st (x y : Int) (w : World) : (Instr.build 162 #[(0, .int .u8 x), (1, .int .u64 y)]).run Tryd.prog w = .ok (.agg #[.int .u8 x, .int .u64 y]) w := by kernel_rfl
theorem build_wt (a : Option Addr) (n c : Nat) (y : Int) (w : World) : (Instr.build 164 #[(0, .slice a n c), (1, .int .i64 y)]).run Tryd.prog w = .ok (.agg #[.slice a n c, .int .i64 y]) w := by kernel_rfl
theorem build_chn (x : Int) (a : Option Addr) (n c : Nat) (w : World) : (Instr.build 108 #[(0, .int .u32 x), (1, .slice a n c)]).run Tryd.prog w = .ok (.agg #[.int .u32 x, .slice a n c]) w := by kernel_rfl
theorem build_no (w : World) : (Instr.build 152 #[]).run Tryd.prog w = .ok (.agg #[]) w := by kernel_rfl
set_option maxRecDepth 100000 in
set_option maxHeartbeats 8000000 in
theorem replyBody_s (r : Rp) (ar ac : Option Addr) (nr cr nc cc : Nat) (w0 : World) : Calls Tryd.prog 68 #[.agg (rpL r (.slice ar nr cr) (.slice ac nc cc)).toArray] w0 fun e w' => e = .returned (bodyV r (.slice ar nr cr) (.slice ac nc cc)) ∧ Has w0 w' [] := by
  have S := Has.start w0
  have d0 := rpL_0 r (.slice ar nr cr) (.slice ac nc cc)
  have d1 := rpL_1 r (.slice ar nr cr) (.slice ac nc cc)
  have d3 := rpL_3 r (.slice ar nr cr) (.slice ac nc cc)
  have d4 := rpL_4 r (.slice ar nr cr) (.slice ac nc cc)
  have d5 := rpL_5 r (.slice ar nr cr) (.slice ac nc cc)
  have d6 := rpL_6 r (.slice ar nr cr) (.slice ac nc cc)
  have d7 := rpL_7 r (.slice ar nr cr) (.slice ac nc cc)
  have d8 := rpL_8 r (.slice ar nr cr) (.slice ac nc cc)
  have d9 := rpL_9 r (.slice ar nr cr) (.slice ac nc cc)
  have hk := bk_cases r
  have b1 := build_st
  have b2 := build_wt
  have b3 := build_chn
  have b4 := build_no
  unfold bodyV
  rcases hk with ⟨j0, hq⟩ | ⟨j0, ⟨j1, hq⟩ | ⟨j1, ⟨j2, hq⟩ | ⟨j2, ⟨j3, hq⟩ | ⟨j3, ⟨j4, hq⟩ | ⟨j4, ⟨j5, hq⟩ | ⟨j5, ⟨j6, hq⟩ | ⟨j6, hq⟩⟩⟩⟩⟩⟩⟩
  all_goals
    rw [hq]
    have D0 := Lib.hid d0; have D1 := Lib.hid d1; have D3 := Lib.hid d3; have D4 := Lib.hid d4; have D5 := Lib.hid d5; have D6 := Lib.hid d6; have D7 := Lib.hid d7; have D8 := Lib.hid d8; have D9 := Lib.hid d9; clear d0 d1 d3 d4 d5 d6 d7 d8 d9
    clear hq
    go_enter Tryd.func68, Tryd.ntmps68
    go_wp2_with (first | ((with_reducible refine iD 1 (.box 79 (.tmp 0)) ?_); refine step_boxA (dst := some 1) S 79 (.tmp 0) _ rfl rfl ?_; clear S; intro g1 w S) | ((with_reducible refine iO _ (.load 24 _) ?_); refine step_load1 24 _ _ _ rfl (cL) _ Tryd.underlying24 rfl rfl ?_) | ((with_reducible refine iO _ (.load 5 _) ?_); refine step_load1 5 _ _ _ rfl (cL) _ Tryd.underlying5 rfl rfl ?_) | ((with_reducible refine iO _ (.load 3 _) ?_); refine step_load1 3 _ _ _ rfl (cL) _ Tryd.underlying3 rfl rfl ?_) | ((with_reducible refine iO _ (.load 23 _) ?_); refine step_load1 23 _ _ _ rfl (cL) _ Tryd.underlying23 rfl rfl ?_) | ((with_reducible refine iO _ (.load 77 _) ?_); refine step_load1 77 _ _ _ rfl (cL) _ Tryd.underlying77 rfl rfl ?_) | ((with_reducible refine iO _ (.load 38 _) ?_); refine step_load1 38 _ _ _ rfl (cL) _ Tryd.underlying38 rfl rfl ?_) | ((with_reducible refine iO _ (.load 31 _) ?_); refine step_load1 31 _ _ _ rfl (cL) _ Tryd.underlying31 rfl rfl ?_) | ((with_reducible refine iO _ (.load 67 _) ?_); first | (refine step_loadR 67 _ _ _ rfl _ (S.old_range hy) _ Tryd.underlying67 rfl 36 kR lN _ rfl rfl ?_) | (refine step_loadP S 67 _ _ _ rfl _ _ _ pk 36 _ pT lN _ Tryd.underlying67 rfl kR rfl ?_)) | fail)
    go_ret
    exact ⟨rfl, S.nil⟩
end Go.Proofs.YtfhkmmagpnojmaaDoor

/- Several texts under one header: Wri, Rdr. No condition but those that each names. -/

/- The writer of wire: one number more, the length in front. No condition but the reach. -/
namespace Go.Proofs.YtfhkmmagpnojmaaDoor
open Go.RowKit

section
variable {P : Program} {ops : Array Oper} {rest : List Oper} {a : Act} {w0 w : World} {l F : List Res} {Q : Exit → Act → World → Prop} {dst : Option Tmp} {ty : TypeId} {pos : String} {after : Array Edge} {gd : Option (Nat × Bool)} {Post : Value → World → Prop}

/-- One cell of a block of one's own is stored. -/
theorem does_store1 {g : Nat} {old : Array Value} {t' : TypeId} (S : Has w0 w (blk g (.cells old t' (0, 0)) :: F)) (t : TypeId) (x y : Operand) (off : Nat) (v : Value) (hx : a.eval x = .pointer (some ⟨g, off, none⟩)) (hy : a.eval y = v)
    (hs : (P.info? t).map (·.size) = some 1) (hv : v.cells = #[v]) (h1 : v.oneCell' = true) (hoff : off < old.size)
    (h : ∀ w', Has w0 w' (blk g (.cells (old.setIfInBounds off v) t' (0, 0)) :: F) → Post undef w') : does P a.eval ⟨dst, .store t x y, ty, pos, after, gd⟩ w Post := by
  refine does_unit (w' := w.setRow g (old.setIfInBounds off v)) ?_ (h _ S.setRow)
  have := run_storeAt_cell (P := P) w g off t t' old v (S.holds (blk g (.cells old t' (0, 0))) (by simp)) hoff hs hv h1
  simp only [execOp, hx, hy, Sem.run_bind, this, Result.andThen_ok, Sem.run_pure]
end

set_option maxRecDepth 100000 in
theorem does_build81 {a : Act} {w0 w : World} {l : List Res} {dst : Option Tmp} {ty : TypeId} {pos : String} {after : Array Edge} {gd : Option (Nat × Bool)} {Post : Value → World → Prop} (S : Has w0 w l) (x : Operand) (y : UInt8) (hx : a.eval x = by8 y)
    (h : ∀ v w', Has w0 w' (row8 v [y] :: l) → Post v w') : does Tryd.prog a.eval ⟨dst, .buildSlice 25 1 #[(0, x)], ty, pos, after, gd⟩ w Post :=
  does_build8 S 1 _ [y] (by simp [hx]) rfl (by decide) h
/-- A writer in a block of its own, with its bytes. -/
abbrev wrt (g : Nat) (v : Value) : Res := blk g (.cells #[v] 104 (0, 0))
/-- What a method of the writer leaves. -/
def Wrote (w0 : World) (g : Nat) (xs : List UInt8) (F : List Res) (e : Ending) (w' : World) : Prop := e = .returned (.tuple #[]) ∧ ∃ v, Has w0 w' (wrt g v :: row8 v xs :: F)
theorem pow8 (k : Nat) (h : k ≤ 7) : (2 : Int) ^ (8 * k) = ((256 ^ k : Nat) : Int) := by
  have : ∀ j : Fin 8, (2 : Int) ^ (8 * j.val) = ((256 ^ j.val : Nat) : Int) := by decide
  exact this ⟨k, by omega⟩
theorem numB_drop (n s k : Nat) (h : k + 1 ≤ s) : (numB n s).take (s - k) = (numB n s).take (s - (k + 1)) ++ [UInt8.ofNat (n / 256 ^ k)] := by
  induction s with
  | zero => omega
  | succ s ih =>
    by_cases hk : k = s
    · subst hk
      rw [show k + 1 - k = 0 + 1 by omega, show k + 1 - (k + 1) = 0 by omega]
      show (UInt8.ofNat (n / 256 ^ k) :: numB n k).take (0 + 1) = _
      simp
    · rw [show s + 1 - k = (s - k) + 1 by omega, show s + 1 - (k + 1) = (s - (k + 1)) + 1 by omega]
      show (UInt8.ofNat (n / 256 ^ s) :: numB n s).take ((s - k) + 1) = (UInt8.ofNat (n / 256 ^ s) :: numB n s).take ((s - (k + 1)) + 1) ++ _
      rw [List.take_succ_cons, List.take_succ_cons, ih (by omega)]
      rfl
set_option maxRecDepth 100000 in
set_option maxHeartbeats 2000000 in
theorem wuint_s (g : Nat) (v : Value) (xs : List UInt8) (n s : Nat) (w0 w1 : World) (F : List Res) (S : Has w0 w1 (wrt g v :: row8 v xs :: F)) (hn : n < 18446744073709551616) (hs : s ≤ 8) (hl : xs.length + s ≤ 140737488355328) :
    Calls Tryd.prog 48 #[.pointer (some ⟨g, 0, none⟩), .int .u64 (n : Int), .int .i64 (s : Int)] w1 (Wrote w0 g (xs ++ numB n s) F) := by
  have HN := Lib.hid hn; have HL := Lib.hid hl; clear hn hl
  go_enter Tryd.func48, Tryd.ntmps48
  go_wp2
  go_loopw [6] (fun t wr => ∃ (k : Nat) (vv : Value), k ≤ s ∧ t = .int .i64 ((k : Int) - 1) ∧ Has w0 wr (wrt g vv :: row8 vv (xs ++ (numB n s).take (s - k)) :: F)) (fun t _ => (intOf t + 1).toNat)
  case atStart => exact ⟨s, v, Nat.le_refl _, rfl, by rw [Nat.sub_self, List.take_zero, List.append_nil]; exact S⟩
  case round =>
    clear S
    obtain ⟨k, vv, hk, rfl, S⟩ := hrel
    cases k with
    | zero =>
      rw [Nat.sub_zero, List.take_of_length_le (by rw [numB_length]; exact Nat.le_refl _)] at S
      have i1 : ¬ (0 : Int) ≤ ((0 : Nat) : Int) - 1 := by omega
      go_wp2_with (first | ((with_reducible refine iO _ (.load 25 _) ?_); refine step_load1 25 _ _ _ rfl (cL) _ Tryd.underlying25 rfl rfl ?_) | ((with_reducible refine iD 23 (.buildSlice 25 _ _) ?_); refine step_build81 S (.tmp 22) _ rfl rfl ?_; clear S; intro v23 w S) | (at_builtin; refine step_append8 S (.tmp 17) (.tmp 23) _ _ rfl pk _ _ rfl bS lE rfl ?_; clear S; intro v24 w S; (try simp only [z4] at S)) | ((with_reducible refine iO none (.store 25 (.tmp 26) (.tmp 24)) ?_); first | (refine step_store1 S 25 (.tmp 26) (.tmp 24) _ _ (.slice _ _ _) rfl rfl _ _ pk kR rfl rfl lN rfl ?_; clear S; intro w S; try simp only [List.setIfInBounds_toArray, List.set_cons_zero, List.set_cons_succ] at S) | (refine step_storeR S 25 (.tmp 26) (.tmp 24) _ _ (.slice _ _ _) rfl rfl _ _ _ _ pk lE kR rfl rfl rfl ?_; clear S; intro w S) | (refine step_storeS S 25 (.tmp 26) (.tmp 24) _ _ (.slice _ _ _) rfl rfl _ _ _ _ _ pk lE kR rfl rfl rfl ?_; clear S; intro w S)) | fail)
      go_end0
      exact ⟨rfl, vv, S⟩
    | succ k =>
      rw [show (((k + 1 : Nat) : Int) - 1) = (k : Int) by omega]
      have hd := numB_drop n s k hk
      have h1 : (xs ++ (numB n s).take (s - (k + 1))).length + ([UInt8.ofNat (n / 256 ^ k)] : List UInt8).length ≤ 140737488355328 := by
        have := HL.out
        simp [numB_length]
        omega
      have hq : IntKind.u8.wrap ((n : Int) / 2 ^ (8 * k)) = ((UInt8.ofNat (n / 256 ^ k)).toNat : Int) := by
        rw [IntKind.wrap_u8, UInt8.toNat_ofNat', pow8 k (by omega)]
        omega
      obtain ⟨X, hX⟩ : ∃ X, X = xs ++ (numB n s).take (s - (k + 1)) := ⟨_, rfl⟩
      obtain ⟨c, hc⟩ : ∃ c, c = UInt8.ofNat (n / 256 ^ k) := ⟨_, rfl⟩
      rw [← hX] at S h1
      rw [← hc] at hd h1 hq
      have i1 : (0 : Int) ≤ (k : Int) := by omega
      have i2 : (k : Int) ≤ 7 := by omega
      replace S := S.join
      have HD := Lib.hid hd; have H1 := Lib.hid h1; have HQ := Lib.hid hq; have HX := Lib.hid hX; clear hd h1 hq hX
      clear hc
      go_wp2_with (first | ((with_reducible refine iO _ (.load 25 _) ?_); refine step_load1 25 _ _ _ rfl (cL) _ Tryd.underlying25 rfl rfl ?_) | ((with_reducible refine iD 23 (.buildSlice 25 _ _) ?_); refine step_build81 S (.tmp 22) _ rfl rfl ?_; clear S; intro v23 w S) | (at_builtin; refine step_append8 S (.tmp 17) (.tmp 23) _ _ rfl pk _ _ rfl bS lE rfl ?_; clear S; intro v24 w S; (try simp only [z4] at S)) | ((with_reducible refine iO none (.store 25 (.tmp 26) (.tmp 24)) ?_); first | (refine step_store1 S 25 (.tmp 26) (.tmp 24) _ _ (.slice _ _ _) rfl rfl _ _ pk kR rfl rfl lN rfl ?_; clear S; intro w S; try simp only [List.setIfInBounds_toArray, List.set_cons_zero, List.set_cons_succ] at S) | (refine step_storeR S 25 (.tmp 26) (.tmp 24) _ _ (.slice _ _ _) rfl rfl _ _ _ _ pk lE kR rfl rfl rfl ?_; clear S; intro w S) | (refine step_storeS S 25 (.tmp 26) (.tmp 24) _ _ (.slice _ _ _) rfl rfl _ _ _ _ _ pk lE kR rfl rfl rfl ?_; clear S; intro w S)) | fail)
      refine wp_relyW (e1 := noRes) 4 (S.pick (r := both (wrt g vv) (row8 vv X)) pk) [sv [] ((.pointer (some ⟨g, 0, none⟩))), sv [] ((.pointer (some ⟨g, 0, none⟩))), sv [1] (.pointer (some ⟨g, 0, none⟩)), sv [1, 2] (.pointer (some ⟨g, 0, none⟩)), ⟨[1, 2, 3], [], [], fun _ v => v = vv, fun _ v => [wrt g vv, row8 vv X]⟩, sv [] ((.int .u64 (n : Int))), sv [] ((.int .i64 (k : Int))), sv [6] (.int .i64 (8 * (k : Int))), sv [5, 6, 7] (.int .u64 ((n : Int) / 2 ^ (8 * k))), sv [5, 6, 7, 8] (by8 c), ⟨[5, 6, 7, 8, 9], [], [], fun _ v => True, fun _ v => [row8 v [c]]⟩, ⟨[1, 2, 3, 4, 5, 6, 7, 8, 9, 10], [4, 10], [], fun _ v => True, fun _ v => [wrt g vv, row8 v (X ++ [c])]⟩, sv [0, 1, 2, 3, 4, 5, 6, 7, 8, 9, 10, 11] (.pointer (some ⟨g, 0, none⟩)), sv [0, 1, 2, 3, 4, 5, 6, 7, 8, 9, 10, 11, 12] (.pointer (some ⟨g, 0, none⟩)), ⟨[0, 1, 2, 3, 4, 5, 6, 7, 8, 9, 10, 11, 12, 13], [11], [], fun _ v => True, fun d v => [wrt g (d 11), row8 (d 11) (X ++ [c])]⟩] ?A1 ?hA1 kR kR kR [0, 1, 2, 3, 5, 6, 7, 8, 9, 12, 13, 14] kR (of_decide_eq_true rfl) ?hok1 ?fin1
      case hA1 => intro u; simp only [putAll, List.length_cons, List.length_nil, Nat.zero_add, Nat.reduceAdd, dstAt, List.getElem?_toArray, List.getElem?_cons_zero, List.getElem?_cons_succ, Option.bind_some, Act.put, List.setIfInBounds_toArray, List.set_cons_zero, List.set_cons_succ]; rfl
      case hok1 =>
        intro i hi
        obtain rfl | rfl | rfl | rfl | rfl | rfl | rfl | rfl | rfl | rfl | rfl | rfl | rfl | rfl | rfl : i = 0 ∨ i = 1 ∨ i = 2 ∨ i = 3 ∨ i = 4 ∨ i = 5 ∨ i = 6 ∨ i = 7 ∨ i = 8 ∨ i = 9 ∨ i = 10 ∨ i = 11 ∨ i = 12 ∨ i = 13 ∨ i = 14 := by simp only [List.length_cons, List.length_nil, Nat.zero_add, Nat.reduceAdd] at hi; omega
        · rw [if_neg (by decide)]; intro r0; exact oP []
        · rw [if_neg (by decide)]; intro r0; exact oP []
        · rw [if_neg (by decide)]; intro r0; exact oP [1]
        · rw [if_neg (by decide)]; intro r0; exact oP [2]
        · clear hi
          rw [if_pos rfl]
          refine step_ofW rfl rfl rfl ?_
          intro u G w hf S
          have f3 : u 3 = .pointer (some ⟨g, 0, none⟩) := hf 3 (by simp)
          simp only [fl, z4, z5, z6, z7, ptrBlk] at S ⊢
          simp only [f3]
          refine does_load1 25 (.tmp 16) _ _ rfl (S.taken.cell (g := g) (Pick.head _ _) rfl) _ Tryd.underlying25 rfl ?_; exact ⟨rfl, S.taken⟩
        · rw [if_neg (by decide)]; intro r0; exact oP []
        · rw [if_neg (by decide)]; intro r0; exact oP []
        · clear hi
          rw [if_neg (by decide)]; intro r0
          refine step_of rfl rfl rfl ?_
          intro u G w hf S
          have f6 : u 6 = (.int .i64 (k : Int)) := hf 6 (by simp)
          simp only [fl, z4, z5, z6, z7, ptrBlk] at S ⊢
          simp only [f6]
          simp only [does]; go_simp; first | (refine ⟨?_, S⟩; rw [IntWalk.i64_in _ (by omega)]) | (rw [IntWalk.i64_in _ (by omega)]) | exact S
        · clear hi
          rw [if_neg (by decide)]; intro r0
          refine step_of rfl rfl rfl ?_
          intro u G w hf S
          have f5 : u 5 = (.int .u64 (n : Int)) := hf 5 (by simp)
          have f7 : u 7 = .int .i64 (8 * (k : Int)) := hf 7 (by simp)
          simp only [fl, z4, z5, z6, z7, ptrBlk] at S ⊢
          simp only [f5, f7]
          simp only [does]; go_simp; first | (refine ⟨?_, S⟩; rw [show (8 * (k : Int)).toNat = 8 * k by omega]) | (rw [show (8 * (k : Int)).toNat = 8 * k by omega])
        · clear hi
          rw [if_neg (by decide)]; intro r0
          refine step_of rfl rfl rfl ?_
          intro u G w hf S
          have f8 : u 8 = .int .u64 ((n : Int) / 2 ^ (8 * k)) := hf 8 (by simp)
          simp only [fl, z4, z5, z6, z7, ptrBlk] at S ⊢
          simp only [f8]
          simp only [does]; go_simp; first | (refine ⟨?_, S⟩; rw [HQ.out]) | (rw [HQ.out])
        · clear hi
          rw [if_neg (by decide)]; intro r0
          refine step_of rfl rfl rfl ?_
          intro u G w hf S
          have f9 : u 9 = by8 c := hf 9 (by simp)
          simp only [fl, z4, z5, z6, z7, ptrBlk] at S ⊢
          simp only [f9]
          refine does_build81 S (.tmp 22) c rfl ?_; intro v w1 S; exact ⟨trivial, S⟩
        · clear hi
          rw [if_neg (by decide)]; intro r0
          refine step_of rfl rfl rfl ?_
          intro u G w hf S
          have f4 : u 4 = vv := hf 4 (by simp)
          simp only [fl, z4, z5, z6, z7, ptrBlk] at S ⊢
          simp only [f4] at S ⊢
          try simp only [ptrBlk] at S
          refine does_append8 (.tmp 17) (.tmp 23) vv X rfl (S.pick (r := row8 vv X) pk) _ [c] rfl (S.bs (xs := [c]) pk) H1.out ?_; intro v' w' S; exact ⟨trivial, (S.drop (Pick.tail (Pick.tail (Pick.head _ _)))).perm (List.Perm.swap _ _ _)⟩
        · rw [if_neg (by decide)]; intro r0; exact oP [0]
        · rw [if_neg (by decide)]; intro r0; exact oP [12]
        · clear hi
          rw [if_neg (by decide)]; intro r0
          refine step_of rfl rfl rfl ?_
          intro u G w hf S
          have f13 : u 13 = .pointer (some ⟨g, 0, none⟩) := hf 13 (by simp)
          have m11 : mask [0, 1, 2, 3, 4, 5, 6, 7, 8, 9, 10, 11, 12, 13] u 11 = u 11 := rfl
          simp only [fl, z4, z5, z6, z7, m11, ptrBlk] at S ⊢
          simp only [m11, f13] at S ⊢
          try simp only [ptrBlk] at S
          refine does_store1 S 25 (.tmp 26) (.tmp 24) 0 (u 11) rfl rfl kR (one_sl (S.bs (xs := X ++ [c]) pk)).2 (one_sl (S.bs (xs := X ++ [c]) pk)).1 Nat.one_pos ?_; intro w1 S; exact ⟨trivial, S⟩
      case fin1 =>
        intro u w hf S
        have m14_11 : mask [0, 1, 2, 3, 4, 5, 6, 7, 8, 9, 10, 11, 12, 13] u 11 = u 11 := rfl
        have hvA := allV hf
        simp only [AllV, RSpec.valAt, sv, Nat.zero_add, Nat.reduceAdd, m14_11] at hvA
        simp only [fl, z4, z5, z6, z7, m14_11, ptrBlk] at S
        clear hf
        simp only [List.length_cons, List.length_nil, Nat.zero_add, Nat.reduceAdd, List.drop_succ_cons, List.drop_zero, hvA]
        try simp only [hvA, ptrBlk] at S
        clear hvA m14_11
        generalize u 10 = v23 at S ⊢
        generalize u 11 = v24 at S ⊢
        go_wp2_with (first | ((with_reducible refine iO _ (.load 25 _) ?_); refine step_load1 25 _ _ _ rfl (cL) _ Tryd.underlying25 rfl rfl ?_) | ((with_reducible refine iD 23 (.buildSlice 25 _ _) ?_); refine step_build81 S (.tmp 22) _ rfl rfl ?_; clear S; intro v23 w S) | (at_builtin; refine step_append8 S (.tmp 17) (.tmp 23) _ _ rfl pk _ _ rfl bS lE rfl ?_; clear S; intro v24 w S; (try simp only [z4] at S)) | ((with_reducible refine iO none (.store 25 (.tmp 26) (.tmp 24)) ?_); first | (refine step_store1 S 25 (.tmp 26) (.tmp 24) _ _ (.slice _ _ _) rfl rfl _ _ pk kR rfl rfl lN rfl ?_; clear S; intro w S; try simp only [List.setIfInBounds_toArray, List.set_cons_zero, List.set_cons_succ] at S) | (refine step_storeR S 25 (.tmp 26) (.tmp 24) _ _ (.slice _ _ _) rfl rfl _ _ _ _ pk lE kR rfl rfl rfl ?_; clear S; intro w S) | (refine step_storeS S 25 (.tmp 26) (.tmp 24) _ _ (.slice _ _ _) rfl rfl _ _ _ _ _ pk lE kR rfl rfl rfl ?_; clear S; intro w S)) | fail)
        go_roundw
        case rel => exact ⟨k, _, by omega, by go_num, by rw [HD.out, ← List.append_assoc, ← HX.out]; exact S.drop (Pick.tail (Pick.tail (Pick.head _ _)))⟩
        case measure => simp [intOf]
theorem numB_2 (n : Nat) : numB n 2 = [UInt8.ofNat (n / 256), UInt8.ofNat n] := by simp [numB]
set_option maxRecDepth 100000 in
set_option maxHeartbeats 2000000 in
theorem framed_s (g : Nat) (v : Value) (xs : List UInt8) (w0 : World) (hc : w0.cell? ⟨g, 0, none⟩ = some v) (hv : Bs w0 v xs) (hl : xs.length ≤ 140737488351232) :
    Calls Tryd.prog 58 #[.pointer (some ⟨g, 0, none⟩)] w0 (MadeB w0 (frm xs)) := by
  have S := Has.start w0
  obtain ⟨a0, c0, rfl, k1, k2⟩ := Sl.shape hv
  unfold maxLen at k2
  obtain ⟨n, hn⟩ : ∃ n, n = xs.length := ⟨_, rfl⟩
  have e1 : IntKind.u8.wrap (((n : Int) + 2) / 256) = ((UInt8.ofNat ((n + 2) / 256)).toNat : Int) := by rw [IntKind.wrap_u8, UInt8.toNat_ofNat']; omega
  have e2 : IntKind.u8.wrap ((n : Int) + 2) = ((UInt8.ofNat (n + 2)).toNat : Int) := by rw [IntKind.wrap_u8, UInt8.toNat_ofNat']; omega
  have hf : frm xs = [UInt8.ofNat ((n + 2) / 256), UInt8.ofNat (n + 2)] ++ xs := by unfold frm; rw [← hn, numB_2]
  obtain ⟨b1, hb1⟩ : ∃ b, b = UInt8.ofNat ((n + 2) / 256) := ⟨_, rfl⟩
  obtain ⟨b2, hb2⟩ : ∃ b, b = UInt8.ofNat (n + 2) := ⟨_, rfl⟩
  have h1 : [b1, b2].length + xs.length ≤ 140737488355328 := by simp; omega
  have hn64 : (n : Int) + 2 ≤ 9223372036854775807 := by omega
  rw [← hb1] at e1 hf
  rw [← hb2] at e2 hf
  rw [hf]
  rw [← hn] at k1 hl hc hv
  have HC := Lib.hid hc; have HV := Lib.hid hv; have H1 := Lib.hid h1; have E1 := Lib.hid e1; have E2 := Lib.hid e2; clear hc hv h1 e1 e2
  clear hf hb1 hb2 hn
  go_enter Tryd.func58, Tryd.ntmps58
  go_wp2_with (first | ((with_reducible refine iD 15 (.buildSlice 25 _ _) ?_); refine step_build82 S (.tmp 12) (.tmp 14) b1 b2 (show Value.int IntKind.u8 _ = Value.int IntKind.u8 _ by rw [← E1.out]; rfl) (show Value.int IntKind.u8 _ = Value.int IntKind.u8 _ by rw [← E2.out]; rfl) gw ?_; clear S; intro v15 w S) | (at_builtin; refine step_append8 S (.tmp 15) (.tmp 19) v15 [b1, b2] rfl pk _ xs rfl (S.oldB HV.out) H1.out gw ?_; clear S; intro v20 w S) | ((with_reducible refine iO _ (.load 25 _) ?_); refine step_load1 25 _ _ _ rfl (cL) _ Tryd.underlying25 rfl rfl ?_) | fail)
  go_ret
  exact ⟨_, rfl, S⟩
end Go.Proofs.YtfhkmmagpnojmaaDoor

/- The reader of wire: a number, some bytes, or the panic of one that lacks them. No condition but the reach. -/
namespace Go.Proofs.YtfhkmmagpnojmaaDoor
open Go.RowKit

/-- A reader in a block of its own: its bytes, and where it stands. -/
abbrev rdr (g : Nat) (v : Value) (p : Nat) : Res := blk g (.cells #[v, .int .i64 (p : Int)] 154 (0, 0))
/-- The panic of a reader that lacks bytes. -/
def erl : PanicEntry := { v := .iface 157 (.agg #[]), recovered := false }
theorem takeU_fit (v : Value) (b : List UInt8) (p s : Nat) (w : World) (hv : Bs w v b) (h1 : 1 ≤ s) (h8 : s ≤ 8) (hp : p + s ≤ b.length) (hl : b.length ≤ 140737488355328) :
    Calls Tryd.prog 84 #[v, .int .i64 (p : Int), .int .i64 (s : Int)] w fun e w' => e = .returned (.tuple #[.int .u64 ((val ((b.drop p).take s) : Nat) : Int), .int .i64 ((p : Int) + (s : Int)), .int .i64 0]) ∧ Has w w' [] := by
  have := takeUint_s v b p s w hv hl (by omega) (by omega)
  have e1 : takeE b.length p s = 0 := by
    unfold takeE
    rw [if_neg (by omega), if_neg (by omega)]
  have e2 : tuE b.length p s = 0 := by unfold tuE; rw [if_neg (by omega), e1]
  have e3 : tuN b.length p s = (p : Int) + (s : Int) := by unfold tuN takeN; rw [if_neg (by omega), if_pos e1]
  have e4 : tuV b p s = val ((b.drop p).take s) := by
    unfold tuV takeR
    rw [if_neg (by omega), if_pos e1, Int.toNat_natCast, Int.toNat_natCast]
  rwa [e2, e3, e4] at this
theorem takeU_lack (v : Value) (b : List UInt8) (p s : Nat) (w : World) (hv : Bs w v b) (h1 : 1 ≤ s) (h8 : s ≤ 8) (hp : p ≤ b.length) (hp2 : b.length < p + s) (hl : b.length ≤ 140737488355328) :
    Calls Tryd.prog 84 #[v, .int .i64 (p : Int), .int .i64 (s : Int)] w fun e w' => e = .returned (.tuple #[.int .u64 ((tuV b p s : Nat) : Int), .int .i64 (tuN b.length p s), .int .i64 10]) ∧ Has w w' [] := by
  have := takeUint_s v b p s w hv hl (by omega) (by omega)
  have e2 : tuE b.length p s = 10 := by unfold tuE takeE; rw [if_neg (by omega), if_neg (by omega), if_pos (by omega)]
  rwa [e2] at this
/-- What reading a number leaves. -/
def ReadU (w0 : World) (g : Nat) (bv : Value) (b : List UInt8) (p s : Nat) (F : List Res) (e : Ending) (w' : World) : Prop :=
  (p + s ≤ b.length ∧ e = .returned (.int .u64 ((val ((b.drop p).take s) : Nat) : Int)) ∧ Has w0 w' (rdr g bv (p + s) :: F)) ∨ (b.length < p + s ∧ e = .panicked [erl] ∧ Has w0 w' (rdr g bv p :: F))
set_option maxRecDepth 100000 in
set_option maxHeartbeats 2000000 in
theorem ruint_s (g : Nat) (bv : Value) (b : List UInt8) (p s : Nat) (w0 w1 : World) (F : List Res) (S : Has w0 w1 (rdr g bv p :: F)) (hb : Bs w0 bv b) (h1 : 1 ≤ s) (h8 : s ≤ 8) (hp : p ≤ b.length) (hl : b.length ≤ 140737488355328) :
    Calls Tryd.prog 61 #[.pointer (some ⟨g, 0, none⟩), .int .i64 (s : Int)] w1 (ReadU w0 g bv b p s F) := by
  by_cases hfit : p + s ≤ b.length
  · have p1 := fun v w h => takeU_fit v b p s w h h1 h8 hfit hl
    obtain ⟨n, hn⟩ : ∃ n, n = val ((b.drop p).take s) := ⟨_, rfl⟩
    rw [← hn] at p1
    have HB := Lib.hid hb; have P1 := Lib.hid p1; have H1 := Lib.hid h1; have H8 := Lib.hid h8; have HN := Lib.hid hn; clear hb p1 h1 h8 hn
    go_enter Tryd.func61, Tryd.ntmps61
    go_wp2_with (first | ((with_reducible refine iO _ (.load 25 _) ?_); refine step_load1 25 _ _ _ rfl (cL) _ Tryd.underlying25 rfl rfl ?_) | ((with_reducible refine iO _ (.load 3 _) ?_); refine step_load1 3 _ _ _ rfl (cL) _ Tryd.underlying3 rfl rfl ?_) | (go_at_call 84; (with_reducible refine (takeUint_s _ _ _ _ _ bS lE lE lE).mono ?_); rintro e w1 ⟨rfl, T⟩; replace S := S.call T; clear T; (try simp only [z4, z5] at S)) | ((with_reducible refine iO none (.store 3 (.tmp 29) (.tmp 27)) ?_); refine step_store1 S 3 (.tmp 29) (.tmp 27) _ _ (.int _ _) rfl rfl _ _ pk kR kR rfl lN rfl ?_; clear S; intro w S; try simp only [List.setIfInBounds_toArray, List.set_cons_zero, List.set_cons_succ] at S) | fail)
    refine wp_rely S [sv [] ((.pointer (some ⟨g, 0, none⟩))), sv [0] (.pointer (some ⟨g, 0, none⟩)), sv [0, 1] (.pointer (some ⟨g, 0, none⟩)), sv [0, 1, 2] bv, sv [] ((.pointer (some ⟨g, 0, none⟩))), sv [4] (.pointer (some ⟨g, 0, none⟩)), sv [4, 5] (.pointer (some ⟨g, 1, none⟩)), sv [4, 5, 6] (.int .i64 (p : Int)), sv [] ((.int .i64 (s : Int))), sv [0, 1, 2, 3, 4, 5, 6, 7, 8] (.tuple #[.int .u64 (n : Int), .int .i64 ((p : Int) + (s : Int)), .int .i64 0]), sv [0, 1, 2, 3, 4, 5, 6, 7, 8, 9] ((.tuple #[.int .u64 (n : Int), .int .i64 ((p : Int) + (s : Int)), .int .i64 0])), sv [0, 1, 2, 3, 4, 5, 6, 7, 8, 9, 10] (.int .u64 (n : Int)), sv [0, 1, 2, 3, 4, 5, 6, 7, 8, 9, 10] (.int .i64 ((p : Int) + (s : Int))), sv [0, 1, 2, 3, 4, 5, 6, 7, 8, 9, 10] (.int .i64 0), sv [0, 1, 2, 3, 4, 5, 6, 7, 8, 9, 10, 11] ((.int .u64 (n : Int))), sv [0, 1, 2, 3, 4, 5, 6, 7, 8, 9, 10, 11, 12, 14] ((.int .i64 ((p : Int) + (s : Int)))), sv [0, 1, 2, 3, 4, 5, 6, 7, 8, 9, 10, 11, 12, 13, 14, 15] (.int .i64 0)] ?A1 ?hA1 kR kR kR [0, 1, 2, 3, 4, 5, 6, 7, 8, 9, 10, 11, 12, 13, 14, 15, 16] kR ?hok1 ?fin1
    case hA1 => intro u; simp only [putAll, List.length_cons, List.length_nil, Nat.zero_add, Nat.reduceAdd, dstAt, List.getElem?_toArray, List.getElem?_cons_zero, List.getElem?_cons_succ, Option.bind_some, Act.put, List.setIfInBounds_toArray, List.set_cons_zero, List.set_cons_succ]; rfl
    case hok1 =>
      intro i hi
      obtain rfl | rfl | rfl | rfl | rfl | rfl | rfl | rfl | rfl | rfl | rfl | rfl | rfl | rfl | rfl | rfl | rfl : i = 0 ∨ i = 1 ∨ i = 2 ∨ i = 3 ∨ i = 4 ∨ i = 5 ∨ i = 6 ∨ i = 7 ∨ i = 8 ∨ i = 9 ∨ i = 10 ∨ i = 11 ∨ i = 12 ∨ i = 13 ∨ i = 14 ∨ i = 15 ∨ i = 16 := by simp only [List.length_cons, List.length_nil, Nat.zero_add, Nat.reduceAdd] at hi; omega
      · exact oP []
      · exact oP [0]
      · exact oP [1]
      · clear hi
        refine step_of rfl rfl rfl ?_
        intro u G w hf S
        have f2 : u 2 = .pointer (some ⟨g, 0, none⟩) := hf 2 (by simp)
        simp only [fl, z4, z5, z6, z7, ptrBlk] at S ⊢
        simp only [f2]
        refine does_load1 25 (.tmp 11) _ _ rfl (S.cell (g := g) pk co) _ Tryd.underlying25 rfl ?_; exact ⟨rfl, S⟩
      · exact oP []
      · exact oP [4]
      · exact oP [5]
      · clear hi
        refine step_of rfl rfl rfl ?_
        intro u G w hf S
        have f6 : u 6 = .pointer (some ⟨g, 1, none⟩) := hf 6 (by simp)
        simp only [fl, z4, z5, z6, z7, ptrBlk] at S ⊢
        simp only [f6]
        refine does_load1 3 (.tmp 15) _ _ rfl (S.cell (g := g) pk co) _ Tryd.underlying3 rfl ?_; exact ⟨rfl, S⟩
      · exact oP []
      · clear hi
        refine step_of rfl rfl rfl ?_
        intro u G w hf S
        have f3 : u 3 = bv := hf 3 (by simp)
        have f7 : u 7 = .int .i64 (p : Int) := hf 7 (by simp)
        have f8 : u 8 = (.int .i64 (s : Int)) := hf 8 (by simp)
        simp only [fl, z4, z5, z6, z7, ptrBlk] at S ⊢
        simp only [f3, f7, f8]
        refine does_fn (args := [(bv), (.int .i64 (p : Int)), ((.int .i64 (s : Int)))]) Tryd.func84 kR kR (P1.out _ _ (S.oldB HB.out)) rfl ?_
        rintro e w1 ⟨rfl, T⟩
        exact ⟨_, rfl, rfl, S.call T⟩
      · exact oP [9]
      · exact oP [10]
      · exact oP [10]
      · exact oP [10]
      · exact oP [11]
      · exact oP [12]
      · exact oP [13]
    case fin1 =>
      intro u w hf S
      have hvA := allV hf
      simp only [AllV, RSpec.valAt, sv, Nat.zero_add, Nat.reduceAdd] at hvA
      simp only [fl, z4, z5, z6, z7, ptrBlk] at S
      clear hf
      simp only [List.length_cons, List.length_nil, Nat.zero_add, Nat.reduceAdd, List.drop_succ_cons, List.drop_zero, hvA]
      clear hvA
      go_wp2_with (first | ((with_reducible refine iO _ (.load 25 _) ?_); refine step_load1 25 _ _ _ rfl (cL) _ Tryd.underlying25 rfl rfl ?_) | ((with_reducible refine iO _ (.load 3 _) ?_); refine step_load1 3 _ _ _ rfl (cL) _ Tryd.underlying3 rfl rfl ?_) | (go_at_call 84; (with_reducible refine (takeUint_s _ _ _ _ _ bS lE lE lE).mono ?_); rintro e w1 ⟨rfl, T⟩; replace S := S.call T; clear T; (try simp only [z4, z5] at S)) | ((with_reducible refine iO none (.store 3 (.tmp 29) (.tmp 27)) ?_); refine step_store1 S 3 (.tmp 29) (.tmp 27) _ _ (.int _ _) rfl rfl _ _ pk kR kR rfl lN rfl ?_; clear S; intro w S; try simp only [List.setIfInBounds_toArray, List.set_cons_zero, List.set_cons_succ] at S) | fail)
      go_ret
      refine .inl ⟨hfit, by rw [← HN.out]; rfl, ?_⟩
      rw [rdr, Int.natCast_add]
      exact S
  · have hlt : b.length < p + s := by omega
    have p1 := fun v w h => takeU_lack v b p s w h h1 h8 hp hlt hl
    obtain ⟨n, hn⟩ : ∃ n, n = tuV b p s := ⟨_, rfl⟩
    obtain ⟨m, hm⟩ : ∃ m, m = tuN b.length p s := ⟨_, rfl⟩
    rw [← hn, ← hm] at p1
    have HB := Lib.hid hb; have P1 := Lib.hid p1; have H1 := Lib.hid h1; have H8 := Lib.hid h8; clear hb p1 h1 h8
    clear hn hm
    go_enter Tryd.func61, Tryd.ntmps61
    go_wp2_with (first | ((with_reducible refine iO _ (.load 25 _) ?_); refine step_load1 25 _ _ _ rfl (cL) _ Tryd.underlying25 rfl rfl ?_) | ((with_reducible refine iO _ (.load 3 _) ?_); refine step_load1 3 _ _ _ rfl (cL) _ Tryd.underlying3 rfl rfl ?_) | (go_at_call 84; (with_reducible refine (takeUint_s _ _ _ _ _ bS lE lE lE).mono ?_); rintro e w1 ⟨rfl, T⟩; replace S := S.call T; clear T; (try simp only [z4, z5] at S)) | ((with_reducible refine iO none (.store 3 (.tmp 29) (.tmp 27)) ?_); refine step_store1 S 3 (.tmp 29) (.tmp 27) _ _ (.int _ _) rfl rfl _ _ pk kR kR rfl lN rfl ?_; clear S; intro w S; try simp only [List.setIfInBounds_toArray, List.set_cons_zero, List.set_cons_succ] at S) | fail)
    refine wp_rely S [sv [] ((.pointer (some ⟨g, 0, none⟩))), sv [0] (.pointer (some ⟨g, 0, none⟩)), sv [0, 1] (.pointer (some ⟨g, 0, none⟩)), sv [0, 1, 2] bv, sv [] ((.pointer (some ⟨g, 0, none⟩))), sv [4] (.pointer (some ⟨g, 0, none⟩)), sv [4, 5] (.pointer (some ⟨g, 1, none⟩)), sv [4, 5, 6] (.int .i64 (p : Int)), sv [] ((.int .i64 (s : Int))), sv [0, 1, 2, 3, 4, 5, 6, 7, 8] (.tuple #[.int .u64 (n : Int), .int .i64 m, .int .i64 10]), sv [0, 1, 2, 3, 4, 5, 6, 7, 8, 9] ((.tuple #[.int .u64 (n : Int), .int .i64 m, .int .i64 10])), sv [0, 1, 2, 3, 4, 5, 6, 7, 8, 9, 10] (.int .u64 (n : Int)), sv [0, 1, 2, 3, 4, 5, 6, 7, 8, 9, 10] (.int .i64 m), sv [0, 1, 2, 3, 4, 5, 6, 7, 8, 9, 10] (.int .i64 10), sv [0, 1, 2, 3, 4, 5, 6, 7, 8, 9, 10, 11] ((.int .u64 (n : Int))), sv [0, 1, 2, 3, 4, 5, 6, 7, 8, 9, 10, 11, 12, 14] (.int .i64 m), sv [0, 1, 2, 3, 4, 5, 6, 7, 8, 9, 10, 11, 12, 13, 14, 15] (.int .i64 10)] ?A2 ?hA2 kR kR kR [0, 1, 2, 3, 4, 5, 6, 7, 8, 9, 10, 11, 12, 13, 14, 15, 16] kR ?hok2 ?fin2
    case hA2 => intro u; simp only [putAll, List.length_cons, List.length_nil, Nat.zero_add, Nat.reduceAdd, dstAt, List.getElem?_toArray, List.getElem?_cons_zero, List.getElem?_cons_succ, Option.bind_some, Act.put, List.setIfInBounds_toArray, List.set_cons_zero, List.set_cons_succ]; rfl
    case hok2 =>
      intro i hi
      obtain rfl | rfl | rfl | rfl | rfl | rfl | rfl | rfl | rfl | rfl | rfl | rfl | rfl | rfl | rfl | rfl | rfl : i = 0 ∨ i = 1 ∨ i = 2 ∨ i = 3 ∨ i = 4 ∨ i = 5 ∨ i = 6 ∨ i = 7 ∨ i = 8 ∨ i = 9 ∨ i = 10 ∨ i = 11 ∨ i = 12 ∨ i = 13 ∨ i = 14 ∨ i = 15 ∨ i = 16 := by simp only [List.length_cons, List.length_nil, Nat.zero_add, Nat.reduceAdd] at hi; omega
      · exact oP []
      · exact oP [0]
      · exact oP [1]
      · clear hi
        refine step_of rfl rfl rfl ?_
        intro u G w hf S
        have f2 : u 2 = .pointer (some ⟨g, 0, none⟩) := hf 2 (by simp)
        simp only [fl, z4, z5, z6, z7, ptrBlk] at S ⊢
        simp only [f2]
        refine does_load1 25 (.tmp 11) _ _ rfl (S.cell (g := g) pk co) _ Tryd.underlying25 rfl ?_; exact ⟨rfl, S⟩
      · exact oP []
      · exact oP [4]
      · exact oP [5]
      · clear hi
        refine step_of rfl rfl rfl ?_
        intro u G w hf S
        have f6 : u 6 = .pointer (some ⟨g, 1, none⟩) := hf 6 (by simp)
        simp only [fl, z4, z5, z6, z7, ptrBlk] at S ⊢
        simp only [f6]
        refine does_load1 3 (.tmp 15) _ _ rfl (S.cell (g := g) pk co) _ Tryd.underlying3 rfl ?_; exact ⟨rfl, S⟩
      · exact oP []
      · clear hi
        refine step_of rfl rfl rfl ?_
        intro u G w hf S
        have f3 : u 3 = bv := hf 3 (by simp)
        have f7 : u 7 = .int .i64 (p : Int) := hf 7 (by simp)
        have f8 : u 8 = (.int .i64 (s : Int)) := hf 8 (by simp)
        simp only [fl, z4, z5, z6, z7, ptrBlk] at S ⊢
        simp only [f3, f7, f8]
        refine does_fn (args := [(bv), (.int .i64 (p : Int)), ((.int .i64 (s : Int)))]) Tryd.func84 kR kR (P1.out _ _ (S.oldB HB.out)) rfl ?_
        rintro e w1 ⟨rfl, T⟩
        exact ⟨_, rfl, rfl, S.call T⟩
      · exact oP [9]
      · exact oP [10]
      · exact oP [10]
      · exact oP [10]
      · exact oP [11]
      · exact oP [12]
      · exact oP [13]
    case fin2 =>
      intro u w hf S
      have hvA := allV hf
      simp only [AllV, RSpec.valAt, sv, Nat.zero_add, Nat.reduceAdd] at hvA
      simp only [fl, z4, z5, z6, z7, ptrBlk] at S
      clear hf
      simp only [List.length_cons, List.length_nil, Nat.zero_add, Nat.reduceAdd, List.drop_succ_cons, List.drop_zero, hvA]
      clear hvA
      go_wp2_with (first | ((with_reducible refine iO _ (.load 25 _) ?_); refine step_load1 25 _ _ _ rfl (cL) _ Tryd.underlying25 rfl rfl ?_) | ((with_reducible refine iO _ (.load 3 _) ?_); refine step_load1 3 _ _ _ rfl (cL) _ Tryd.underlying3 rfl rfl ?_) | (go_at_call 84; (with_reducible refine (takeUint_s _ _ _ _ _ bS lE lE lE).mono ?_); rintro e w1 ⟨rfl, T⟩; replace S := S.call T; clear T; (try simp only [z4, z5] at S)) | ((with_reducible refine iO none (.store 3 (.tmp 29) (.tmp 27)) ?_); refine step_store1 S 3 (.tmp 29) (.tmp 27) _ _ (.int _ _) rfl rfl _ _ pk kR kR rfl lN rfl ?_; clear S; intro w S; try simp only [List.setIfInBounds_toArray, List.set_cons_zero, List.set_cons_succ] at S) | fail)
      exact ⟨rfl, .inr ⟨hlt, rfl, S⟩⟩
theorem takeB_fit (v : Value) (b : List UInt8) (p s : Nat) (w : World) (hv : Bs w v b) (hp : p + s ≤ b.length) (hl : b.length ≤ 140737488355328) :
    Calls Tryd.prog 85 #[v, .int .i64 (p : Int), .int .i64 (s : Int)] w (MadeNE w ((b.drop p).take s) ((p : Int) + (s : Int)) 0) := by
  have := takeBytes_s v b p s w hv hl (by omega) (by omega)
  have e1 : takeE b.length p s = 0 := by
    unfold takeE
    rw [if_neg (by omega), if_neg (by omega)]
  have e3 : takeN b.length p s = (p : Int) + (s : Int) := by unfold takeN; rw [if_pos e1]
  have e4 : takeR b p s = (b.drop p).take s := by unfold takeR; rw [if_pos e1, Int.toNat_natCast, Int.toNat_natCast]
  rwa [e1, e3, e4] at this
theorem takeB_lack (v : Value) (b : List UInt8) (p s : Nat) (w : World) (hv : Bs w v b) (hp : p ≤ b.length) (hp2 : b.length < p + s) (hl : b.length ≤ 140737488355328) (hs : s ≤ 64) :
    Calls Tryd.prog 85 #[v, .int .i64 (p : Int), .int .i64 (s : Int)] w (MadeNE w [] (takeN b.length p s) 10) := by
  have := takeBytes_s v b p s w hv hl (by omega) (by omega)
  have e2 : takeE b.length p s = 10 := by unfold takeE; rw [if_neg (by omega), if_pos (by omega)]
  have e4 : takeR b p s = [] := by unfold takeR; rw [if_neg (by omega)]
  rwa [e2, e4] at this
/-- What reading bytes leaves. -/
def ReadB (w0 : World) (g : Nat) (bv : Value) (b : List UInt8) (p s : Nat) (F : List Res) (e : Ending) (w' : World) : Prop :=
  (p + s ≤ b.length ∧ ∃ v, e = .returned v ∧ Has w0 w' (rdr g bv (p + s) :: row8 v ((b.drop p).take s) :: F)) ∨ (b.length < p + s ∧ e = .panicked [erl] ∧ Has w0 w' (rdr g bv p :: F))
set_option maxRecDepth 100000 in
set_option maxHeartbeats 2000000 in
theorem rbytes_s (g : Nat) (bv : Value) (b : List UInt8) (p s : Nat) (w0 w1 : World) (F : List Res) (S : Has w0 w1 (rdr g bv p :: F)) (hb : Bs w0 bv b) (h8 : s ≤ 64) (hp : p ≤ b.length) (hl : b.length ≤ 140737488355328) :
    Calls Tryd.prog 63 #[.pointer (some ⟨g, 0, none⟩), .int .i64 (s : Int)] w1 (ReadB w0 g bv b p s F) := by
  by_cases hfit : p + s ≤ b.length
  · have p1 := fun v w h => takeB_fit v b p s w h hfit hl
    obtain ⟨X, hn⟩ : ∃ X, X = (b.drop p).take s := ⟨_, rfl⟩
    rw [← hn] at p1
    have HB := Lib.hid hb; have P1 := Lib.hid p1; have H8 := Lib.hid h8; have HN := Lib.hid hn; clear hb p1 h8 hn
    go_enter Tryd.func63, Tryd.ntmps63
    go_wp2_with (first | ((with_reducible refine iO _ (.load 25 _) ?_); refine step_load1 25 _ _ _ rfl (cL) _ Tryd.underlying25 rfl rfl ?_) | ((with_reducible refine iO _ (.load 3 _) ?_); refine step_load1 3 _ _ _ rfl (cL) _ Tryd.underlying3 rfl rfl ?_) | (go_at_call 85; (with_reducible refine (takeBytes_s _ _ _ _ _ bS lE lE lE).mono ?_); rintro e w1 ⟨v, rfl, T⟩; replace S := S.call T; clear T; (try simp only [z4, z5] at S)) | ((with_reducible refine iO none (.store 3 (.tmp 29) (.tmp 27)) ?_); refine step_store1 S 3 (.tmp 29) (.tmp 27) _ _ (.int _ _) rfl rfl _ _ pk kR kR rfl lN rfl ?_; clear S; intro w S; try simp only [List.setIfInBounds_toArray, List.set_cons_zero, List.set_cons_succ] at S) | fail)
    refine wp_rely S [sv [] ((.pointer (some ⟨g, 0, none⟩))), sv [0] (.pointer (some ⟨g, 0, none⟩)), sv [0, 1] (.pointer (some ⟨g, 0, none⟩)), sv [0, 1, 2] bv, sv [] ((.pointer (some ⟨g, 0, none⟩))), sv [4] (.pointer (some ⟨g, 0, none⟩)), sv [4, 5] (.pointer (some ⟨g, 1, none⟩)), sv [4, 5, 6] (.int .i64 (p : Int)), sv [] ((.int .i64 (s : Int))), ⟨[0, 1, 2, 3, 4, 5, 6, 7, 8], [], [], fun _ v => ∃ x, v = .tuple #[x, .int .i64 ((p : Int) + (s : Int)), .int .i64 0], fun _ v => [row8 (tupAt v 0) X]⟩, ⟨[0, 1, 2, 3, 4, 5, 6, 7, 8, 9], [], [], fun d v => v = d 9, fun _ v => []⟩, ⟨[0, 1, 2, 3, 4, 5, 6, 7, 8, 9, 10], [], [], fun d v => v = tupAt (d 9) 0, fun _ v => []⟩, ⟨[0, 1, 2, 3, 4, 5, 6, 7, 8, 9, 10], [], [], fun d v => v = tupAt (d 9) 1, fun _ v => []⟩, ⟨[0, 1, 2, 3, 4, 5, 6, 7, 8, 9, 10], [], [], fun d v => v = tupAt (d 9) 2, fun _ v => []⟩, ⟨[0, 1, 2, 3, 4, 5, 6, 7, 8, 9, 10, 11], [], [], fun d v => v = (tupAt (d 9) 0), fun _ v => []⟩, ⟨[0, 1, 2, 3, 4, 5, 6, 7, 8, 9, 10, 11, 12, 14], [], [], fun d v => v = (tupAt (d 9) 1), fun _ v => []⟩, ⟨[0, 1, 2, 3, 4, 5, 6, 7, 8, 9, 10, 11, 12, 13, 14, 15], [], [], fun d v => v = (tupAt (d 9) 2), fun _ v => []⟩] ?A3 ?hA3 kR kR kR [0, 1, 2, 3, 4, 5, 6, 7, 8, 9, 10, 11, 12, 13, 14, 15, 16] kR ?hok3 ?fin3
    case hA3 => intro u; simp only [putAll, List.length_cons, List.length_nil, Nat.zero_add, Nat.reduceAdd, dstAt, List.getElem?_toArray, List.getElem?_cons_zero, List.getElem?_cons_succ, Option.bind_some, Act.put, List.setIfInBounds_toArray, List.set_cons_zero, List.set_cons_succ]; rfl
    case hok3 =>
      intro i hi
      obtain rfl | rfl | rfl | rfl | rfl | rfl | rfl | rfl | rfl | rfl | rfl | rfl | rfl | rfl | rfl | rfl | rfl : i = 0 ∨ i = 1 ∨ i = 2 ∨ i = 3 ∨ i = 4 ∨ i = 5 ∨ i = 6 ∨ i = 7 ∨ i = 8 ∨ i = 9 ∨ i = 10 ∨ i = 11 ∨ i = 12 ∨ i = 13 ∨ i = 14 ∨ i = 15 ∨ i = 16 := by simp only [List.length_cons, List.length_nil, Nat.zero_add, Nat.reduceAdd] at hi; omega
      · exact oP []
      · exact oP [0]
      · exact oP [1]
      · clear hi
        refine step_of rfl rfl rfl ?_
        intro u G w hf S
        have f2 : u 2 = .pointer (some ⟨g, 0, none⟩) := hf 2 (by simp)
        simp only [fl, z4, z5, z6, z7, ptrBlk, tupAt20, tupAt21, tupAt30, tupAt31, tupAt32] at S ⊢
        simp only [f2, tupAt20, tupAt21, tupAt30, tupAt31, tupAt32]
        refine does_load1 25 (.tmp 11) _ _ rfl (S.cell (g := g) pk co) _ Tryd.underlying25 rfl ?_; exact ⟨rfl, S⟩
      · exact oP []
      · exact oP [4]
      · exact oP [5]
      · clear hi
        refine step_of rfl rfl rfl ?_
        intro u G w hf S
        have f6 : u 6 = .pointer (some ⟨g, 1, none⟩) := hf 6 (by simp)
        simp only [fl, z4, z5, z6, z7, ptrBlk, tupAt20, tupAt21, tupAt30, tupAt31, tupAt32] at S ⊢
        simp only [f6, tupAt20, tupAt21, tupAt30, tupAt31, tupAt32]
        refine does_load1 3 (.tmp 15) _ _ rfl (S.cell (g := g) pk co) _ Tryd.underlying3 rfl ?_; exact ⟨rfl, S⟩
      · exact oP []
      · clear hi
        refine step_of rfl rfl rfl ?_
        intro u G w hf S
        have f3 : u 3 = bv := hf 3 (by simp)
        have f7 : u 7 = .int .i64 (p : Int) := hf 7 (by simp)
        have f8 : u 8 = (.int .i64 (s : Int)) := hf 8 (by simp)
        simp only [fl, z4, z5, z6, z7, ptrBlk, tupAt20, tupAt21, tupAt30, tupAt31, tupAt32] at S ⊢
        simp only [f3, f7, f8, tupAt20, tupAt21, tupAt30, tupAt31, tupAt32]
        refine does_fn (args := [(bv), (.int .i64 (p : Int)), ((.int .i64 (s : Int)))]) Tryd.func85 kR kR (P1.out _ _ (S.oldB HB.out)) rfl ?_
        rintro e w1 ⟨x, rfl, T⟩
        exact ⟨_, rfl, ⟨_, rfl⟩, S.call T⟩
      · clear hi
        refine step_of rfl rfl rfl ?_
        intro u G w hf S
        have f9 : ∃ x, u 9 = .tuple #[x, .int .i64 ((p : Int) + (s : Int)), .int .i64 0] := hf 9 (by simp)
        obtain ⟨x18, f9⟩ := f9
        have m9 : mask [0, 1, 2, 3, 4, 5, 6, 7, 8, 9] u 9 = u 9 := rfl
        simp only [fl, z4, z5, z6, z7, m9, ptrBlk, tupAt20, tupAt21, tupAt30, tupAt31, tupAt32] at S ⊢
        simp only [m9, f9, tupAt20, tupAt21, tupAt30, tupAt31, tupAt32]
        simp only [does]
        go_simp
        try first | exact S | exact ⟨vv, S⟩ | exact vv
      · clear hi
        refine step_of rfl rfl rfl ?_
        intro u G w hf S
        have f9 : ∃ x, u 9 = .tuple #[x, .int .i64 ((p : Int) + (s : Int)), .int .i64 0] := hf 9 (by simp)
        obtain ⟨x18, f9⟩ := f9
        have f10 : u 10 = u 9 := hf 10 (by simp)
        have m9 : mask [0, 1, 2, 3, 4, 5, 6, 7, 8, 9, 10] u 9 = u 9 := rfl
        simp only [fl, z4, z5, z6, z7, m9, ptrBlk, tupAt20, tupAt21, tupAt30, tupAt31, tupAt32] at S ⊢
        simp only [m9, f9, f10, tupAt20, tupAt21, tupAt30, tupAt31, tupAt32]
        simp only [does]
        go_simp
        try first | exact S | exact ⟨vv, S⟩ | exact vv
      · clear hi
        refine step_of rfl rfl rfl ?_
        intro u G w hf S
        have f9 : ∃ x, u 9 = .tuple #[x, .int .i64 ((p : Int) + (s : Int)), .int .i64 0] := hf 9 (by simp)
        obtain ⟨x18, f9⟩ := f9
        have f10 : u 10 = u 9 := hf 10 (by simp)
        have m9 : mask [0, 1, 2, 3, 4, 5, 6, 7, 8, 9, 10] u 9 = u 9 := rfl
        simp only [fl, z4, z5, z6, z7, m9, ptrBlk, tupAt20, tupAt21, tupAt30, tupAt31, tupAt32] at S ⊢
        simp only [m9, f9, f10, tupAt20, tupAt21, tupAt30, tupAt31, tupAt32]
        simp only [does]
        go_simp
        try first | exact S | exact ⟨vv, S⟩ | exact vv
      · clear hi
        refine step_of rfl rfl rfl ?_
        intro u G w hf S
        have f9 : ∃ x, u 9 = .tuple #[x, .int .i64 ((p : Int) + (s : Int)), .int .i64 0] := hf 9 (by simp)
        obtain ⟨x18, f9⟩ := f9
        have f10 : u 10 = u 9 := hf 10 (by simp)
        have m9 : mask [0, 1, 2, 3, 4, 5, 6, 7, 8, 9, 10] u 9 = u 9 := rfl
        simp only [fl, z4, z5, z6, z7, m9, ptrBlk, tupAt20, tupAt21, tupAt30, tupAt31, tupAt32] at S ⊢
        simp only [m9, f9, f10, tupAt20, tupAt21, tupAt30, tupAt31, tupAt32]
        simp only [does]
        go_simp
        try first | exact S | exact ⟨vv, S⟩ | exact vv
      · clear hi
        refine step_of rfl rfl rfl ?_
        intro u G w hf S
        have f9 : ∃ x, u 9 = .tuple #[x, .int .i64 ((p : Int) + (s : Int)), .int .i64 0] := hf 9 (by simp)
        obtain ⟨x18, f9⟩ := f9
        have f11 : u 11 = tupAt (u 9) 0 := hf 11 (by simp)
        have m9 : mask [0, 1, 2, 3, 4, 5, 6, 7, 8, 9, 10, 11] u 9 = u 9 := rfl
        simp only [fl, z4, z5, z6, z7, m9, ptrBlk, tupAt20, tupAt21, tupAt30, tupAt31, tupAt32] at S ⊢
        simp only [m9, f9, f11, tupAt20, tupAt21, tupAt30, tupAt31, tupAt32]
        simp only [does]
        go_simp
        try first | exact S | exact ⟨vv, S⟩ | exact vv
      · clear hi
        refine step_of rfl rfl rfl ?_
        intro u G w hf S
        have f9 : ∃ x, u 9 = .tuple #[x, .int .i64 ((p : Int) + (s : Int)), .int .i64 0] := hf 9 (by simp)
        obtain ⟨x18, f9⟩ := f9
        have f12 : u 12 = tupAt (u 9) 1 := hf 12 (by simp)
        have m9 : mask [0, 1, 2, 3, 4, 5, 6, 7, 8, 9, 10, 11, 12, 14] u 9 = u 9 := rfl
        simp only [fl, z4, z5, z6, z7, m9, ptrBlk, tupAt20, tupAt21, tupAt30, tupAt31, tupAt32] at S ⊢
        simp only [m9, f9, f12, tupAt20, tupAt21, tupAt30, tupAt31, tupAt32]
        simp only [does]
        go_simp
        try first | exact S | exact ⟨vv, S⟩ | exact vv
      · clear hi
        refine step_of rfl rfl rfl ?_
        intro u G w hf S
        have f9 : ∃ x, u 9 = .tuple #[x, .int .i64 ((p : Int) + (s : Int)), .int .i64 0] := hf 9 (by simp)
        obtain ⟨x18, f9⟩ := f9
        have f13 : u 13 = tupAt (u 9) 2 := hf 13 (by simp)
        have m9 : mask [0, 1, 2, 3, 4, 5, 6, 7, 8, 9, 10, 11, 12, 13, 14, 15] u 9 = u 9 := rfl
        simp only [fl, z4, z5, z6, z7, m9, ptrBlk, tupAt20, tupAt21, tupAt30, tupAt31, tupAt32] at S ⊢
        simp only [m9, f9, f13, tupAt20, tupAt21, tupAt30, tupAt31, tupAt32]
        simp only [does]
        go_simp
        try first | exact S | exact ⟨vv, S⟩ | exact vv
    case fin3 =>
      intro u w hf S
      have f9 : ∃ x, u 9 = .tuple #[x, .int .i64 ((p : Int) + (s : Int)), .int .i64 0] := hf 9 (by simp)
      obtain ⟨x18, f9⟩ := f9
      have m10_9 : mask [0, 1, 2, 3, 4, 5, 6, 7, 8, 9] u 9 = u 9 := rfl
      have m11_9 : mask [0, 1, 2, 3, 4, 5, 6, 7, 8, 9, 10] u 9 = u 9 := rfl
      have m12_9 : mask [0, 1, 2, 3, 4, 5, 6, 7, 8, 9, 10] u 9 = u 9 := rfl
      have m13_9 : mask [0, 1, 2, 3, 4, 5, 6, 7, 8, 9, 10] u 9 = u 9 := rfl
      have m14_9 : mask [0, 1, 2, 3, 4, 5, 6, 7, 8, 9, 10, 11] u 9 = u 9 := rfl
      have m15_9 : mask [0, 1, 2, 3, 4, 5, 6, 7, 8, 9, 10, 11, 12, 14] u 9 = u 9 := rfl
      have m16_9 : mask [0, 1, 2, 3, 4, 5, 6, 7, 8, 9, 10, 11, 12, 13, 14, 15] u 9 = u 9 := rfl
      have hvA := allV hf
      simp only [AllV, RSpec.valAt, sv, Nat.zero_add, Nat.reduceAdd, m10_9, m11_9, m12_9, m13_9, m14_9, m15_9, m16_9] at hvA
      simp only [fl, z4, z5, z6, z7, m10_9, m11_9, m12_9, m13_9, m14_9, m15_9, m16_9, ptrBlk, tupAt20, tupAt21, tupAt30, tupAt31, tupAt32] at S
      clear hf
      simp only [List.length_cons, List.length_nil, Nat.zero_add, Nat.reduceAdd, List.drop_succ_cons, List.drop_zero, f9, hvA, tupAt20, tupAt21, tupAt30, tupAt31, tupAt32]
      try simp only [f9, hvA, tupAt20, tupAt21, tupAt30, tupAt31, tupAt32, ptrBlk] at S
      clear f9 hvA m10_9 m11_9 m12_9 m13_9 m14_9 m15_9 m16_9
      go_wp2_with (first | ((with_reducible refine iO _ (.load 25 _) ?_); refine step_load1 25 _ _ _ rfl (cL) _ Tryd.underlying25 rfl rfl ?_) | ((with_reducible refine iO _ (.load 3 _) ?_); refine step_load1 3 _ _ _ rfl (cL) _ Tryd.underlying3 rfl rfl ?_) | (go_at_call 85; (with_reducible refine (takeBytes_s _ _ _ _ _ bS lE lE lE).mono ?_); rintro e w1 ⟨v, rfl, T⟩; replace S := S.call T; clear T; (try simp only [z4, z5] at S)) | ((with_reducible refine iO none (.store 3 (.tmp 29) (.tmp 27)) ?_); refine step_store1 S 3 (.tmp 29) (.tmp 27) _ _ (.int _ _) rfl rfl _ _ pk kR kR rfl lN rfl ?_; clear S; intro w S; try simp only [List.setIfInBounds_toArray, List.set_cons_zero, List.set_cons_succ] at S) | fail)
      go_ret
      refine .inl ⟨hfit, _, rfl, ?_⟩
      rw [← HN.out, rdr, Int.natCast_add]
      exact S
  · have hlt : b.length < p + s := by omega
    have p1 := fun v w h => takeB_lack v b p s w h hp hlt hl h8
    obtain ⟨m, hm⟩ : ∃ m, m = takeN b.length p s := ⟨_, rfl⟩
    rw [← hm] at p1
    have HB := Lib.hid hb; have P1 := Lib.hid p1; have H8 := Lib.hid h8; clear hb p1 h8
    clear hm
    go_enter Tryd.func63, Tryd.ntmps63
    go_wp2_with (first | ((with_reducible refine iO _ (.load 25 _) ?_); refine step_load1 25 _ _ _ rfl (cL) _ Tryd.underlying25 rfl rfl ?_) | ((with_reducible refine iO _ (.load 3 _) ?_); refine step_load1 3 _ _ _ rfl (cL) _ Tryd.underlying3 rfl rfl ?_) | (go_at_call 85; (with_reducible refine (takeBytes_s _ _ _ _ _ bS lE lE lE).mono ?_); rintro e w1 ⟨v, rfl, T⟩; replace S := S.call T; clear T; (try simp only [z4, z5] at S)) | ((with_reducible refine iO none (.store 3 (.tmp 29) (.tmp 27)) ?_); refine step_store1 S 3 (.tmp 29) (.tmp 27) _ _ (.int _ _) rfl rfl _ _ pk kR kR rfl lN rfl ?_; clear S; intro w S; try simp only [List.setIfInBounds_toArray, List.set_cons_zero, List.set_cons_succ] at S) | fail)
    refine wp_rely S [sv [] ((.pointer (some ⟨g, 0, none⟩))), sv [0] (.pointer (some ⟨g, 0, none⟩)), sv [0, 1] (.pointer (some ⟨g, 0, none⟩)), sv [0, 1, 2] bv, sv [] ((.pointer (some ⟨g, 0, none⟩))), sv [4] (.pointer (some ⟨g, 0, none⟩)), sv [4, 5] (.pointer (some ⟨g, 1, none⟩)), sv [4, 5, 6] (.int .i64 (p : Int)), sv [] ((.int .i64 (s : Int))), ⟨[0, 1, 2, 3, 4, 5, 6, 7, 8], [], [], fun _ v => ∃ x, v = .tuple #[x, .int .i64 m, .int .i64 10], fun _ v => [row8 (tupAt v 0) []]⟩, ⟨[0, 1, 2, 3, 4, 5, 6, 7, 8, 9], [], [], fun d v => v = d 9, fun _ v => []⟩, ⟨[0, 1, 2, 3, 4, 5, 6, 7, 8, 9, 10], [], [], fun d v => v = tupAt (d 9) 0, fun _ v => []⟩, ⟨[0, 1, 2, 3, 4, 5, 6, 7, 8, 9, 10], [], [], fun d v => v = tupAt (d 9) 1, fun _ v => []⟩, ⟨[0, 1, 2, 3, 4, 5, 6, 7, 8, 9, 10], [], [], fun d v => v = tupAt (d 9) 2, fun _ v => []⟩, ⟨[0, 1, 2, 3, 4, 5, 6, 7, 8, 9, 10, 11], [], [], fun d v => v = (tupAt (d 9) 0), fun _ v => []⟩, ⟨[0, 1, 2, 3, 4, 5, 6, 7, 8, 9, 10, 11, 12, 14], [], [], fun d v => v = (tupAt (d 9) 1), fun _ v => []⟩, ⟨[0, 1, 2, 3, 4, 5, 6, 7, 8, 9, 10, 11, 12, 13, 14, 15], [], [], fun d v => v = (tupAt (d 9) 2), fun _ v => []⟩] ?A4 ?hA4 kR kR kR [0, 1, 2, 3, 4, 5, 6, 7, 8, 9, 10, 11, 12, 13, 14, 15, 16] kR ?hok4 ?fin4
    case hA4 => intro u; simp only [putAll, List.length_cons, List.length_nil, Nat.zero_add, Nat.reduceAdd, dstAt, List.getElem?_toArray, List.getElem?_cons_zero, List.getElem?_cons_succ, Option.bind_some, Act.put, List.setIfInBounds_toArray, List.set_cons_zero, List.set_cons_succ]; rfl
    case hok4 =>
      intro i hi
      obtain rfl | rfl | rfl | rfl | rfl | rfl | rfl | rfl | rfl | rfl | rfl | rfl | rfl | rfl | rfl | rfl | rfl : i = 0 ∨ i = 1 ∨ i = 2 ∨ i = 3 ∨ i = 4 ∨ i = 5 ∨ i = 6 ∨ i = 7 ∨ i = 8 ∨ i = 9 ∨ i = 10 ∨ i = 11 ∨ i = 12 ∨ i = 13 ∨ i = 14 ∨ i = 15 ∨ i = 16 := by simp only [List.length_cons, List.length_nil, Nat.zero_add, Nat.reduceAdd] at hi; omega
      · exact oP []
      · exact oP [0]
      · exact oP [1]
      · clear hi
        refine step_of rfl rfl rfl ?_
        intro u G w hf S
        have f2 : u 2 = .pointer (some ⟨g, 0, none⟩) := hf 2 (by simp)
        simp only [fl, z4, z5, z6, z7, ptrBlk, tupAt20, tupAt21, tupAt30, tupAt31, tupAt32] at S ⊢
        simp only [f2, tupAt20, tupAt21, tupAt30, tupAt31, tupAt32]
        refine does_load1 25 (.tmp 11) _ _ rfl (S.cell (g := g) pk co) _ Tryd.underlying25 rfl ?_; exact ⟨rfl, S⟩
      · exact oP []
      · exact oP [4]
      · exact oP [5]
      · clear hi
        refine step_of rfl rfl rfl ?_
        intro u G w hf S
        have f6 : u 6 = .pointer (some ⟨g, 1, none⟩) := hf 6 (by simp)
        simp only [fl, z4, z5, z6, z7, ptrBlk, tupAt20, tupAt21, tupAt30, tupAt31, tupAt32] at S ⊢
        simp only [f6, tupAt20, tupAt21, tupAt30, tupAt31, tupAt32]
        refine does_load1 3 (.tmp 15) _ _ rfl (S.cell (g := g) pk co) _ Tryd.underlying3 rfl ?_; exact ⟨rfl, S⟩
      · exact oP []
      · clear hi
        refine step_of rfl rfl rfl ?_
        intro u G w hf S
        have f3 : u 3 = bv := hf 3 (by simp)
        have f7 : u 7 = .int .i64 (p : Int) := hf 7 (by simp)
        have f8 : u 8 = (.int .i64 (s : Int)) := hf 8 (by simp)
        simp only [fl, z4, z5, z6, z7, ptrBlk, tupAt20, tupAt21, tupAt30, tupAt31, tupAt32] at S ⊢
        simp only [f3, f7, f8, tupAt20, tupAt21, tupAt30, tupAt31, tupAt32]
        refine does_fn (args := [(bv), (.int .i64 (p : Int)), ((.int .i64 (s : Int)))]) Tryd.func85 kR kR (P1.out _ _ (S.oldB HB.out)) rfl ?_
        rintro e w1 ⟨x, rfl, T⟩
        exact ⟨_, rfl, ⟨_, rfl⟩, S.call T⟩
      · clear hi
        refine step_of rfl rfl rfl ?_
        intro u G w hf S
        have f9 : ∃ x, u 9 = .tuple #[x, .int .i64 m, .int .i64 10] := hf 9 (by simp)
        obtain ⟨x18, f9⟩ := f9
        have m9 : mask [0, 1, 2, 3, 4, 5, 6, 7, 8, 9] u 9 = u 9 := rfl
        simp only [fl, z4, z5, z6, z7, m9, ptrBlk, tupAt20, tupAt21, tupAt30, tupAt31, tupAt32] at S ⊢
        simp only [m9, f9, tupAt20, tupAt21, tupAt30, tupAt31, tupAt32]
        simp only [does]
        go_simp
        try first | exact S | exact ⟨vv, S⟩ | exact vv
      · clear hi
        refine step_of rfl rfl rfl ?_
        intro u G w hf S
        have f9 : ∃ x, u 9 = .tuple #[x, .int .i64 m, .int .i64 10] := hf 9 (by simp)
        obtain ⟨x18, f9⟩ := f9
        have f10 : u 10 = u 9 := hf 10 (by simp)
        have m9 : mask [0, 1, 2, 3, 4, 5, 6, 7, 8, 9, 10] u 9 = u 9 := rfl
        simp only [fl, z4, z5, z6, z7, m9, ptrBlk, tupAt20, tupAt21, tupAt30, tupAt31, tupAt32] at S ⊢
        simp only [m9, f9, f10, tupAt20, tupAt21, tupAt30, tupAt31, tupAt32]
        simp only [does]
        go_simp
        try first | exact S | exact ⟨vv, S⟩ | exact vv
      · clear hi
        refine step_of rfl rfl rfl ?_
        intro u G w hf S
        have f9 : ∃ x, u 9 = .tuple #[x, .int .i64 m, .int .i64 10] := hf 9 (by simp)
        obtain ⟨x18, f9⟩ := f9
        have f10 : u 10 = u 9 := hf 10 (by simp)
        have m9 : mask [0, 1, 2, 3, 4, 5, 6, 7, 8, 9, 10] u 9 = u 9 := rfl
        simp only [fl, z4, z5, z6, z7, m9, ptrBlk, tupAt20, tupAt21, tupAt30, tupAt31, tupAt32] at S ⊢
        simp only [m9, f9, f10, tupAt20, tupAt21, tupAt30, tupAt31, tupAt32]
        simp only [does]
        go_simp
        try first | exact S | exact ⟨vv, S⟩ | exact vv
      · clear hi
        refine step_of rfl rfl rfl ?_
        intro u G w hf S
        have f9 : ∃ x, u 9 = .tuple #[x, .int .i64 m, .int .i64 10] := hf 9 (by simp)
        obtain ⟨x18, f9⟩ := f9
        have f10 : u 10 = u 9 := hf 10 (by simp)
        have m9 : mask [0, 1, 2, 3, 4, 5, 6, 7, 8, 9, 10] u 9 = u 9 := rfl
        simp only [fl, z4, z5, z6, z7, m9, ptrBlk, tupAt20, tupAt21, tupAt30, tupAt31, tupAt32] at S ⊢
        simp only [m9, f9, f10, tupAt20, tupAt21, tupAt30, tupAt31, tupAt32]
        simp only [does]
        go_simp
        try first | exact S | exact ⟨vv, S⟩ | exact vv
      · clear hi
        refine step_of rfl rfl rfl ?_
        intro u G w hf S
        have f9 : ∃ x, u 9 = .tuple #[x, .int .i64 m, .int .i64 10] := hf 9 (by simp)
        obtain ⟨x18, f9⟩ := f9
        have f11 : u 11 = tupAt (u 9) 0 := hf 11 (by simp)
        have m9 : mask [0, 1, 2, 3, 4, 5, 6, 7, 8, 9, 10, 11] u 9 = u 9 := rfl
        simp only [fl, z4, z5, z6, z7, m9, ptrBlk, tupAt20, tupAt21, tupAt30, tupAt31, tupAt32] at S ⊢
        simp only [m9, f9, f11, tupAt20, tupAt21, tupAt30, tupAt31, tupAt32]
        simp only [does]
        go_simp
        try first | exact S | exact ⟨vv, S⟩ | exact vv
      · clear hi
        refine step_of rfl rfl rfl ?_
        intro u G w hf S
        have f9 : ∃ x, u 9 = .tuple #[x, .int .i64 m, .int .i64 10] := hf 9 (by simp)
        obtain ⟨x18, f9⟩ := f9
        have f12 : u 12 = tupAt (u 9) 1 := hf 12 (by simp)
        have m9 : mask [0, 1, 2, 3, 4, 5, 6, 7, 8, 9, 10, 11, 12, 14] u 9 = u 9 := rfl
        simp only [fl, z4, z5, z6, z7, m9, ptrBlk, tupAt20, tupAt21, tupAt30, tupAt31, tupAt32] at S ⊢
        simp only [m9, f9, f12, tupAt20, tupAt21, tupAt30, tupAt31, tupAt32]
        simp only [does]
        go_simp
        try first | exact S | exact ⟨vv, S⟩ | exact vv
      · clear hi
        refine step_of rfl rfl rfl ?_
        intro u G w hf S
        have f9 : ∃ x, u 9 = .tuple #[x, .int .i64 m, .int .i64 10] := hf 9 (by simp)
        obtain ⟨x18, f9⟩ := f9
        have f13 : u 13 = tupAt (u 9) 2 := hf 13 (by simp)
        have m9 : mask [0, 1, 2, 3, 4, 5, 6, 7, 8, 9, 10, 11, 12, 13, 14, 15] u 9 = u 9 := rfl
        simp only [fl, z4, z5, z6, z7, m9, ptrBlk, tupAt20, tupAt21, tupAt30, tupAt31, tupAt32] at S ⊢
        simp only [m9, f9, f13, tupAt20, tupAt21, tupAt30, tupAt31, tupAt32]
        simp only [does]
        go_simp
        try first | exact S | exact ⟨vv, S⟩ | exact vv
    case fin4 =>
      intro u w hf S
      have f9 : ∃ x, u 9 = .tuple #[x, .int .i64 m, .int .i64 10] := hf 9 (by simp)
      obtain ⟨x18, f9⟩ := f9
      have m10_9 : mask [0, 1, 2, 3, 4, 5, 6, 7, 8, 9] u 9 = u 9 := rfl
      have m11_9 : mask [0, 1, 2, 3, 4, 5, 6, 7, 8, 9, 10] u 9 = u 9 := rfl
      have m12_9 : mask [0, 1, 2, 3, 4, 5, 6, 7, 8, 9, 10] u 9 = u 9 := rfl
      have m13_9 : mask [0, 1, 2, 3, 4, 5, 6, 7, 8, 9, 10] u 9 = u 9 := rfl
      have m14_9 : mask [0, 1, 2, 3, 4, 5, 6, 7, 8, 9, 10, 11] u 9 = u 9 := rfl
      have m15_9 : mask [0, 1, 2, 3, 4, 5, 6, 7, 8, 9, 10, 11, 12, 14] u 9 = u 9 := rfl
      have m16_9 : mask [0, 1, 2, 3, 4, 5, 6, 7, 8, 9, 10, 11, 12, 13, 14, 15] u 9 = u 9 := rfl
      have hvA := allV hf
      simp only [AllV, RSpec.valAt, sv, Nat.zero_add, Nat.reduceAdd, m10_9, m11_9, m12_9, m13_9, m14_9, m15_9, m16_9] at hvA
      simp only [fl, z4, z5, z6, z7, m10_9, m11_9, m12_9, m13_9, m14_9, m15_9, m16_9, ptrBlk, tupAt20, tupAt21, tupAt30, tupAt31, tupAt32] at S
      clear hf
      simp only [List.length_cons, List.length_nil, Nat.zero_add, Nat.reduceAdd, List.drop_succ_cons, List.drop_zero, f9, hvA, tupAt20, tupAt21, tupAt30, tupAt31, tupAt32]
      try simp only [f9, hvA, tupAt20, tupAt21, tupAt30, tupAt31, tupAt32, ptrBlk] at S
      clear f9 hvA m10_9 m11_9 m12_9 m13_9 m14_9 m15_9 m16_9
      go_wp2_with (first | ((with_reducible refine iO _ (.load 25 _) ?_); refine step_load1 25 _ _ _ rfl (cL) _ Tryd.underlying25 rfl rfl ?_) | ((with_reducible refine iO _ (.load 3 _) ?_); refine step_load1 3 _ _ _ rfl (cL) _ Tryd.underlying3 rfl rfl ?_) | (go_at_call 85; (with_reducible refine (takeBytes_s _ _ _ _ _ bS lE lE lE).mono ?_); rintro e w1 ⟨v, rfl, T⟩; replace S := S.call T; clear T; (try simp only [z4, z5] at S)) | ((with_reducible refine iO none (.store 3 (.tmp 29) (.tmp 27)) ?_); refine step_store1 S 3 (.tmp 29) (.tmp 27) _ _ (.int _ _) rfl rfl _ _ pk kR kR rfl lN rfl ?_; clear S; intro w S; try simp only [List.setIfInBounds_toArray, List.set_cons_zero, List.set_cons_succ] at S) | fail)
      first | exact ⟨rfl, .inr ⟨hlt, rfl, S.tail⟩⟩ | exact ⟨rfl, .inr ⟨hlt, rfl, S.drop (Pick.tail (Pick.head _ _))⟩⟩
end Go.Proofs.YtfhkmmagpnojmaaDoor

/- Bodies of requests: values behind the interface, its methods. No condition but the reach. -/
namespace Go.Proofs.YtfhkmmagpnojmaaDoor
open Go.RowKit

section
variable {P : Program} {ops : Array Oper} {rest : List Oper} {a : Act} {w0 w : World} {l F : List Res} {Q : Exit → Act → World → Prop} {dst : Option Tmp} {ty : TypeId} {pos : String} {after : Array Edge} {gd : Option (Nat × Bool)} {Post : Value → World → Prop} {Bad : List PanicEntry → World → Prop}

theorem run_inv (x : Operand) (name : String) (xs : List Operand) (ts : Array TypeId) (rv : Value) (vs : List Value) (f : FuncId) (args : Array Value) (hx : a.eval x = rv) (hxs : xs.map a.eval = vs) (hr : (callMethod rv name vs.toArray).run P w = .ok (.enter f args) w) :
    (execOp a.eval ⟨dst, .call { callee := .invoke x name, args := xs.toArray, argTypes := ts }, ty, pos, after, gd⟩).run P w = .ok (.enter f args) w := by
  subst hx
  subst hxs
  have e : (#[a.eval x] ++ (xs.toArray.map a.eval)).extract 1 (#[a.eval x] ++ (xs.toArray.map a.eval)).size = (xs.map a.eval).toArray := by
    apply Array.ext'
    simp [List.take_of_length_le]
  simp only [execOp, resolve, Sem.run_bind, Sem.run_pure, Result.andThen_ok, invoke]
  have e0 : (#[a.eval x] ++ (xs.toArray.map a.eval))[0]? = some (a.eval x) := by simp
  simp only [e0, e, hr]
/-- A method is called through an interface. -/
theorem step_inv {R : Ending → World → Prop} (x : Operand) (name : String) (xs : List Operand) (ts : Array TypeId) (rv : Value) (vs : List Value) (f : FuncId) (args : Array Value) (hx : a.eval x = rv) (hxs : xs.map a.eval = vs) (hr : (callMethod rv name vs.toArray).run P w = .ok (.enter f args) w) (hc : Calls P f args w R)
    (hw : Region.wanted ⟨dst, .call { callee := .invoke x name, args := xs.toArray, argTypes := ts }, ty, pos, after, gd⟩ (yielded ops a.tmps) = true)
    (h : ∀ e w', R e w' → (∃ v, e = .returned v ∧ wpList P ops Q rest (a.put dst v) w') ∨ (∃ c, e = .panicked c ∧ Q (.panic c) a w')) : wpList P ops Q (⟨dst, .call { callee := .invoke x name, args := xs.toArray, argTypes := ts }, ty, pos, after, gd⟩ :: rest) a w := by
  refine wpList_step fun K hK => ?_
  rw [if_pos hw]
  unfold Oper.wp
  rw [run_inv x name xs ts rv vs f args hx hxs hr, Oper.upon_enter]
  refine hc.mono fun e w' he => ?_
  rcases h e w' he with ⟨v, rfl, hp⟩ | ⟨c, rfl, hp⟩
  · exact hK _ _ hp
  · exact hp
theorem doesB_inv {R : Ending → World → Prop} (x : Operand) (name : String) (xs : List Operand) (ts : Array TypeId) (rv : Value) (vs : List Value) (f : FuncId) (args : Array Value) (hx : a.eval x = rv) (hxs : xs.map a.eval = vs) (hr : (callMethod rv name vs.toArray).run P w = .ok (.enter f args) w) (hc : Calls P f args w R)
    (h : ∀ e w', R e w' → (∃ v, e = .returned v ∧ Post v w') ∨ (∃ c, e = .panicked c ∧ Bad c w')) : doesB P Bad a.eval ⟨dst, .call { callee := .invoke x name, args := xs.toArray, argTypes := ts }, ty, pos, after, gd⟩ w Post :=
  doesB_call (run_inv x name xs ts rv vs f args hx hxs hr) hc h
theorem does_inv {R : Ending → World → Prop} (x : Operand) (name : String) (xs : List Operand) (ts : Array TypeId) (rv : Value) (vs : List Value) (f : FuncId) (args : Array Value) (hx : a.eval x = rv) (hxs : xs.map a.eval = vs) (hr : (callMethod rv name vs.toArray).run P w = .ok (.enter f args) w) (hc : Calls P f args w R)
    (h : ∀ e w', R e w' → ∃ v, e = .returned v ∧ Post v w') : does P a.eval ⟨dst, .call { callee := .invoke x name, args := xs.toArray, argTypes := ts }, ty, pos, after, gd⟩ w Post :=
  does_call (run_inv x name xs ts rv vs f args hx hxs hr) hc h
end

theorem Has.pick2 {w0 w : World} {l F G : List Res} {r s : Res} (S : Has w0 w l) (h : Pick l r F) (h2 : Pick F s G) : Has w0 w (r :: s :: G) := S.perm (h.perm.trans (List.Perm.cons _ h2.perm))
/-- A body of a request. -/
inductive Bdy where
  | none
  | pair (p d : UInt8)
  | short (n : UInt32)
  | long (n : UInt32)
def bdyV : Bdy → Value
  | .none => .iface 152 (.agg #[])
  | .pair p d => .iface 148 (.agg #[by8 p, by8 d])
  | .short n => .iface 149 (.int .u32 (n.toNat : Int))
  | .long n => .iface 150 (.int .u32 (n.toNat : Int))
/-- The body of a request; the request with a body. -/
def bdyR (r : Rq) : Bdy := if r.kind = 1 then .pair r.pick r.drop else if r.kind = 2 ∨ r.kind = 3 then .short r.number else if r.kind = 5 ∨ r.kind = 6 then .long r.number else .none
def ofB (k : UInt8) (t : Tok) : Bdy → Rq
  | .none => ⟨k, t, 0, 0, 0⟩
  | .pair p d => ⟨k, t, p, d, 0⟩
  | .short n => ⟨k, t, 0, 0, n⟩
  | .long n => ⟨k, t, 0, 0, n⟩
def bdyOk : Bdy → Bool
  | .short n => decide (n.toNat ≤ 65535)
  | _ => true
def bdyB : Bdy → List UInt8
  | .none => []
  | .pair p d => numB p.toNat 1 ++ numB d.toNat 1
  | .short n => numB n.toNat 2
  | .long n => numB n.toNat 4
/-- How many bytes a body of a kind has; what they are read as. -/
def bdyZ : Bdy → Nat
  | .none => 0
  | .pair _ _ => 2
  | .short _ => 2
  | .long _ => 4
def rdOf (b : List UInt8) (p : Nat) : Bdy → Bdy
  | .none => .none
  | .pair _ _ => .pair (UInt8.ofNat (atB b p 1)) (UInt8.ofNat (atB b (p + 1) 1))
  | .short _ => .short (UInt32.ofNat (atB b p 2))
  | .long _ => .long (UInt32.ofNat (atB b p 4))
theorem kcase (k : UInt8) : k = 1 ∨ k = 2 ∨ k = 3 ∨ k = 4 ∨ k = 5 ∨ k = 6 ∨ (k.toNat ≠ 1 ∧ k.toNat ≠ 2 ∧ k.toNat ≠ 3 ∧ k.toNat ≠ 4 ∧ k.toNat ≠ 5 ∧ k.toNat ≠ 6) := by
  have h : ∀ m : Nat, m < 256 → k.toNat = m → k = UInt8.ofNat m := fun m hm e => UInt8.toNat_inj.1 (by rw [e, UInt8.toNat_ofNat', Nat.mod_eq_of_lt hm])
  by_cases h1 : k.toNat = 1
  · exact .inl (h 1 (by decide) h1)
  by_cases h2 : k.toNat = 2
  · exact .inr (.inl (h 2 (by decide) h2))
  by_cases h3 : k.toNat = 3
  · exact .inr (.inr (.inl (h 3 (by decide) h3)))
  by_cases h4 : k.toNat = 4
  · exact .inr (.inr (.inr (.inl (h 4 (by decide) h4))))
  by_cases h5 : k.toNat = 5
  · exact .inr (.inr (.inr (.inr (.inl (h 5 (by decide) h5)))))
  by_cases h6 : k.toNat = 6
  · exact .inr (.inr (.inr (.inr (.inr (.inl (h 6 (by decide) h6))))))
  exact .inr (.inr (.inr (.inr (.inr (.inr ⟨h1, h2, h3, h4, h5, h6⟩)))))
set_option maxRecDepth 100000 in
set_option maxHeartbeats 4000000 in
theorem requestBody_s (r : Rq) (w0 : World) : Calls Tryd.prog 57 #[.agg (rqL r).toArray] w0 fun e w' => e = .returned (bdyV (bdyR r)) ∧ Has w0 w' [] := by
  have S := Has.start w0
  obtain ⟨k, t, p, d, n⟩ := r
  rcases kcase k with rfl | rfl | rfl | rfl | rfl | rfl | ⟨h1, h2, h3, h4, h5, h6⟩
  case inr.inr.inr.inr.inr.inr =>
    have hB : bdyR ⟨k, t, p, d, n⟩ = .none := by
      unfold bdyR
      dsimp only
      rw [if_neg (by rintro rfl; exact h1 rfl), if_neg (by rintro (rfl | rfl); exact h2 rfl; exact h3 rfl), if_neg (by rintro (rfl | rfl); exact h5 rfl; exact h6 rfl)]
    have i1 : ((k.toNat : Int) == 1) = false := by rw [beq_eq_false_iff_ne]; omega
    have i2 : ((k.toNat : Int) == 2) = false := by rw [beq_eq_false_iff_ne]; omega
    have i3 : ((k.toNat : Int) == 3) = false := by rw [beq_eq_false_iff_ne]; omega
    have i5 : ((k.toNat : Int) == 5) = false := by rw [beq_eq_false_iff_ne]; omega
    have i6 : ((k.toNat : Int) == 6) = false := by rw [beq_eq_false_iff_ne]; omega
    rw [hB]
    clear hB h1 h2 h3 h4 h5 h6
    go_enter Tryd.func57, Tryd.ntmps57
    go_wp2_with (first | ((with_reducible refine iD 1 (.box 69 (.tmp 0)) ?_); refine step_boxA (dst := some 1) S 69 (.tmp 0) _ rfl rfl ?_; clear S; intro g1 w S) | ((with_reducible refine iO _ (.load 5 _) ?_); refine step_load1 5 _ _ _ rfl (cL) _ Tryd.underlying5 rfl rfl ?_) | fail)
    go_ret
    exact ⟨rfl, S.nil⟩
  all_goals
    go_enter Tryd.func57, Tryd.ntmps57
    go_wp2_with (first | ((with_reducible refine iD 1 (.box 69 (.tmp 0)) ?_); refine step_boxA (dst := some 1) S 69 (.tmp 0) _ rfl rfl ?_; clear S; intro g1 w S) | ((with_reducible refine iO _ (.load 5 _) ?_); refine step_load1 5 _ _ _ rfl (cL) _ Tryd.underlying5 rfl rfl ?_) | ((with_reducible refine iO _ (.load 38 _) ?_); refine step_load1 38 _ _ _ rfl (cL) _ Tryd.underlying38 rfl rfl ?_) | fail)
    go_ret
    exact ⟨rfl, S.nil⟩
theorem ruint_i (si : Int) (s : Nat) (hsi : si = (s : Int)) (g : Nat) (bv : Value) (b : List UInt8) (p : Nat) (w0 w1 : World) (F : List Res) (S : Has w0 w1 (rdr g bv p :: F)) (hb : Bs w0 bv b) (h1 : 1 ≤ s) (h8 : s ≤ 8) (hp : p ≤ b.length) (hl : b.length ≤ 140737488355328) :
    Calls Tryd.prog 61 #[.pointer (some ⟨g, 0, none⟩), .int .i64 si] w1 fun e w' =>
      (p + s ≤ b.length ∧ e = .returned (.int .u64 (atB b p s : Int)) ∧ Has w0 w' (rdr g bv (p + s) :: F)) ∨ (b.length < p + s ∧ e = .panicked [erl] ∧ Has w0 w' (rdr g bv p :: F)) := by
  subst hsi
  refine (ruint_s g bv b p s w0 w1 F S hb h1 h8 hp hl).mono fun e w' h => ?_
  rcases h with ⟨h1, h2, h3⟩ | h
  · exact .inl ⟨h1, by rw [atB_fit b p s h1]; exact h2, h3⟩
  · exact .inr h
theorem wuint_i (ni : Int) (n : Nat) (hni : ni = (n : Int)) (si : Int) (s : Nat) (hsi : si = (s : Int)) (g : Nat) (v : Value) (xs : List UInt8) (w0 w1 : World) (F : List Res) (S : Has w0 w1 (wrt g v :: row8 v xs :: F)) (hn : n < 18446744073709551616) (hs : s ≤ 8) (hl : xs.length + s ≤ 140737488355328) :
    Calls Tryd.prog 48 #[.pointer (some ⟨g, 0, none⟩), .int .u64 ni, .int .i64 si] w1 (Wrote w0 g (xs ++ numB n s) F) := by
  subst hni
  subst hsi
  exact wuint_s g v xs n s w0 w1 F S hn hs hl
/-- What reading a body leaves. -/
def ReadY (w0 : World) (g : Nat) (bv : Value) (b : List UInt8) (p : Nat) (B : Bdy) (F : List Res) (e : Ending) (w' : World) : Prop :=
  (p + bdyZ B ≤ b.length ∧ e = .returned (bdyV (rdOf b p B)) ∧ Has w0 w' (rdr g bv (p + bdyZ B) :: F)) ∨ (b.length < p + bdyZ B ∧ e = .panicked [erl] ∧ ∃ q, Has w0 w' (rdr g bv q :: F))
theorem wrap8 (n : Nat) (h : n < 256) : IntKind.u8.wrap (n : Int) = ((UInt8.ofNat n).toNat : Int) := by rw [IntKind.wrap_u8, UInt8.toNat_ofNat']; omega
theorem wrap32 (n : Nat) (h : n < 4294967296) : IntKind.u32.wrap (n : Int) = ((UInt32.ofNat n).toNat : Int) := by rw [IntKind.wrap_u32, UInt32.toNat_ofNat']; omega
set_option maxRecDepth 100000 in
set_option maxHeartbeats 4000000 in
theorem pairRead_s (v : Value) (cs : Array Value) (hv : v = .agg cs) (g : Nat) (bv : Value) (b : List UInt8) (p : Nat) (w0 w1 : World) (F : List Res) (S : Has w0 w1 (rdr g bv p :: F)) (hb : Bs w0 bv b) (hp : p ≤ b.length) (hl : b.length ≤ 140737488355328) :
    Calls Tryd.prog 128 #[v, .pointer (some ⟨g, 0, none⟩)] w1 fun e w' =>
      (p + 2 ≤ b.length ∧ e = .returned (bdyV (.pair (UInt8.ofNat (atB b p 1)) (UInt8.ofNat (atB b (p + 1) 1)))) ∧ Has w0 w' (rdr g bv (p + 2) :: F)) ∨ (b.length < p + 2 ∧ e = .panicked [erl] ∧ ∃ q, Has w0 w' (rdr g bv q :: F)) := by
  subst hv
  have p1 := fun w F S => ruint_i 1 1 rfl g bv b p w0 w F S hb (by decide) (by decide) hp hl
  have p2 := fun w F S h => ruint_i 1 1 rfl g bv b (p + 1) w0 w F S hb (by decide) (by decide) h hl
  have e1 := wrap8 (atB b p 1) (atB_lt b p 1)
  have e2 := wrap8 (atB b (p + 1) 1) (atB_lt b (p + 1) 1)
  have HB := Lib.hid hb; have P1 := Lib.hid p1; have P2 := Lib.hid p2; have E1 := Lib.hid e1; have E2 := Lib.hid e2; clear hb p1 p2 e1 e2
  go_enter Tryd.func128, Tryd.ntmps128
  go_wp2_with (first | (go_at_call 61; (with_reducible refine (P1.out _ _ (S.pick pk)).mono ?_); rintro e w1 (⟨hf, rfl, S1⟩ | ⟨hf, rfl, S1⟩); rotate_left; exact ⟨rfl, .inr ⟨by omega, rfl, _, S1.drop (Pick.tail (Pick.head _ _))⟩⟩; clear S; have S := S1; clear S1; have _t := P1; clear P1) | (go_at_call 61; (with_reducible refine (P2.out _ _ (S.pick pk) hf).mono ?_); rintro e w1 (⟨hf2, rfl, S1⟩ | ⟨hf2, rfl, S1⟩); rotate_left; exact ⟨rfl, .inr ⟨by omega, rfl, _, S1.drop (Pick.tail (Pick.head _ _))⟩⟩; clear S; have S := S1; clear S1) | ((with_reducible refine iD 2 (.box 148 (.tmp 0)) ?_); refine step_boxA (dst := some 2) S 148 (.tmp 0) _ rfl rfl ?_; clear S; intro g2 w S) | fail)
  go_ret
  refine .inl ⟨hf2, ?_, S.drop (Pick.tail (Pick.head _ _))⟩
  show _ = Ending.returned (.iface _ (.agg #[.int .u8 _, .int .u8 _]))
  rw [← E1.out, ← E2.out]
  rfl
set_option maxRecDepth 100000 in
set_option maxHeartbeats 4000000 in
theorem shortRead_s (v : Value) (g : Nat) (bv : Value) (b : List UInt8) (p : Nat) (w0 w1 : World) (F : List Res) (S : Has w0 w1 (rdr g bv p :: F)) (hb : Bs w0 bv b) (hp : p ≤ b.length) (hl : b.length ≤ 140737488355328) :
    Calls Tryd.prog 131 #[v, .pointer (some ⟨g, 0, none⟩)] w1 fun e w' =>
      (p + 2 ≤ b.length ∧ e = .returned (bdyV (.short (UInt32.ofNat (atB b p 2)))) ∧ Has w0 w' (rdr g bv (p + 2) :: F)) ∨ (b.length < p + 2 ∧ e = .panicked [erl] ∧ ∃ q, Has w0 w' (rdr g bv q :: F)) := by
  have p1 := fun w F S => ruint_i 2 2 rfl g bv b p w0 w F S hb (by decide) (by decide) hp hl
  have e1 := wrap32 (atB b p 2) (Nat.lt_of_lt_of_le (atB_lt b p 2) (by decide))
  have HB := Lib.hid hb; have P1 := Lib.hid p1; have E1 := Lib.hid e1; clear hb p1 e1
  go_enter Tryd.func131, Tryd.ntmps131
  go_wp2_with (first | (go_at_call 61; (with_reducible refine (P1.out _ _ (S.pick pk)).mono ?_); rintro e w1 (⟨hf, rfl, S1⟩ | ⟨hf, rfl, S1⟩); rotate_left; exact ⟨rfl, .inr ⟨by omega, rfl, _, S1⟩⟩; clear S; have S := S1; clear S1) | fail)
  go_ret
  refine .inl ⟨hf, ?_, S⟩
  show _ = Ending.returned (.iface _ (.int .u32 _))
  rw [← E1.out]
  rfl
set_option maxRecDepth 100000 in
set_option maxHeartbeats 4000000 in
theorem longRead_s (v : Value) (g : Nat) (bv : Value) (b : List UInt8) (p : Nat) (w0 w1 : World) (F : List Res) (S : Has w0 w1 (rdr g bv p :: F)) (hb : Bs w0 bv b) (hp : p ≤ b.length) (hl : b.length ≤ 140737488355328) :
    Calls Tryd.prog 134 #[v, .pointer (some ⟨g, 0, none⟩)] w1 fun e w' =>
      (p + 4 ≤ b.length ∧ e = .returned (bdyV (.long (UInt32.ofNat (atB b p 4)))) ∧ Has w0 w' (rdr g bv (p + 4) :: F)) ∨ (b.length < p + 4 ∧ e = .panicked [erl] ∧ ∃ q, Has w0 w' (rdr g bv q :: F)) := by
  have p1 := fun w F S => ruint_i 4 4 rfl g bv b p w0 w F S hb (by decide) (by decide) hp hl
  have e1 := wrap32 (atB b p 4) (Nat.lt_of_lt_of_le (atB_lt b p 4) (by decide))
  have HB := Lib.hid hb; have P1 := Lib.hid p1; have E1 := Lib.hid e1; clear hb p1 e1
  go_enter Tryd.func134, Tryd.ntmps134
  go_wp2_with (first | (go_at_call 61; (with_reducible refine (P1.out _ _ (S.pick pk)).mono ?_); rintro e w1 (⟨hf, rfl, S1⟩ | ⟨hf, rfl, S1⟩); rotate_left; exact ⟨rfl, .inr ⟨by omega, rfl, _, S1⟩⟩; clear S; have S := S1; clear S1) | fail)
  go_ret
  refine .inl ⟨hf, ?_, S⟩
  show _ = Ending.returned (.iface _ (.int .u32 _))
  rw [← E1.out]
  rfl
set_option maxRecDepth 100000 in
set_option maxHeartbeats 1000000 in
theorem nothingRead_s (v : Value) (cs : Array Value) (hv : v = .agg cs) (u : Value) (w0 w1 : World) (F : List Res) (S : Has w0 w1 F) :
    Calls Tryd.prog 137 #[v, u] w1 fun e w' => e = .returned (bdyV .none) ∧ Has w0 w' F := by
  subst hv
  have eb : ∀ w, (Instr.build 152 #[]).run Tryd.prog w = .ok (.agg #[]) w := fun w => by kernel_rfl
  go_enter Tryd.func137, Tryd.ntmps137
  go_wp2_with (first | ((with_reducible refine iD 2 (.box 152 (.tmp 0)) ?_); refine step_boxA (dst := some 2) S 152 (.tmp 0) _ rfl rfl ?_; clear S; intro g2 w S) | fail)
  go_ret
  exact ⟨rfl, S.tail⟩
set_option maxRecDepth 100000 in
set_option maxHeartbeats 1000000 in
theorem bdyValid_s (B : Bdy) (w0 : World) : ∃ f v, (callMethod (bdyV B) "dunnage/wire.valid" #[]).run Tryd.prog w0 = .ok (.enter f #[v]) w0 ∧ Calls Tryd.prog f #[v] w0 fun e w' => e = .returned (.bool (bdyOk B)) ∧ Has w0 w' [] := by
  have S := Has.start w0
  cases B with
  | none =>
    refine ⟨138, .agg #[], by kernel_rfl, ?_⟩
    go_enter Tryd.func138, Tryd.ntmps138
    go_wp2_with (first | ((with_reducible refine iD 1 (.box 152 (.tmp 0)) ?_); refine step_boxA (dst := some 1) S 152 (.tmp 0) _ rfl rfl ?_; clear S; intro g1 w S) | fail)
    go_ret
    exact ⟨rfl, S.nil⟩
  | pair p d =>
    refine ⟨129, .agg #[by8 p, by8 d], by kernel_rfl, ?_⟩
    go_enter Tryd.func129, Tryd.ntmps129
    go_wp2_with (first | ((with_reducible refine iD 1 (.box 148 (.tmp 0)) ?_); refine step_boxA (dst := some 1) S 148 (.tmp 0) _ rfl rfl ?_; clear S; intro g1 w S) | fail)
    go_ret
    exact ⟨rfl, S.nil⟩
  | short n =>
    refine ⟨132, .int .u32 (n.toNat : Int), by kernel_rfl, ?_⟩
    go_enter Tryd.func132, Tryd.ntmps132
    go_wp2_with (first | fail)
    go_ret
    refine ⟨?_, S.nil⟩
    show Ending.returned (.bool (decide ((n.toNat : Int) ≤ 65535))) = _
    have : decide ((n.toNat : Int) ≤ 65535) = decide (n.toNat ≤ 65535) := by rw [Bool.eq_iff_iff, decide_eq_true_eq, decide_eq_true_eq]; omega
    rw [this]
    rfl
  | long n =>
    refine ⟨135, .int .u32 (n.toNat : Int), by kernel_rfl, ?_⟩
    go_enter Tryd.func135, Tryd.ntmps135
    go_wp2_with (first | fail)
    go_ret
    exact ⟨rfl, S.nil⟩
end Go.Proofs.YtfhkmmagpnojmaaDoor

/- Bodies of requests: written, read through the interface; a request with a body; whether a request is valid. No condition but the reach. -/
namespace Go.Proofs.YtfhkmmagpnojmaaDoor
open Go.RowKit

set_option maxRecDepth 100000 in
set_option maxHeartbeats 4000000 in
theorem bdyWrite_s (B : Bdy) (g : Nat) (v : Value) (xs : List UInt8) (w0 w1 : World) (F : List Res) (S : Has w0 w1 (wrt g v :: row8 v xs :: F)) (hl : xs.length + 8 ≤ 140737488355328) :
    ∃ f rv, (callMethod (bdyV B) "dunnage/wire.write" #[.pointer (some ⟨g, 0, none⟩)]).run Tryd.prog w1 = .ok (.enter f #[rv, .pointer (some ⟨g, 0, none⟩)]) w1 ∧ Calls Tryd.prog f #[rv, .pointer (some ⟨g, 0, none⟩)] w1 (Wrote w0 g (xs ++ bdyB B) F) := by
  cases B with
  | none =>
    refine ⟨139, .agg #[], by kernel_rfl, ?_⟩
    go_enter Tryd.func139, Tryd.ntmps139
    go_wp2_with (first | ((with_reducible refine iD 2 (.box 152 (.tmp 0)) ?_); refine step_boxA (dst := some 2) S 152 (.tmp 0) _ rfl rfl ?_; clear S; intro g2 w S) | fail)
    go_end0
    exact ⟨rfl, v, by show Has w0 _ (_ :: row8 v (xs ++ []) :: F); rw [List.append_nil]; exact S.tail⟩
  | pair p d =>
    refine ⟨130, .agg #[by8 p, by8 d], by kernel_rfl, ?_⟩
    have hp := p.toNat_lt
    have hd := d.toNat_lt
    have p1 := fun v w F S => wuint_i (p.toNat : Int) p.toNat rfl 1 1 rfl g v xs w0 w F S (by omega) (by decide) (by omega)
    have p2 := fun v w F S => wuint_i (d.toNat : Int) d.toNat rfl 1 1 rfl g v (xs ++ numB p.toNat 1) w0 w F S (by omega) (by decide) (by rw [List.length_append, numB_length]; omega)
    have hB : xs ++ bdyB (.pair p d) = (xs ++ numB p.toNat 1) ++ numB d.toNat 1 := by rw [List.append_assoc]; rfl
    rw [hB]
    have P1 := Lib.hid p1; have P2 := Lib.hid p2; clear p1 p2
    clear hB
    go_enter Tryd.func130, Tryd.ntmps130
    go_wp2_with (first | (go_at_call 48; (with_reducible refine (P1.out v _ _ (S.pick2 (r := wrt g v) (s := row8 v xs) pk pk)).mono ?_); rintro e w1 ⟨rfl, v1, S1⟩; clear S; have S := S1; clear S1; have _t := P1; clear P1) | (go_at_call 48; (with_reducible refine (P2.out v1 _ _ (S.pick2 (r := wrt g v1) (s := row8 v1 _) pk pk)).mono ?_); rintro e w1 ⟨rfl, v2, S1⟩; clear S; have S := S1; clear S1) | ((with_reducible refine iD 2 (.box 148 (.tmp 0)) ?_); refine step_boxA (dst := some 2) S 148 (.tmp 0) _ rfl rfl ?_; clear S; intro g2 w S) | ((with_reducible refine iO _ (.load 5 _) ?_); refine step_load1 5 _ _ _ rfl (cL) _ Tryd.underlying5 rfl rfl ?_) | fail)
    go_end0
    exact ⟨rfl, v2, S.drop (Pick.tail (Pick.tail (Pick.head _ _)))⟩
  | short n =>
    refine ⟨133, .int .u32 (n.toNat : Int), by kernel_rfl, ?_⟩
    have hn := n.toNat_lt
    have p1 := fun v w F S => wuint_i (n.toNat : Int) n.toNat rfl 2 2 rfl g v xs w0 w F S (by omega) (by decide) (by omega)
    have P1 := Lib.hid p1; clear p1
    go_enter Tryd.func133, Tryd.ntmps133
    go_wp2_with (first | (go_at_call 48; (with_reducible refine (P1.out v _ _ S).mono ?_); rintro e w1 ⟨rfl, v1, S1⟩) | fail)
    go_end0
    exact ⟨rfl, v1, S1⟩
  | long n =>
    refine ⟨136, .int .u32 (n.toNat : Int), by kernel_rfl, ?_⟩
    have hn := n.toNat_lt
    have p1 := fun v w F S => wuint_i (n.toNat : Int) n.toNat rfl 4 4 rfl g v xs w0 w F S (by omega) (by decide) (by omega)
    have P1 := Lib.hid p1; clear p1
    go_enter Tryd.func136, Tryd.ntmps136
    go_wp2_with (first | (go_at_call 48; (with_reducible refine (P1.out v _ _ S).mono ?_); rintro e w1 ⟨rfl, v1, S1⟩) | fail)
    go_end0
    exact ⟨rfl, v1, S1⟩
theorem bdyRead_s (B : Bdy) (g : Nat) (bv : Value) (b : List UInt8) (p : Nat) (w0 w1 : World) (F : List Res) (S : Has w0 w1 (rdr g bv p :: F)) (hb : Bs w0 bv b) (hp : p ≤ b.length) (hl : b.length ≤ 140737488355328) :
    ∃ f rv, (callMethod (bdyV B) "dunnage/wire.read" #[.pointer (some ⟨g, 0, none⟩)]).run Tryd.prog w1 = .ok (.enter f #[rv, .pointer (some ⟨g, 0, none⟩)]) w1 ∧ Calls Tryd.prog f #[rv, .pointer (some ⟨g, 0, none⟩)] w1 (ReadY w0 g bv b p B F) := by
  cases B with
  | none => exact ⟨137, .agg #[], by kernel_rfl, (nothingRead_s _ _ rfl _ w0 w1 _ S).mono fun e w' h => .inl ⟨hp, h.1, h.2⟩⟩
  | pair x d => exact ⟨128, .agg #[by8 x, by8 d], by kernel_rfl, pairRead_s _ _ rfl g bv b p w0 w1 F S hb hp hl⟩
  | short n => exact ⟨131, .int .u32 (n.toNat : Int), by kernel_rfl, shortRead_s _ g bv b p w0 w1 F S hb hp hl⟩
  | long n => exact ⟨134, .int .u32 (n.toNat : Int), by kernel_rfl, longRead_s _ g bv b p w0 w1 F S hb hp hl⟩
theorem build_rq2v (k x y z u : Int) (d0 d1 d2 d3 d4 d5 d6 d7 d8 d9 d10 d11 d12 d13 d14 d15 d16 d17 d18 d19 d20 d21 d22 d23 d24 d25 d26 d27 d28 d29 d30 d31 : UInt8) (w : World) : (Instr.build 69 #[(0, Value.int .u8 k), (1, Value.agg ([Value.int .u8 x, .int .u8 y, .int .u64 z, .int .u32 u] ++ [d0, d1, d2, d3, d4, d5, d6, d7, d8, d9, d10, d11, d12, d13, d14, d15, d16, d17, d18, d19, d20, d21, d22, d23, d24, d25, d26, d27, d28, d29, d30, d31].map by8).toArray)]).run Tryd.prog w = .ok (.agg ([Value.int .u8 k] ++ ([Value.int .u8 x, .int .u8 y, .int .u64 z, .int .u32 u] ++ [d0, d1, d2, d3, d4, d5, d6, d7, d8, d9, d10, d11, d12, d13, d14, d15, d16, d17, d18, d19, d20, d21, d22, d23, d24, d25, d26, d27, d28, d29, d30, d31].map by8) ++ [Value.int .u8 0, .int .u8 0, .int .u32 0]).toArray) w := by kernel_rfl
theorem build_rq2 (k x y z u : Int) (D : List UInt8) (hD : D.length = 32) (w : World) : (Instr.build 69 #[(0, Value.int .u8 k), (1, Value.agg ([Value.int .u8 x, .int .u8 y, .int .u64 z, .int .u32 u] ++ D.map by8).toArray)]).run Tryd.prog w = .ok (.agg ([Value.int .u8 k] ++ ([Value.int .u8 x, .int .u8 y, .int .u64 z, .int .u32 u] ++ D.map by8) ++ [Value.int .u8 0, .int .u8 0, .int .u32 0]).toArray) w :=
  match D, hD with
  | [d0, d1, d2, d3, d4, d5, d6, d7, d8, d9, d10, d11, d12, d13, d14, d15, d16, d17, d18, d19, d20, d21, d22, d23, d24, d25, d26, d27, d28, d29, d30, d31], _ => build_rq2v k x y z u d0 d1 d2 d3 d4 d5 d6 d7 d8 d9 d10 d11 d12 d13 d14 d15 d16 d17 d18 d19 d20 d21 d22 d23 d24 d25 d26 d27 d28 d29 d30 d31 w
set_option maxRecDepth 100000 in
/-- A request with a kind and a token. -/
theorem step_buildRq2 {ops : Array Oper} {rest : List Oper} {a : Act} {w : World} {Q : Exit → Act → World → Prop} {dst : Option Tmp} {ty : TypeId} {pos : String} {after : Array Edge} {gd : Option (Nat × Bool)} (x y : Operand) (k : UInt8) (t : Tok)
    (hx : a.eval x = by8 k) (hy : a.eval y = .agg (tokL t).toArray)
    (hw : Region.wanted ⟨dst, .build 69 #[(0, x), (1, y)], ty, pos, after, gd⟩ (yielded ops a.tmps) = true)
    (h : wpList Tryd.prog ops Q rest (a.put dst (.agg (rqL ⟨k, t, 0, 0, 0⟩).toArray)) w) : wpList Tryd.prog ops Q (⟨dst, .build 69 #[(0, x), (1, y)], ty, pos, after, gd⟩ :: rest) a w := by
  refine step_val (v := .agg (rqL ⟨k, t, 0, 0, 0⟩).toArray) hw ?_ h
  have hp : (#[(0, x), (1, y)].map fun (i, x) => (i, a.eval x)) = #[(0, .int .u8 (k.toNat : Int)), (1, Value.agg ([Value.int .u8 (t.tenant.toNat : Int), .int .u8 (t.role.toNat : Int), .int .u64 (t.expiry.toNat : Int), .int .u32 (t.serial.toNat : Int)] ++ t.tag.map by8).toArray)] := by simp [hx, hy, tokL]
  have := build_rq2 k.toNat t.tenant.toNat t.role.toNat t.expiry.toNat t.serial.toNat t.tag t.len w
  simp only [execOp, hp, Sem.run_bind, this, Result.andThen_ok, Sem.run_pure]
  rfl
theorem rqL_set (r : Rq) (i : Nat) (v : Value) (xs : List Value) (h : [Value.int .u8 (r.pick.toNat : Int), .int .u8 (r.drop.toNat : Int), .int .u32 (r.number.toNat : Int)].set i v = xs) : (rqL r).toArray.setIfInBounds (37 + i) v = ([Value.int .u8 (r.kind.toNat : Int)] ++ tokL r.tok ++ xs).toArray := by
  subst h
  unfold rqL
  rw [List.setIfInBounds_toArray, List.set_append_right _ _ (by simp [tokL_length]), show 37 + i - ([Value.int .u8 (r.kind.toNat : Int)] ++ tokL r.tok).length = i by simp [tokL_length]]
theorem rqL_set37 (k : UInt8) (t : Tok) (p d x : UInt8) (n : UInt32) : (rqL ⟨k, t, p, d, n⟩).toArray.setIfInBounds 37 (by8 x) = (rqL ⟨k, t, x, d, n⟩).toArray := rqL_set _ 0 _ _ rfl
theorem rqL_set38 (k : UInt8) (t : Tok) (p d x : UInt8) (n : UInt32) : (rqL ⟨k, t, p, d, n⟩).toArray.setIfInBounds 38 (by8 x) = (rqL ⟨k, t, p, x, n⟩).toArray := rqL_set _ 1 _ _ rfl
theorem rqL_set39 (k : UInt8) (t : Tok) (p d : UInt8) (n m : UInt32) : (rqL ⟨k, t, p, d, n⟩).toArray.setIfInBounds 39 (.int .u32 (m.toNat : Int)) = (rqL ⟨k, t, p, d, m⟩).toArray := rqL_set _ 2 _ _ rfl
theorem rqL_set0 (k : UInt8) (t : Tok) (p d x : UInt8) (n : UInt32) : (rqL ⟨k, t, p, d, n⟩).toArray.setIfInBounds 0 (by8 x) = (rqL ⟨x, t, p, d, n⟩).toArray := rfl
set_option maxRecDepth 100000 in
set_option maxHeartbeats 4000000 in
theorem requestOf_s (k : UInt8) (t : Tok) (B : Bdy) (w0 : World) : Calls Tryd.prog 64 #[by8 k, .agg (tokL t).toArray, bdyV B] w0 fun e w' => e = .returned (.agg (rqL (ofB k t B)).toArray) ∧ Has w0 w' [] := by
  have S := Has.start w0
  cases B with
  | none =>
    have t1 : ∀ w, (Instr.typeAssert (bdyV .none) 117 148 true).run Tryd.prog w = .ok (.tuple #[.agg #[.int .u8 0, .int .u8 0], .bool false]) w := fun w => by kernel_rfl
    have t2 : ∀ w, (Instr.typeAssert (bdyV .none) 117 149 true).run Tryd.prog w = .ok (.tuple #[.int .u32 0, .bool false]) w := fun w => by kernel_rfl
    have t3 : ∀ w, (Instr.typeAssert (bdyV .none) 117 150 true).run Tryd.prog w = .ok (.tuple #[.int .u32 0, .bool false]) w := fun w => by kernel_rfl
    go_enter Tryd.func64, Tryd.ntmps64
    go_wp2_with (first | ((with_reducible refine iD 13 (.build 69 _) ?_); refine step_buildRq2 (.tmp 11) (.tmp 12) k t rfl rfl gw ?_) | ((with_reducible refine iD 4 (.box 67 (.tmp 1)) ?_); refine step_boxA (dst := some 4) S 67 (.tmp 1) _ rfl rfl ?_; clear S; intro g4 w S) | ((with_reducible refine iD 6 (.alloc 69) ?_); refine step_alloc (dst := some 6) S 69 (.agg ((rqL rqZ).toArray)) ((rqL rqZ).toArray) kR rfl rfl ?_; clear S; intro g6 w S) | ((with_reducible refine iO _ (.load 67 _) ?_); first | (refine step_load S 67 _ _ rfl _ _ _ pk _ Tryd.underlying67 rfl 36 kR lN rfl ?_) | (refine step_loadO 67 _ _ rfl _ _ _ (S.old_heap (Hid.out (by assumption))) _ Tryd.underlying67 rfl 36 kR lN rfl ?_) | (refine step_loadR 67 _ _ _ rfl _ (S.old_range hy) _ Tryd.underlying67 rfl 36 kR lN _ rfl rfl ?_)) | ((with_reducible refine iD 7 (.alloc 69) ?_); refine step_alloc (dst := some 7) S 69 (.agg ((rqL rqZ).toArray)) ((rqL rqZ).toArray) kR rfl rfl ?_; clear S; intro g7 w S) | ((with_reducible refine iO none (.store 69 (.tmp 7) (.tmp 13)) ?_); refine step_store S 69 (.tmp 7) (.tmp 13) _ _ rfl rfl _ _ pk 40 kR lN lN on1 rfl ?_; clear S; intro w S) | ((with_reducible refine iO _ (.load 69 _) ?_); first | (refine step_load S 69 _ _ rfl _ _ _ pk _ Tryd.underlying69 rfl 40 kR lN rfl ?_) | (refine step_loadO 69 _ _ rfl _ _ _ (S.old_heap (Hid.out (by assumption))) _ Tryd.underlying69 rfl 40 kR lN rfl ?_) | (refine step_loadR 69 _ _ _ rfl _ (S.old_range hy) _ Tryd.underlying69 rfl 40 kR lN _ rfl rfl ?_)) | ((with_reducible refine iO none (.store 69 (.tmp 6) (.tmp 34)) ?_); refine step_store S 69 (.tmp 6) (.tmp 34) _ _ rfl rfl _ _ pk 40 kR lN lN on1 rfl ?_; clear S; intro w S) | fail)
    refine ret_row rfl g6 69 _ (S.get pk) _ Tryd.underlying69 40 kR lN rfl rfl rfl ?_
    exact ⟨rfl, S.nil⟩
  | pair x d =>
    have t1 : ∀ w, (Instr.typeAssert (bdyV (.pair x d)) 117 148 true).run Tryd.prog w = .ok (.tuple #[.agg #[by8 x, by8 d], .bool true]) w := fun w => by kernel_rfl
    go_enter Tryd.func64, Tryd.ntmps64
    go_wp2_with (first | ((with_reducible refine iD 13 (.build 69 _) ?_); refine step_buildRq2 (.tmp 11) (.tmp 12) k t rfl rfl gw ?_) | ((with_reducible refine iD 4 (.box 67 (.tmp 1)) ?_); refine step_boxA (dst := some 4) S 67 (.tmp 1) _ rfl rfl ?_; clear S; intro g4 w S) | ((with_reducible refine iD 6 (.alloc 69) ?_); refine step_alloc (dst := some 6) S 69 (.agg ((rqL rqZ).toArray)) ((rqL rqZ).toArray) kR rfl rfl ?_; clear S; intro g6 w S) | ((with_reducible refine iO _ (.load 67 _) ?_); first | (refine step_load S 67 _ _ rfl _ _ _ pk _ Tryd.underlying67 rfl 36 kR lN rfl ?_) | (refine step_loadO 67 _ _ rfl _ _ _ (S.old_heap (Hid.out (by assumption))) _ Tryd.underlying67 rfl 36 kR lN rfl ?_) | (refine step_loadR 67 _ _ _ rfl _ (S.old_range hy) _ Tryd.underlying67 rfl 36 kR lN _ rfl rfl ?_)) | ((with_reducible refine iD 7 (.alloc 69) ?_); refine step_alloc (dst := some 7) S 69 (.agg ((rqL rqZ).toArray)) ((rqL rqZ).toArray) kR rfl rfl ?_; clear S; intro g7 w S) | ((with_reducible refine iO none (.store 69 (.tmp 7) (.tmp 13)) ?_); refine step_store S 69 (.tmp 7) (.tmp 13) _ _ rfl rfl _ _ pk 40 kR lN lN on1 rfl ?_; clear S; intro w S) | ((with_reducible refine iD 8 (.alloc 148) ?_); refine step_alloc (dst := some 8) S 148 (.agg (#[.int .u8 0, .int .u8 0])) (#[.int .u8 0, .int .u8 0]) kR rfl rfl ?_; clear S; intro g8 w S) | ((with_reducible refine iO none (.store 148 (.tmp 8) (.tmp 17)) ?_); refine step_store S 148 (.tmp 8) (.tmp 17) _ _ rfl rfl _ _ pk 2 kR lN lN on1 rfl ?_; clear S; intro w S) | fail)
    have S := S.pick (r := blk g7 _) pk
    refine wp_relyW (e1 := noRes) 5 (S.pick (r := blk g7 _) pk) [sv [] (.pointer (some ⟨g8, 0, none⟩)), sv [0] (by8 x), sv [] (.pointer (some ⟨g8, 1, none⟩)), sv [2] (by8 d), sv [0, 1] (.pointer (some ⟨g7, 37, none⟩)), ⟨[0, 1, 4], [], [], fun _ v => True, fun _ v => [blk g7 (.cells (rqL ⟨k, t, x, 0, 0⟩).toArray 69 (0, 0))]⟩, sv [0, 1, 2, 3, 4, 5] (.pointer (some ⟨g7, 38, none⟩)), ⟨[0, 1, 2, 3, 4, 5, 6], [5], [], fun _ v => True, fun _ v => [blk g7 (.cells (rqL ⟨k, t, x, d, 0⟩).toArray 69 (0, 0))]⟩] ?A1 ?hA1 kR kR kR [0, 1, 2, 3, 4, 6, 7] kR (of_decide_eq_true rfl) ?hok1 ?fin1
    case hA1 => intro u; simp only [putAll, List.length_cons, List.length_nil, Nat.zero_add, Nat.reduceAdd, dstAt, List.getElem?_toArray, List.getElem?_cons_zero, List.getElem?_cons_succ, Option.bind_some, Act.put, List.setIfInBounds_toArray, List.set_cons_zero, List.set_cons_succ]; rfl
    case hok1 =>
      intro i hi
      obtain rfl | rfl | rfl | rfl | rfl | rfl | rfl | rfl : i = 0 ∨ i = 1 ∨ i = 2 ∨ i = 3 ∨ i = 4 ∨ i = 5 ∨ i = 6 ∨ i = 7 := by simp only [List.length_cons, List.length_nil, Nat.zero_add, Nat.reduceAdd] at hi; omega
      · rw [if_neg (by decide)]; intro r0; exact oP []
      · clear hi
        rw [if_neg (by decide)]; intro r0
        refine step_of rfl rfl rfl ?_
        intro u G w hf S
        have f0 : u 0 = .pointer (some ⟨g8, 0, none⟩) := hf 0 (by simp)
        simp only [fl, z4, z5, z6, z7, ptrBlk] at S ⊢
        simp only [f0]
        refine does_load1 5 (.tmp 18) _ _ rfl (S.cell (g := g8) pk co) _ Tryd.underlying5 rfl ?_; exact ⟨rfl, S⟩
      · rw [if_neg (by decide)]; intro r0; exact oP []
      · clear hi
        rw [if_neg (by decide)]; intro r0
        refine step_of rfl rfl rfl ?_
        intro u G w hf S
        have f2 : u 2 = .pointer (some ⟨g8, 1, none⟩) := hf 2 (by simp)
        simp only [fl, z4, z5, z6, z7, ptrBlk] at S ⊢
        simp only [f2]
        refine does_load1 5 (.tmp 20) _ _ rfl (S.cell (g := g8) pk co) _ Tryd.underlying5 rfl ?_; exact ⟨rfl, S⟩
      · rw [if_neg (by decide)]; intro r0; exact oP []
      · clear hi
        rw [if_pos rfl]
        refine step_ofW rfl rfl rfl ?_
        intro u G w hf S
        have f1 : u 1 = by8 x := hf 1 (by simp)
        have f4 : u 4 = .pointer (some ⟨g7, 37, none⟩) := hf 4 (by simp)
        simp only [fl, z4, z5, z6, z7, ptrBlk] at S ⊢
        simp only [f1, f4]
        refine does_store1 S 5 (.tmp 22) (.tmp 19) 37 (by8 x) rfl rfl kR rfl rfl (by rw [rqL_size]; decide) ?_; intro w1 S; rw [rqL_set37] at S; exact ⟨trivial, S.taken1⟩
      · rw [if_neg (by decide)]; intro r0; exact oP []
      · clear hi
        rw [if_neg (by decide)]; intro r0
        refine step_of rfl rfl rfl ?_
        intro u G w hf S
        have f3 : u 3 = by8 d := hf 3 (by simp)
        have f6 : u 6 = .pointer (some ⟨g7, 38, none⟩) := hf 6 (by simp)
        simp only [fl, z4, z5, z6, z7, ptrBlk] at S ⊢
        simp only [f3, f6] at S ⊢
        try simp only [ptrBlk] at S
        refine does_store1 S 5 (.tmp 23) (.tmp 21) 38 (by8 d) rfl rfl kR rfl rfl (by rw [rqL_size]; decide) ?_; intro w1 S; rw [rqL_set38] at S; exact ⟨trivial, S⟩
    case fin1 =>
      intro u w hf S
      have hvA := allV hf
      simp only [AllV, RSpec.valAt, sv, Nat.zero_add, Nat.reduceAdd] at hvA
      simp only [fl, z4, z5, z6, z7, ptrBlk] at S
      clear hf
      simp only [List.length_cons, List.length_nil, Nat.zero_add, Nat.reduceAdd, List.drop_succ_cons, List.drop_zero, hvA]
      try simp only [hvA, ptrBlk] at S
      clear hvA
      go_wp2_with (first | ((with_reducible refine iO _ (.load 69 _) ?_); first | (refine step_load S 69 _ _ rfl _ _ _ pk _ Tryd.underlying69 rfl 40 kR lN rfl ?_) | (refine step_loadO 69 _ _ rfl _ _ _ (S.old_heap (Hid.out (by assumption))) _ Tryd.underlying69 rfl 40 kR lN rfl ?_) | (refine step_loadR 69 _ _ _ rfl _ (S.old_range hy) _ Tryd.underlying69 rfl 40 kR lN _ rfl rfl ?_)) | ((with_reducible refine iO none (.store 69 (.tmp 6) (.tmp 34)) ?_); refine step_store S 69 (.tmp 6) (.tmp 34) _ _ rfl rfl _ _ pk 40 kR lN lN on1 rfl ?_; clear S; intro w S) | fail)
      refine ret_row rfl g6 69 _ (S.get pk) _ Tryd.underlying69 40 kR lN rfl rfl rfl ?_
      exact ⟨rfl, S.nil⟩
  | short n =>
    have t1 : ∀ w, (Instr.typeAssert (bdyV (.short n)) 117 148 true).run Tryd.prog w = .ok (.tuple #[.agg #[.int .u8 0, .int .u8 0], .bool false]) w := fun w => by kernel_rfl
    have t2 : ∀ w, (Instr.typeAssert (bdyV (.short n)) 117 149 true).run Tryd.prog w = .ok (.tuple #[.int .u32 (n.toNat : Int), .bool true]) w := fun w => by kernel_rfl
    go_enter Tryd.func64, Tryd.ntmps64
    go_wp2_with (first | ((with_reducible refine iD 13 (.build 69 _) ?_); refine step_buildRq2 (.tmp 11) (.tmp 12) k t rfl rfl gw ?_) | ((with_reducible refine iO none (.store 38 (.tmp 28) (.tmp 27)) ?_); refine step_store1 S 38 (.tmp 28) (.tmp 27) g7 39 (.int .u32 (n.toNat : Int)) rfl rfl _ _ pk kR rfl rfl (by rw [rqL_size]; decide) gw ?_; clear S; intro w S; rw [rqL_set39] at S) | ((with_reducible refine iD 4 (.box 67 (.tmp 1)) ?_); refine step_boxA (dst := some 4) S 67 (.tmp 1) _ rfl rfl ?_; clear S; intro g4 w S) | ((with_reducible refine iD 6 (.alloc 69) ?_); refine step_alloc (dst := some 6) S 69 (.agg ((rqL rqZ).toArray)) ((rqL rqZ).toArray) kR rfl rfl ?_; clear S; intro g6 w S) | ((with_reducible refine iO _ (.load 67 _) ?_); first | (refine step_load S 67 _ _ rfl _ _ _ pk _ Tryd.underlying67 rfl 36 kR lN rfl ?_) | (refine step_loadO 67 _ _ rfl _ _ _ (S.old_heap (Hid.out (by assumption))) _ Tryd.underlying67 rfl 36 kR lN rfl ?_) | (refine step_loadR 67 _ _ _ rfl _ (S.old_range hy) _ Tryd.underlying67 rfl 36 kR lN _ rfl rfl ?_)) | ((with_reducible refine iD 7 (.alloc 69) ?_); refine step_alloc (dst := some 7) S 69 (.agg ((rqL rqZ).toArray)) ((rqL rqZ).toArray) kR rfl rfl ?_; clear S; intro g7 w S) | ((with_reducible refine iO none (.store 69 (.tmp 7) (.tmp 13)) ?_); refine step_store S 69 (.tmp 7) (.tmp 13) _ _ rfl rfl _ _ pk 40 kR lN lN on1 rfl ?_; clear S; intro w S) | ((with_reducible refine iO _ (.load 69 _) ?_); first | (refine step_load S 69 _ _ rfl _ _ _ pk _ Tryd.underlying69 rfl 40 kR lN rfl ?_) | (refine step_loadO 69 _ _ rfl _ _ _ (S.old_heap (Hid.out (by assumption))) _ Tryd.underlying69 rfl 40 kR lN rfl ?_) | (refine step_loadR 69 _ _ _ rfl _ (S.old_range hy) _ Tryd.underlying69 rfl 40 kR lN _ rfl rfl ?_)) | ((with_reducible refine iO none (.store 69 (.tmp 6) (.tmp 34)) ?_); refine step_store S 69 (.tmp 6) (.tmp 34) _ _ rfl rfl _ _ pk 40 kR lN lN on1 rfl ?_; clear S; intro w S) | fail)
    refine ret_row rfl g6 69 _ (S.get pk) _ Tryd.underlying69 40 kR lN rfl rfl rfl ?_
    exact ⟨rfl, S.nil⟩
  | long n =>
    have t1 : ∀ w, (Instr.typeAssert (bdyV (.long n)) 117 148 true).run Tryd.prog w = .ok (.tuple #[.agg #[.int .u8 0, .int .u8 0], .bool false]) w := fun w => by kernel_rfl
    have t2 : ∀ w, (Instr.typeAssert (bdyV (.long n)) 117 149 true).run Tryd.prog w = .ok (.tuple #[.int .u32 0, .bool false]) w := fun w => by kernel_rfl
    have t3 : ∀ w, (Instr.typeAssert (bdyV (.long n)) 117 150 true).run Tryd.prog w = .ok (.tuple #[.int .u32 (n.toNat : Int), .bool true]) w := fun w => by kernel_rfl
    go_enter Tryd.func64, Tryd.ntmps64
    go_wp2_with (first | ((with_reducible refine iD 13 (.build 69 _) ?_); refine step_buildRq2 (.tmp 11) (.tmp 12) k t rfl rfl gw ?_) | ((with_reducible refine iO none (.store 38 (.tmp 33) (.tmp 32)) ?_); refine step_store1 S 38 (.tmp 33) (.tmp 32) g7 39 (.int .u32 (n.toNat : Int)) rfl rfl _ _ pk kR rfl rfl (by rw [rqL_size]; decide) gw ?_; clear S; intro w S; rw [rqL_set39] at S) | ((with_reducible refine iD 4 (.box 67 (.tmp 1)) ?_); refine step_boxA (dst := some 4) S 67 (.tmp 1) _ rfl rfl ?_; clear S; intro g4 w S) | ((with_reducible refine iD 6 (.alloc 69) ?_); refine step_alloc (dst := some 6) S 69 (.agg ((rqL rqZ).toArray)) ((rqL rqZ).toArray) kR rfl rfl ?_; clear S; intro g6 w S) | ((with_reducible refine iO _ (.load 67 _) ?_); first | (refine step_load S 67 _ _ rfl _ _ _ pk _ Tryd.underlying67 rfl 36 kR lN rfl ?_) | (refine step_loadO 67 _ _ rfl _ _ _ (S.old_heap (Hid.out (by assumption))) _ Tryd.underlying67 rfl 36 kR lN rfl ?_) | (refine step_loadR 67 _ _ _ rfl _ (S.old_range hy) _ Tryd.underlying67 rfl 36 kR lN _ rfl rfl ?_)) | ((with_reducible refine iD 7 (.alloc 69) ?_); refine step_alloc (dst := some 7) S 69 (.agg ((rqL rqZ).toArray)) ((rqL rqZ).toArray) kR rfl rfl ?_; clear S; intro g7 w S) | ((with_reducible refine iO none (.store 69 (.tmp 7) (.tmp 13)) ?_); refine step_store S 69 (.tmp 7) (.tmp 13) _ _ rfl rfl _ _ pk 40 kR lN lN on1 rfl ?_; clear S; intro w S) | ((with_reducible refine iO _ (.load 69 _) ?_); first | (refine step_load S 69 _ _ rfl _ _ _ pk _ Tryd.underlying69 rfl 40 kR lN rfl ?_) | (refine step_loadO 69 _ _ rfl _ _ _ (S.old_heap (Hid.out (by assumption))) _ Tryd.underlying69 rfl 40 kR lN rfl ?_) | (refine step_loadR 69 _ _ _ rfl _ (S.old_range hy) _ Tryd.underlying69 rfl 40 kR lN _ rfl rfl ?_)) | ((with_reducible refine iO none (.store 69 (.tmp 6) (.tmp 34)) ?_); refine step_store S 69 (.tmp 6) (.tmp 34) _ _ rfl rfl _ _ pk 40 kR lN lN on1 rfl ?_; clear S; intro w S) | fail)
    refine ret_row rfl g6 69 _ (S.get pk) _ Tryd.underlying69 40 kR lN rfl rfl rfl ?_
    exact ⟨rfl, S.nil⟩
end Go.Proofs.YtfhkmmagpnojmaaDoor
