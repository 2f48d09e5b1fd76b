/- Several texts under one header: what the claim needs of SmF, RelyC, RpB. No condition but those that each names. -/
import Derived.Test.YtfhkmmagpnojmaaDoorYE1
import Derived.Test.YtfhkmmagpnojmaaDoorYE5
set_option linter.unusedSimpArgs false
set_option linter.unusedVariables false

/- Are two lists of pieces the same? No condition but the reach. -/
namespace Go.Proofs.YtfhkmmagpnojmaaDoor
open Go.RowKit

theorem strB_eqb (x y : List UInt8) : ((strB x).toList == (strB y).toList) = decide (x = y) := by
  rw [ByteArray.toList_eq, ByteArray.toList_eq, strB_list, strB_list, Bool.eq_iff_iff, beq_iff_eq, decide_eq_true_eq]
set_option maxRecDepth 100000 in
set_option maxHeartbeats 2000000 in
theorem sameF_s (v1 v2 : Value) (ps qs : List (Value × List UInt8)) (w0 : World) (h1 : Fr w0 v1 ps) (h2 : Fr w0 v2 qs) :
    Calls Tryd.prog 31 #[v1, v2] w0 fun e w' => e = .returned (.bool (decide (ps.map (·.2) = qs.map (·.2)))) ∧ Has w0 w' [] := by
  have S := Has.start w0
  obtain ⟨a1, c1, rfl, k1, k2⟩ := Sl.shape h1.1
  obtain ⟨a2, c2, rfl, k3, k4⟩ := Sl.shape h2.1
  unfold maxLen at k2 k4
  by_cases hl : ps.length = qs.length
  case neg =>
    rw [decide_eq_false (fun e => hl (by have := congrArg List.length e; simpa using this))]
    have i1 : ((ps.length : Int) != (qs.length : Int)) = true := by rw [bne_iff_ne]; omega
    have H1 := Lib.hid h1; have H2 := Lib.hid h2; clear h1 h2
    clear hl
    go_enter Tryd.func31, Tryd.ntmps31
    go_wp2
    go_ret
    exact ⟨rfl, S⟩
  have i1 : ((ps.length : Int) != (qs.length : Int)) = false := by rw [bne_eq_false_iff_eq]; omega
  have H1 := Lib.hid h1; have H2 := Lib.hid h2; have HL := Lib.hid hl; clear h1 h2 hl
  go_enter Tryd.func31, Tryd.ntmps31
  go_wp2
  go_loopw [5] (fun t wr => ∃ (k : Nat), k ≤ ps.length ∧ t = .int .i64 (k : Int) ∧ (ps.take k).map (·.2) = (qs.take k).map (·.2) ∧ Has w0 wr []) (fun t _ => ps.length - (intOf t).toNat)
  case atStart => exact ⟨0, Nat.zero_le _, rfl, rfl, S⟩
  case round =>
    obtain ⟨k, hk, rfl, heq, S⟩ := hrel
    by_cases hlt : k < ps.length
    · have hlq : k < qs.length := by have := HL.out; omega
      obtain ⟨b1, off1, rfl, hcell1⟩ := H1.out.1.atA (by omega)
      obtain ⟨b2, off2, rfl, hcell2⟩ := H2.out.1.atA (by omega)
      obtain ⟨x, hx⟩ : ∃ x, x = ps[k] := ⟨_, rfl⟩
      obtain ⟨y, hy⟩ : ∃ y, y = qs[k] := ⟨_, rfl⟩
      have hc1 := hcell1 k x.1 (by simp [hx, hlt])
      have hc2 := hcell2 k y.1 (by simp [hy, hlq])
      have hb1 := H1.out.2 x (by rw [hx]; exact List.getElem_mem hlt)
      have hb2 := H2.out.2 y (by rw [hy]; exact List.getElem_mem hlq)
      have hs1 : (ps.take (k + 1)).map (·.2) = (ps.take k).map (·.2) ++ [x.2] := by rw [List.take_succ_eq_append_getElem hlt, List.map_append, hx]; rfl
      have hs2 : (qs.take (k + 1)).map (·.2) = (qs.take k).map (·.2) ++ [y.2] := by rw [List.take_succ_eq_append_getElem hlq, List.map_append, hy]; rfl
      have hd : x.2 ≠ y.2 → ps.map (·.2) ≠ qs.map (·.2) := fun hn e => hn (by
        have := congrArg (fun l => l[k]?) e
        simpa [hlt, hlq, hx, hy] using this)
      obtain ⟨x1, x2⟩ := x
      obtain ⟨y1, y2⟩ := y
      dsimp only at hc1 hc2 hb1 hb2 hs1 hs2 hd
      have hl2 : (k : Int) < (ps.length : Int) := by omega
      have hl3 : (k : Int) < (qs.length : Int) := by omega
      have hne := strB_eqb x2 y2
      obtain ⟨d, hde⟩ : ∃ d, d = decide (x2 = y2) := ⟨_, rfl⟩
      rw [← hde] at hne
      have HC1 := Lib.hid hc1; have HC2 := Lib.hid hc2; have HB1 := Lib.hid hb1; have HB2 := Lib.hid hb2; have HS1 := Lib.hid hs1; have HS2 := Lib.hid hs2; have HD := Lib.hid hd; have HNE := Lib.hid hne; have HEQ := Lib.hid heq; have HDE := Lib.hid hde; clear hc1 hc2 hb1 hb2 hs1 hs2 hd hne heq hde
      clear hx hy hcell1 hcell2
      go_wp2_with (first | ((with_reducible refine iO _ (.load 25 _) ?_); refine step_load1 25 _ _ _ rfl (cL) _ Tryd.underlying25 rfl rfl ?_) | ((with_reducible refine iO _ (.convert 25 9 _) ?_); refine step_conv 25 9 5 _ _ _ rfl Tryd.underlying25 Tryd.underlying5 Tryd.underlying9 bS rfl ?_) | fail)
      refine wp_rely S [sv [] ((.slice (some ⟨b1, off1, none⟩) ps.length c1)), sv [] ((.int .i64 (k : Int))), sv [0, 1] (.pointer (some ⟨b1, off1 + k, none⟩)), sv [0, 1, 2] x1, sv [0, 1, 2, 3] (.string (strB x2)), sv [] ((.slice (some ⟨b2, off2, none⟩) qs.length c2)), sv [] ((.int .i64 (k : Int))), sv [5, 6] (.pointer (some ⟨b2, off2 + k, none⟩)), sv [5, 6, 7] y1, sv [5, 6, 7, 8] (.string (strB y2)), sv [0, 1, 2, 3, 4, 5, 6, 7, 8, 9] (.bool (!d))] ?A1 ?hA1 kR kR kR [0, 1, 2, 3, 4, 5, 6, 7, 8, 9, 10] kR ?hok1 ?fin1
      case hA1 => intro u; simp only [putAll, List.length_cons, List.length_nil, Nat.zero_add, Nat.reduceAdd, dstAt, List.getElem?_toArray, List.getElem?_cons_zero, List.getElem?_cons_succ, Option.bind_some, Act.put, List.setIfInBounds_toArray, List.set_cons_zero, List.set_cons_succ]; rfl
      case hok1 =>
        intro i hi
        obtain rfl | rfl | rfl | rfl | rfl | rfl | rfl | rfl | rfl | rfl | rfl : i = 0 ∨ i = 1 ∨ i = 2 ∨ i = 3 ∨ i = 4 ∨ i = 5 ∨ i = 6 ∨ i = 7 ∨ i = 8 ∨ i = 9 ∨ i = 10 := by simp only [List.length_cons, List.length_nil, Nat.zero_add, Nat.reduceAdd] at hi; omega
        · exact oP []
        · exact oP []
        · exact oP [0, 1]
        · clear hi
          refine step_of rfl rfl rfl ?_
          intro u G w hf S
          have f2 : u 2 = .pointer (some ⟨b1, off1 + k, none⟩) := hf 2 (by simp)
          simp only [fl, z4, z5, z6, z7, ptrBlk] at S ⊢
          simp only [f2]
          refine does_load1 25 (.tmp 19) _ _ rfl (S.old_cell hy) _ Tryd.underlying25 rfl ?_; exact ⟨rfl, S⟩
        · clear hi
          refine step_of rfl rfl rfl ?_
          intro u G w hf S
          have f3 : u 3 = x1 := hf 3 (by simp)
          simp only [fl, z4, z5, z6, z7, ptrBlk] at S ⊢
          simp only [f3]
          refine does_conv 25 9 5 (.tmp 20) _ _ rfl Tryd.underlying25 Tryd.underlying5 Tryd.underlying9 (S.oldB HB1.out) ?_; exact ⟨rfl, S⟩
        · exact oP []
        · exact oP []
        · exact oP [5, 6]
        · clear hi
          refine step_of rfl rfl rfl ?_
          intro u G w hf S
          have f7 : u 7 = .pointer (some ⟨b2, off2 + k, none⟩) := hf 7 (by simp)
          simp only [fl, z4, z5, z6, z7, ptrBlk] at S ⊢
          simp only [f7]
          refine does_load1 25 (.tmp 24) _ _ rfl (S.old_cell hy) _ Tryd.underlying25 rfl ?_; exact ⟨rfl, S⟩
        · clear hi
          refine step_of rfl rfl rfl ?_
          intro u G w hf S
          have f8 : u 8 = y1 := hf 8 (by simp)
          simp only [fl, z4, z5, z6, z7, ptrBlk] at S ⊢
          simp only [f8]
          refine does_conv 25 9 5 (.tmp 25) _ _ rfl Tryd.underlying25 Tryd.underlying5 Tryd.underlying9 (S.oldB HB2.out) ?_; exact ⟨rfl, S⟩
        · clear hi
          refine step_of rfl rfl rfl ?_
          intro u G w hf S
          have f4 : u 4 = .string (strB x2) := hf 4 (by simp)
          have f9 : u 9 = .string (strB y2) := hf 9 (by simp)
          simp only [fl, z4, z5, z6, z7, ptrBlk] at S ⊢
          simp only [f4, f9]
          simp only [does]; go_simp; first | (refine ⟨?_, S⟩; rw [HNE.out]) | (rw [HNE.out])
      case fin1 =>
        intro u w hf S
        have hvA := allV hf
        simp only [AllV, RSpec.valAt, sv, Nat.zero_add, Nat.reduceAdd] at hvA
        simp only [fl, z4, z5, z6, z7, ptrBlk] at S
        clear hf
        simp only [List.length_cons, List.length_nil, Nat.zero_add, Nat.reduceAdd, List.drop_succ_cons, List.drop_zero, hvA]
        clear hvA
        cases d
        · go_wp2_with (first | ((with_reducible refine iO _ (.load 25 _) ?_); refine step_load1 25 _ _ _ rfl (cL) _ Tryd.underlying25 rfl rfl ?_) | ((with_reducible refine iO _ (.convert 25 9 _) ?_); refine step_conv 25 9 5 _ _ _ rfl Tryd.underlying25 Tryd.underlying5 Tryd.underlying9 bS rfl ?_) | fail)
          go_ret
          exact ⟨by rw [decide_eq_false (HD.out (of_decide_eq_false HDE.out.symm))]; rfl, S⟩
        · go_wp2_with (first | ((with_reducible refine iO _ (.load 25 _) ?_); refine step_load1 25 _ _ _ rfl (cL) _ Tryd.underlying25 rfl rfl ?_) | ((with_reducible refine iO _ (.convert 25 9 _) ?_); refine step_conv 25 9 5 _ _ _ rfl Tryd.underlying25 Tryd.underlying5 Tryd.underlying9 bS rfl ?_) | fail)
          go_roundw
          case rel => exact ⟨k + 1, by omega, by go_num, by rw [HS1.out, HS2.out, HEQ.out, of_decide_eq_true HDE.out.symm], S⟩
          case measure => simp [intOf]; omega
    · obtain rfl : k = ps.length := by omega
      rw [List.take_length, HL.out, List.take_length] at heq
      have hl2 : ¬ (ps.length : Int) < (ps.length : Int) := by omega
      have HEQ := Lib.hid heq; clear heq
      go_wp2_with (first | ((with_reducible refine iO _ (.load 25 _) ?_); refine step_load1 25 _ _ _ rfl (cL) _ Tryd.underlying25 rfl rfl ?_) | ((with_reducible refine iO _ (.convert 25 9 _) ?_); refine step_conv 25 9 5 _ _ _ rfl Tryd.underlying25 Tryd.underlying5 Tryd.underlying9 bS rfl ?_) | fail)
      go_ret
      exact ⟨by rw [decide_eq_true HEQ.out]; rfl, S⟩
end Go.Proofs.YtfhkmmagpnojmaaDoor

/- A region that draws its order: an operation whose guard is shut; one that calls a function that may panic. No condition. -/
namespace Go.Proofs.YtfhkmmagpnojmaaDoor
open Go.RowKit

theorem step_of_x {P : Program} {ops : Array Oper} {sp : List RSpec} {w0 : World} {l : List Res} {A : (Nat → Value) → Act} {i : Nat} {o : Oper} {deps eats keeps : List Nat} {val : (Nat → Value) → Value → Prop} {res : (Nat → Value) → Value → List Res}
    (hs : spec sp i = ⟨deps, eats, keeps, val, res⟩) (ho : ops[i]? = some o)
    (h : ∀ (u : Nat → Value) (G : List Res) (w : World), (∀ j ∈ deps, (spec sp j).valAt u j) → Has w0 w (resOf sp u eats ++ (resOf sp u keeps ++ (l ++ G))) →
      Region.wanted o (yielded ops (A u).tmps) = false ∧ (val (mask deps u) undef ∧ Has w0 w (res (mask deps u) undef ++ (resOf sp u keeps ++ (l ++ G))))) : StepOK P ops sp w0 l A i := by
  unfold StepOK StepOK2
  rw [ho, hs]
  intro u G w hf S
  obtain ⟨h1, h2⟩ := h u G w hf S
  dsimp only
  rw [if_neg (by rw [h1]; decide)]
  exact h2
theorem doesB_fn {P : Program} {Bad : List PanicEntry → World → Prop} {a : Act} {w : World} {dst : Option Tmp} {ty : TypeId} {pos : String} {after : Array Edge} {guard : Option (Nat × Bool)} {f : FuncId} {fn : Func} {xs : List Operand} {ts : Array TypeId} {args : List Value} {R : Ending → World → Prop} {Post : Value → World → Prop}
    (hf : P.funcs[f]? = some fn) (hn : (fn.name == "runtime.NumGoroutine") = false) (hb : fn.body.isNone = false) (hc : Calls P f args.toArray w R) (hx : xs.map a.eval = args)
    (h : ∀ e w'', R e w'' → (∃ v, e = .returned v ∧ Post v w'') ∨ ∃ c, e = .panicked c ∧ Bad c w'') : doesB P Bad a.eval ⟨dst, .call { callee := .value (.func f), args := xs.toArray, argTypes := ts }, ty, pos, after, guard⟩ w Post :=
  doesB_call (run_fn hf hn hb hx) hc h
theorem need_x {P : Program} {ops : Array Oper} {sp : List RSpec} {w0 : World} {l : List Res} {A : (Nat → Value) → Act} {i : Nat} {o : Oper} {deps eats keeps n : List Nat} {val : (Nat → Value) → Value → Prop} {res : (Nat → Value) → Value → List Res}
    (hs : spec sp i = ⟨deps, eats, keeps, val, res⟩) (ho : ops[i]? = some o) (hn : n.all (fun j => deps.contains j) = true)
    (h : ∀ (u : Nat → Value) (G : List Res) (w : World), AllN sp u n → Has w0 w (resOf sp u eats ++ (resOf sp u keeps ++ (l ++ G))) →
      Region.wanted o (yielded ops (A u).tmps) = false ∧ (val (mask deps u) undef ∧ Has w0 w (res (mask deps u) undef ++ (resOf sp u keeps ++ (l ++ G))))) : Need n (StepOK P ops sp w0 l A i) :=
  step_of_x hs ho fun u G w hf S => h u G w (allN hf n hn) S
end Go.Proofs.YtfhkmmagpnojmaaDoor

/- The body of a reply: what replyBody returns, and replyOf. No condition but the reach. -/
namespace Go.Proofs.YtfhkmmagpnojmaaDoor
open Go.RowKit

abbrev nilV : Value := .slice none 0 0
/-- Which body a reply has. -/
inductive BK | n | o | s | w | c | t
def bk (r : Rp) : BK :=
  if r.code.v ≠ 0 then .n else if r.kind = 1 ∨ r.kind = 16 then .o else if r.kind = 3 then .s else if r.kind = 4 then .w else if r.kind = 5 then .c else if r.kind = 18 then .t else .n
/-- The body of a kind with the fields of a reply. -/
def bodyK (q : BK) (r : Rp) (vr vc : Value) : Value := match q with
  | .n => .iface 152 (.agg #[])
  | .o => .iface 160 (.int .i64 r.order.v)
  | .s => .iface 162 (.agg #[.int .u8 (r.state.toNat : Int), .int .u64 (r.done.toNat : Int)])
  | .w => .iface 164 (.agg #[vr, .int .i64 r.queued.v])
  | .c => .iface 108 (.agg #[.int .u32 (r.count.toNat : Int), vc])
  | .t => .iface 114 (.agg (tokL r.tok).toArray)
def bodyV (r : Rp) (vr vc : Value) : Value := bodyK (bk r) r vr vc
/-- A reply with the fixed fields of a reply and the fields of a body. -/
def usK (q : BK) (h r : Rp) : Rp := match q with
  | .n => rpH h.kind h.code h.tick
  | .o => { rpH h.kind h.code h.tick with order := r.order }
  | .s => { rpH h.kind h.code h.tick with state := r.state, done := r.done }
  | .w => { rpH h.kind h.code h.tick with robots := r.robots, queued := r.queued }
  | .c => { rpH h.kind h.code h.tick with count := r.count, records := r.records }
  | .t => { rpH h.kind h.code h.tick with tok := r.tok }
def vrK (q : BK) (v : Value) : Value := match q with | .w => v | _ => nilV
def vcK (q : BK) (v : Value) : Value := match q with | .c => v | _ => nilV
theorem usR_bk (r : Rp) : usR r = usK (bk r) r r := by
  unfold usR bk usK
  by_cases h0 : r.code.v ≠ 0
  · simp only [if_pos h0]
  · by_cases h1 : r.kind = 1 ∨ r.kind = 16
    · simp only [if_neg h0, if_pos h1]
    · by_cases h3 : r.kind = 3
      · simp only [if_neg h0, if_neg h1, if_pos h3]
      · by_cases h4 : r.kind = 4
        · simp only [if_neg h0, if_neg h1, if_neg h3, if_pos h4]
        · by_cases h5 : r.kind = 5
          · simp only [if_neg h0, if_neg h1, if_neg h3, if_neg h4, if_pos h5]
          · by_cases h18 : r.kind = 18
            · simp only [if_neg h0, if_neg h1, if_neg h3, if_neg h4, if_neg h5, if_pos h18]
            · simp only [if_neg h0, if_neg h1, if_neg h3, if_neg h4, if_neg h5, if_neg h18]
theorem eqU8 (k c : UInt8) : ((k.toNat : Int) == (c.toNat : Int)) = decide (k = c) := by
  rw [Bool.eq_iff_iff, beq_iff_eq, decide_eq_true_eq]
  exact ⟨fun h => UInt8.toNat_inj.1 (by omega), fun h => by rw [h]⟩
/-- A reply's code and kind, case by case. -/
theorem bk_cases (r : Rp) :
    (((r.code.v : Int) != 0) = true ∧ bk r = .n) ∨ (((r.code.v : Int) != 0) = false ∧ (
      (((r.kind.toNat : Int) == 1) = true ∧ bk r = .o) ∨ (((r.kind.toNat : Int) == 1) = false ∧ (
      (((r.kind.toNat : Int) == 16) = true ∧ bk r = .o) ∨ (((r.kind.toNat : Int) == 16) = false ∧ (
      (((r.kind.toNat : Int) == 3) = true ∧ bk r = .s) ∨ (((r.kind.toNat : Int) == 3) = false ∧ (
      (((r.kind.toNat : Int) == 4) = true ∧ bk r = .w) ∨ (((r.kind.toNat : Int) == 4) = false ∧ (
      (((r.kind.toNat : Int) == 5) = true ∧ bk r = .c) ∨ (((r.kind.toNat : Int) == 5) = false ∧ (
      (((r.kind.toNat : Int) == 18) = true ∧ bk r = .t) ∨ (((r.kind.toNat : Int) == 18) = false ∧ bk r = .n))))))))))))) := by
  have e1 := eqU8 r.kind 1
  have e16 := eqU8 r.kind 16
  have e3 := eqU8 r.kind 3
  have e4 := eqU8 r.kind 4
  have e5 := eqU8 r.kind 5
  have e18 := eqU8 r.kind 18
  simp only [show ((1 : UInt8).toNat : Int) = 1 from rfl, show ((16 : UInt8).toNat : Int) = 16 from rfl, show ((3 : UInt8).toNat : Int) = 3 from rfl, show ((4 : UInt8).toNat : Int) = 4 from rfl, show ((5 : UInt8).toNat : Int) = 5 from rfl, show ((18 : UInt8).toNat : Int) = 18 from rfl] at e1 e16 e3 e4 e5 e18
  rw [e1, e16, e3, e4, e5, e18]
  unfold bk
  by_cases h0 : r.code.v ≠ 0
  · exact .inl ⟨by rw [bne_iff_ne]; exact h0, if_pos h0⟩
  · refine .inr ⟨by rw [bne_eq_false_iff_eq]; omega, ?_⟩
    rw [if_neg h0]
    by_cases h1 : r.kind = 1
    · exact .inl ⟨decide_eq_true h1, if_pos (.inl h1)⟩
    refine .inr ⟨decide_eq_false h1, ?_⟩
    by_cases h16 : r.kind = 16
    · exact .inl ⟨decide_eq_true h16, if_pos (.inr h16)⟩
    refine .inr ⟨decide_eq_false h16, ?_⟩
    rw [if_neg (by rintro (h | h); exact h1 h; exact h16 h)]
    by_cases h3 : r.kind = 3
    · exact .inl ⟨decide_eq_true h3, if_pos h3⟩
    refine .inr ⟨decide_eq_false h3, ?_⟩
    rw [if_neg h3]
    by_cases h4 : r.kind = 4
    · exact .inl ⟨decide_eq_true h4, if_pos h4⟩
    refine .inr ⟨decide_eq_false h4, ?_⟩
    rw [if_neg h4]
    by_cases h5 : r.kind = 5
    · exact .inl ⟨decide_eq_true h5, if_pos h5⟩
    refine .inr ⟨decide_eq_false h5, ?_⟩
    rw [if_neg h5]
    by_cases h18 : r.kind = 18
    · exact .inl ⟨decide_eq_true h18, if_pos h18⟩
    · exact .inr ⟨decide_eq_false h18, if_neg h18⟩
theorem build_st (x y : Int) (w : World) : (Instr.build 162 #[(0, .int .u8 x), (1, .int .u64 y)]).run Tryd.prog w = .ok (.agg #[.int .u8 x, .int .u64 y]) w := by kernel_rfl
theorem build_wt (a : Option Addr) (n c : Nat) (y : Int) (w : World) : (Instr.build 164 #[(0, .slice a n c), (1, .int .i64 y)]).run Tryd.prog w = .ok (.agg #[.slice a n c, .int .i64 y]) w := by kernel_rfl
theorem build_chn (x : Int) (a : Option Addr) (n c : Nat) (w : World) : (Instr.build 108 #[(0, .int .u32 x), (1, .slice a n c)]).run Tryd.prog w = .ok (.agg #[.int .u32 x, .slice a n c]) w := by kernel_rfl
theorem build_no (w : World) : (Instr.build 152 #[]).run Tryd.prog w = .ok (.agg #[]) w := by kernel_rfl
set_option maxRecDepth 100000 in
set_option maxHeartbeats 8000000 in
theorem replyBody_s (r : Rp) (ar ac : Option Addr) (nr cr nc cc : Nat) (w0 : World) : Calls Tryd.prog 68 #[.agg (rpL r (.slice ar nr cr) (.slice ac nc cc)).toArray] w0 fun e w' => e = .returned (bodyV r (.slice ar nr cr) (.slice ac nc cc)) ∧ Has w0 w' [] := by
  have S := Has.start w0
  have d0 := rpL_0 r (.slice ar nr cr) (.slice ac nc cc)
  have d1 := rpL_1 r (.slice ar nr cr) (.slice ac nc cc)
  have d3 := rpL_3 r (.slice ar nr cr) (.slice ac nc cc)
  have d4 := rpL_4 r (.slice ar nr cr) (.slice ac nc cc)
  have d5 := rpL_5 r (.slice ar nr cr) (.slice ac nc cc)
  have d6 := rpL_6 r (.slice ar nr cr) (.slice ac nc cc)
  have d7 := rpL_7 r (.slice ar nr cr) (.slice ac nc cc)
  have d8 := rpL_8 r (.slice ar nr cr) (.slice ac nc cc)
  have d9 := rpL_9 r (.slice ar nr cr) (.slice ac nc cc)
  have hk := bk_cases r
  have b1 := build_st
  have b2 := build_wt
  have b3 := build_chn
  have b4 := build_no
  unfold bodyV
  rcases hk with ⟨j0, hq⟩ | ⟨j0, ⟨j1, hq⟩ | ⟨j1, ⟨j2, hq⟩ | ⟨j2, ⟨j3, hq⟩ | ⟨j3, ⟨j4, hq⟩ | ⟨j4, ⟨j5, hq⟩ | ⟨j5, ⟨j6, hq⟩ | ⟨j6, hq⟩⟩⟩⟩⟩⟩⟩
  all_goals
    rw [hq]
    have D0 := Lib.hid d0; have D1 := Lib.hid d1; have D3 := Lib.hid d3; have D4 := Lib.hid d4; have D5 := Lib.hid d5; have D6 := Lib.hid d6; have D7 := Lib.hid d7; have D8 := Lib.hid d8; have D9 := Lib.hid d9; clear d0 d1 d3 d4 d5 d6 d7 d8 d9
    clear hq
    go_enter Tryd.func68, Tryd.ntmps68
    go_wp2_with (first | ((with_reducible refine iD 1 (.box 79 (.tmp 0)) ?_); refine step_boxA (dst := some 1) S 79 (.tmp 0) _ rfl rfl ?_; clear S; intro g1 w S) | ((with_reducible refine iO _ (.load 24 _) ?_); refine step_load1 24 _ _ _ rfl (cL) _ Tryd.underlying24 rfl rfl ?_) | ((with_reducible refine iO _ (.load 5 _) ?_); refine step_load1 5 _ _ _ rfl (cL) _ Tryd.underlying5 rfl rfl ?_) | ((with_reducible refine iO _ (.load 3 _) ?_); refine step_load1 3 _ _ _ rfl (cL) _ Tryd.underlying3 rfl rfl ?_) | ((with_reducible refine iO _ (.load 23 _) ?_); refine step_load1 23 _ _ _ rfl (cL) _ Tryd.underlying23 rfl rfl ?_) | ((with_reducible refine iO _ (.load 77 _) ?_); refine step_load1 77 _ _ _ rfl (cL) _ Tryd.underlying77 rfl rfl ?_) | ((with_reducible refine iO _ (.load 38 _) ?_); refine step_load1 38 _ _ _ rfl (cL) _ Tryd.underlying38 rfl rfl ?_) | ((with_reducible refine iO _ (.load 31 _) ?_); refine step_load1 31 _ _ _ rfl (cL) _ Tryd.underlying31 rfl rfl ?_) | ((with_reducible refine iO _ (.load 67 _) ?_); first | (refine step_loadR 67 _ _ _ rfl _ (S.old_range hy) _ Tryd.underlying67 rfl 36 kR lN _ rfl rfl ?_) | (refine step_loadP S 67 _ _ _ rfl _ _ _ pk 36 _ pT lN _ Tryd.underlying67 rfl kR rfl ?_)) | fail)
    go_ret
    exact ⟨rfl, S.nil⟩
end Go.Proofs.YtfhkmmagpnojmaaDoor
