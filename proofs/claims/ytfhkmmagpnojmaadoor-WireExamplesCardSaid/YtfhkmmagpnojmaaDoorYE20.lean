/- Several texts under one header: what the claim needs of Ex1, Ex2, Laid. No condition but those that each names. -/
import Derived.Test.YtfhkmmagpnojmaaDoorYE1
import Derived.Test.YtfhkmmagpnojmaaDoorYE19
import Derived.Test.YtfhkmmagpnojmaaDoorRows
import Derived.Test.YtfhkmmagpnojmaaDoorYE2
import Derived.Test.YtfhkmmagpnojmaaDoorYE0
import Derived.Deep.DeepHandedRow
import Derived.Lib.LaidTab
import Derived.SevenTiedAt
set_option linter.unusedSimpArgs false
set_option linter.unusedVariables false

/- WireExamples: what its single calls return. No condition but the tables. -/
namespace Go.Proofs.YtfhkmmagpnojmaaDoor
open Go.RowKit

def q4 : Rq := ⟨4, tokZ, 0, 0, 0⟩
def q258 : Rq := ⟨2, tokZ, 0, 0, 258⟩
def qb1 : Rq := ⟨2, tokZ, 0, 0, 65536⟩
def qb2 : Rq := ⟨4, tokZ, 0, 0, 1⟩
def qb3 : Rq := ⟨7, tokZ, 0, 0, 0⟩
def e160 : I64 := ⟨160, by omega⟩
def e280 : I64 := ⟨280, by omega⟩
def i1c : I64 := ⟨1, by omega⟩
def i2c : I64 := ⟨2, by omega⟩
def i7c : I64 := ⟨7, by omega⟩
def sg7 : Sgt := ⟨i7c, 0, i64Z⟩
def r160 : Rp := rpH 1 e160 3
def r280 : Rp := rpH 17 e280 0
def rWat : Rp := { rpH 4 i64Z 1 with robots := [sg7], queued := i2c }
def rb17 : Rp := rpH 17 i64Z 0
def rb16 : Rp := rpH 16 i1c 0
def lg1 : Lg := ⟨1, zs32, [], rfl⟩
set_option maxRecDepth 100000 in
theorem b_q4 (w : World) : (Instr.build 69 #[(0, .int .u8 4)]).run Tryd.prog w = .ok (.agg (rqL q4).toArray) w := by kernel_rfl
set_option maxRecDepth 100000 in
theorem b_q258 (w : World) : (Instr.build 69 #[(0, .int .u8 2), (4, .int .u32 258)]).run Tryd.prog w = .ok (.agg (rqL q258).toArray) w := by kernel_rfl
set_option maxRecDepth 100000 in
theorem b_qb1 (w : World) : (Instr.build 69 #[(0, .int .u8 2), (4, .int .u32 65536)]).run Tryd.prog w = .ok (.agg (rqL qb1).toArray) w := by kernel_rfl
set_option maxRecDepth 100000 in
theorem b_qb2 (w : World) : (Instr.build 69 #[(0, .int .u8 4), (4, .int .u32 1)]).run Tryd.prog w = .ok (.agg (rqL qb2).toArray) w := by kernel_rfl
set_option maxRecDepth 100000 in
theorem b_qb3 (w : World) : (Instr.build 69 #[(0, .int .u8 7)]).run Tryd.prog w = .ok (.agg (rqL qb3).toArray) w := by kernel_rfl
set_option maxRecDepth 100000 in
theorem b_r160 (w : World) : (Instr.build 79 #[(0, .int .u8 1), (1, .int .i64 160), (2, .int .u64 3)]).run Tryd.prog w = .ok (.agg (rpL r160 nilV nilV).toArray) w := by kernel_rfl
set_option maxRecDepth 100000 in
theorem b_r280 (w : World) : (Instr.build 79 #[(0, .int .u8 17), (1, .int .i64 280)]).run Tryd.prog w = .ok (.agg (rpL r280 nilV nilV).toArray) w := by kernel_rfl
set_option maxRecDepth 100000 in
theorem b_sg7 (w : World) : (Instr.build 95 #[(0, .int .i64 7)]).run Tryd.prog w = .ok (.agg (sgtL sg7).toArray) w := by kernel_rfl
set_option maxRecDepth 100000 in
theorem b_rWat (a : Option Addr) (c : Nat) (w : World) : (Instr.build 79 #[(0, .int .u8 4), (2, .int .u64 1), (6, .slice a 1 c), (7, .int .i64 2)]).run Tryd.prog w = .ok (.agg (rpL rWat (.slice a 1 c) nilV).toArray) w := by kernel_rfl
set_option maxRecDepth 100000 in
theorem b_rb17 (w : World) : (Instr.build 79 #[(0, .int .u8 17)]).run Tryd.prog w = .ok (.agg (rpL rb17 nilV nilV).toArray) w := by kernel_rfl
set_option maxRecDepth 100000 in
theorem b_rb0 (w : World) : (Instr.build 79 #[]).run Tryd.prog w = .ok (.agg (rpL rpZ nilV nilV).toArray) w := by kernel_rfl
set_option maxRecDepth 100000 in
theorem b_rb16 (w : World) : (Instr.build 79 #[(0, .int .u8 16), (1, .int .i64 1)]).run Tryd.prog w = .ok (.agg (rpL rb16 nilV nilV).toArray) w := by kernel_rfl
set_option maxRecDepth 100000 in
theorem b_lg1 (w : World) : (Instr.build 40 #[(0, .int .u32 1)]).run Tryd.prog w = .ok (.agg (lgL lg1 nilV).toArray) w := by kernel_rfl
/-- A struct out of parts that are known. -/
theorem step_buildC {P : Program} {ops : Array Oper} {rest : List Oper} {a : Act} {w : World} {Q : Exit → Act → World → Prop} {dst : Option Tmp} {ty : TypeId} {pos : String} {after : Array Edge} {gd : Option (Nat × Bool)} (t : TypeId) (parts : Array (Nat × Operand)) (vals : Array (Nat × Value)) (v : Value)
    (hr : ∀ w, (Instr.build t vals).run P w = .ok v w) (hp : (parts.map fun (i, x) => (i, a.eval x)) = vals)
    (hw : Region.wanted ⟨dst, .build t parts, ty, pos, after, gd⟩ (yielded ops a.tmps) = true)
    (h : wpList P ops Q rest (a.put dst v) w) : wpList P ops Q (⟨dst, .build t parts, ty, pos, after, gd⟩ :: rest) a w := by
  refine step_val (v := v) hw ?_ h
  have := hr w
  simp only [execOp, hp, Sem.run_bind, this, Result.andThen_ok, Sem.run_pure]
set_option maxRecDepth 100000 in
theorem step_buildSg1 {ops : Array Oper} {rest : List Oper} {a : Act} {w0 w : World} {l : List Res} {Q : Exit → Act → World → Prop} {dst : Option Tmp} {ty : TypeId} {pos : String} {after : Array Edge} {gd : Option (Nat × Bool)} (S : Has w0 w l) (x : Operand) (r : Sgt) (hx : a.eval x = .agg (sgtL r).toArray)
    (hw : Region.wanted ⟨dst, .buildSlice 77 1 #[(0, x)], ty, pos, after, gd⟩ (yielded ops a.tmps) = true)
    (h : ∀ v w', Has w0 w' (rowSg v [r] :: l) → wpList Tryd.prog ops Q rest (a.put dst v) w') : wpList Tryd.prog ops Q (⟨dst, .buildSlice 77 1 #[(0, x)], ty, pos, after, gd⟩ :: rest) a w :=
  step_buildS1 S 77 95 3 x (sgtL r) _ Tryd.underlying77 infoSg2 (by decide) (by decide) hx (sgtL_length _) hw fun v w' S' => h v w' (by
    have e : [r].flatMap sgtL = sgtL r := by simp
    show Has w0 w' (row v _ 3 1 ([r].flatMap sgtL) :: l)
    rw [e]
    exact S')
set_option maxRecDepth 100000 in
theorem step_buildF2 {ops : Array Oper} {rest : List Oper} {a : Act} {w0 w : World} {l : List Res} {Q : Exit → Act → World → Prop} {dst : Option Tmp} {ty : TypeId} {pos : String} {after : Array Edge} {gd : Option (Nat × Bool)} (S : Has w0 w l) (x y : Operand) (v1 v2 : Value)
    (hx : a.eval x = v1) (hy : a.eval y = v2) (h1 : v1.cells = #[v1]) (h2 : v2.cells = #[v2])
    (hw : Region.wanted ⟨dst, .buildSlice 32 2 #[(0, x), (1, y)], ty, pos, after, gd⟩ (yielded ops a.tmps) = true)
    (h : ∀ v' w', Has w0 w' (row v' 25 1 2 [v1, v2] :: l) → wpList Tryd.prog ops Q rest (a.put dst v') w') : wpList Tryd.prog ops Q (⟨dst, .buildSlice 32 2 #[(0, x), (1, y)], ty, pos, after, gd⟩ :: rest) a w :=
  step_buildL S 32 25 2 #[(0, x), (1, y)] [v1, v2] (.slice none 0 0) Tryd.underlying32 infoF2 rfl (by simp [hx, hy]) rfl (fun u hu => by
    simp only [List.mem_cons, List.not_mem_nil, or_false] at hu
    rcases hu with rfl | rfl <;> assumption) (by decide) hw h
theorem fr2 {w : World} {v p q : Value} {x y : List UInt8} (h : Sl w 1 v 2 [p, q]) (h1 : Bs w p x) (h2 : Bs w q y) : Fr w v [(p, x), (q, y)] := by
  refine ⟨h, fun u hu => ?_⟩
  simp only [List.mem_cons, List.not_mem_nil, or_false] at hu
  rcases hu with rfl | rfl <;> assumption
set_option maxRecDepth 100000 in
theorem does_make8 {a : Act} {w0 w : World} {l : List Res} {dst : Option Tmp} {ty : TypeId} {pos : String} {after : Array Edge} {gd : Option (Nat × Bool)} {Post : Value → World → Prop} (S : Has w0 w l) (x y : Operand) (n : Nat) (i : Int) (hi : i = (n : Int))
    (hx : a.eval x = .int .i64 i) (hy : a.eval y = .int .i64 i) (hn : n ≤ 281474976710656)
    (h : ∀ v w', Has w0 w' (row8 v (zs8 n) :: l) → Post v w') : does Tryd.prog a.eval ⟨dst, .makeSlice 25 x y, ty, pos, after, gd⟩ w Post := by
  subst hi
  obtain ⟨i, hi, hz, hsize, hby⟩ := info_parts infoB3
  have hr := run_make (P := Tryd.prog) w 25 5 i (.int .u8 0) Tryd.underlying25 hi hz .i64 .i64 (n : Int) (n : Int) (by omega) (Int.le_refl _) (by rw [hby]; omega) (by omega)
  have hm : n ≤ maxLen := Nat.le_trans hn (by decide)
  have hc : madeCells (Value.int .u8 0).cells ((n : Int).toNat * i.size) = ((List.replicate n (0 : UInt8)).map by8).toArray := by
    rw [hsize, Nat.mul_one, Int.toNat_natCast]
    apply Array.ext
    · simp [madeCells]
    · intro j h1 h2
      simp [madeCells, Value.cells, Nat.mod_one]
  rw [hc, Int.toNat_natCast] at hr
  have S' := S.row_lit 5 n ((List.replicate n (0 : UInt8)).map by8) (by simp) hm
  refine does_val (v := .slice (some ⟨w.heap.size, 0, none⟩) n n) (w' := w.alloc (.cells ((List.replicate n (0 : UInt8)).map by8).toArray 5)) ?_ (h _ _ ?_)
  · simp only [execOp, hx, hy, Sem.run_bind, hr, Result.andThen_ok, Sem.run_pure]
  · have e : row8 (.slice (some ⟨w.heap.size, 0, none⟩) n n) (zs8 n) = row (.slice (some ⟨w.heap.size, 0, none⟩) n n) 5 1 n ((List.replicate n (0 : UInt8)).map by8) := by
      show row _ _ _ (zs8 n).length _ = _
      rw [zs8_length]
      rfl
    rw [e]
    exact S'
theorem split5 : splitB [0, 65, 0, 2, 0] = ([[0, 65], [0, 2]], [0]) := by decide
theorem x_split (v : Value) (w : World) (h : Bs w v [0, 65, 0, 2, 0]) : Calls Tryd.prog 30 #[v] w (MadeA3 w ([[0, 65], [0, 2]], [0]) 0) := by
  have := split_a v _ w h (by decide)
  rw [split5] at this
  exact this
theorem x_split0 (w : World) : Calls Tryd.prog 30 #[.slice none 0 0] w fun e w' => ∃ a4 c4 a5 c5, e = .returned (.tuple #[.slice a4 0 c4, .slice a5 0 c5, .int .i64 0]) ∧ Has w w' [] := by
  have h0 := split_a (.slice none 0 0) [] w (Bs.mk0 _ _) (by decide)
  rw [show splitB [] = ([], []) from rfl] at h0
  refine h0.mono fun e w' h => ?_
  obtain ⟨v1, v2, ps, rfl, hps, T⟩ := h
  obtain rfl : ps = [] := List.map_eq_nil_iff.1 hps
  obtain ⟨a4, c4, rfl, _, _⟩ := Sl.shape (T.sl (v := v1) pk)
  obtain ⟨a5, c5, rfl, _, _⟩ := Sl.shape (T.bs (v := v2) (xs := []) pk)
  exact ⟨a4, c4, a5, c5, rfl, T.nil⟩
theorem x_splitL (v : Value) (w : World) (h : Bs w v (zs8 4161)) : Calls Tryd.prog 30 #[v] w fun e w' => ∃ u1 u2, e = .returned (.tuple #[u1, u2, .int .i64 4]) ∧ Has w w' [] := by
  refine (split_s v (zs8 4161) w h).mono fun e w' h => ?_
  obtain ⟨v1, v2, ps, he, hps, T⟩ := h
  rw [zs8_length, show spE 4161 = 4 by decide] at he
  exact ⟨v1, v2, he, T.nil⟩
theorem x_er4 (w : World) : Calls Tryd.prog 32 #[.agg (rqL q4).toArray] w (MadeE w (encR q4) 0) := by
  have := encodeRequest_s q4 w
  rw [show encRE q4 = encR q4 from if_pos (by decide), show rqE q4 = 0 by decide] at this
  exact this
theorem x_er258 (w : World) : Calls Tryd.prog 32 #[.agg (rqL q258).toArray] w (MadeE w (encR q258) 0) := by
  have := encodeRequest_s q258 w
  rw [show encRE q258 = encR q258 from if_pos (by decide), show rqE q258 = 0 by decide] at this
  exact this
theorem x_cr (q : Rq) (h : rqE q = 8) (w : World) : Calls Tryd.prog 36 #[.agg (rqL q).toArray] w fun e w' => e = .returned (.int .i64 8) ∧ Has w w' [] := by
  have := checkRequest_s q w
  rw [h] at this
  exact this
theorem x_dr (b : List UInt8) (E : Int) (h : dcE b = E) (hl : b.length ≤ 140737488355328) (v : Value) (w : World) (hb : Bs w v b) : Calls Tryd.prog 34 #[v] w fun e w' => ∃ u, e = .returned (.tuple #[u, .int .i64 E]) ∧ Has w w' [] := by
  have := decodeRequest_s v b w hb hl
  rw [h] at this
  exact this.mono fun e w' h => ⟨_, h.1, h.2⟩
theorem x_ep (r : Rp) (vr vc : Value) (X : List UInt8) (hX : encRp r = X) (hE : rpE r = 0) (w : World) (h1 : Sl w 3 vr r.robots.length (r.robots.flatMap sgtL)) (h2 : Sl w 35 vc r.records.length (r.records.flatMap rcdL)) : Calls Tryd.prog 38 #[.agg (rpL r vr vc).toArray] w (MadeE w X 0) := by
  have := encodeReply_s r vr vc w h1 h2
  rw [hX, hE] at this
  exact this
theorem x_cp (r : Rp) (hE : rpE r = 8) (w : World) (h1 : Sl w 3 nilV r.robots.length (r.robots.flatMap sgtL)) (h2 : Sl w 35 nilV r.records.length (r.records.flatMap rcdL)) : Calls Tryd.prog 41 #[.agg (rpL r nilV nilV).toArray] w fun e w' => e = .returned (.int .i64 8) ∧ Has w w' [] := by
  have := checkReply_s r nilV nilV w h1 h2
  rw [hE] at this
  exact this
theorem x_dp (b : List UInt8) (E : Int) (h : dpE b = E) (hl : b.length ≤ 140737488355328) (v : Value) (w : World) (hb : Bs w v b) : Calls Tryd.prog 39 #[v] w fun e w' => ∃ u, e = .returned (.tuple #[u, .int .i64 E]) ∧ Has w w' [] := by
  have := decodeReply_s v b w hb hl
  rw [h] at this
  refine this.mono fun e w' h => ?_
  obtain ⟨vr, vc, h1, h2⟩ := h
  exact ⟨_, h1, h2.nil⟩
def y1 : List UInt8 := [0, 13, 1, 0, 160, 0, 0, 0, 0, 0, 0, 0, 3]
def y2 : List UInt8 := [0, 13, 17, 1, 24, 0, 0, 0, 0, 0, 0, 0, 0]
def y3 : List UInt8 := [0, 19, 4, 0, 0, 0, 0, 0, 0, 0, 0, 0, 1, 1, 7, 0, 0, 0, 2]
theorem enc_y1 : encRp r160 = y1 ∧ rpE r160 = 0 := by decide +kernel
theorem enc_y2 : encRp r280 = y2 ∧ rpE r280 = 0 := by decide +kernel
theorem enc_y3 : encRp rWat = y3 ∧ rpE rWat = 0 := by decide +kernel
theorem bad_rp : rpE rb17 = 8 ∧ rpE rpZ = 8 ∧ rpE rb16 = 8 := by decide +kernel
theorem dp_y1 : dpE (y1.take 12) = 10 ∧ dpE (y1 ++ [0]) = 11 := by decide +kernel
theorem bad_rq : rqE qb1 = 8 ∧ rqE qb2 = 8 ∧ rqE qb3 = 8 := by decide
theorem len_q : (encR q4).length = 49 ∧ (encR q4).take 3 = [0, 49, 4] ∧ (encR q258).length = 51 ∧ (encR q258).drop 49 = [1, 2] := by decide
theorem dc_q : dcE [0, 1] = 10 ∧ dcE [0, 3, 4] = 11 ∧ dcE (encR q4 ++ [0]) = 11 := by decide +kernel
theorem log02_v (g : Lg) (x : Rcd) (h : Log02 g x) : lgV g = true := by
  have hv : rcdV x = true := by unfold rcdV; rw [h.tick, h.kind, h.code]; decide
  unfold lgV
  rw [h.recs, h.cnt, h.link]
  have hc : chV [x] = true := by simp [chV, hv]
  rw [hc, show lastK [x] = x.link from rfl, h.xl, decide_eq_true rfl]
  rfl
theorem log02_s0 (g : Lg) (x : Rcd) (h : Log02 g x) : sinceR g 0 = [x] ∧ sinceR g 1 = [] ∧ lgE g = 0 := by
  have hv := log02_v g x h
  refine ⟨?_, ?_, if_pos hv⟩
  · unfold sinceR
    rw [if_pos hv, h.recs, h.cnt]
    rfl
  · unfold sinceR
    rw [if_pos hv, h.recs, h.cnt]
    rfl
theorem x_since (g : Lg) (n : UInt32) (l : List Rcd) (hl : sinceR g n = l) (hE : lgE g = 0) (m : Int) (hm : m = (n.toNat : Int)) (rv : Value) (w : World) (h : Sl w 35 rv g.recs.length (g.recs.flatMap rcdL)) : Calls Tryd.prog 26 #[.agg (lgL g rv).toArray, .int .u32 m] w (MadeRcE w l 0) := by
  subst hm
  have := since_s g rv n w h
  rw [hl, hE] at this
  exact this
theorem apE_of (g : Lg) (hv : lgV g = true) (t : UInt64) (k : UInt8) (c : I64) (n : Nat) (E : Int) (h : lnkE t k c n = E) (h0 : E ≠ 0) : apE g t k c n = E := by
  unfold apE
  rw [if_neg (by rw [hv]; decide), h, if_pos h0]
theorem x_append (g : Lg) (hv : lgV g = true) (t : UInt64) (k : UInt8) (E : Int) (b : List UInt8) (h : lnkE t k i64Z b.length = E) (h0 : E ≠ 0) (hl : b.length ≤ 140737488351232) (ti ki : Int) (hti : ti = (t.toNat : Int)) (hki : ki = (k.toNat : Int)) (rv bv : Value) (w : World) (hr : Sl w 35 rv g.recs.length (g.recs.flatMap rcdL)) (hb : Bs w bv b) (hK : KT w) :
    Calls Tryd.prog 21 #[.agg (lgL g rv).toArray, .int .u64 ti, .int .u8 ki, .int .i64 0, bv] w fun e w' => ∃ u, e = .returned (.tuple #[u, .int .i64 E]) ∧ Has w w' [] := by
  subst hti
  subst hki
  have hE := apE_of g hv t k i64Z b.length E h h0
  have := append_s g rv t k i64Z bv b w hr hb hK hl
  rw [hE] at this
  refine this.mono fun e w' h => ?_
  obtain ⟨v, h1, h2⟩ := h
  exact ⟨_, h1, h2.nil⟩
theorem lnk_bad : lnkE 4 7 i64Z 0 = 2 ∧ lnkE 4611686018427387905 1 i64Z 0 = 2 ∧ lnkE 4 1 i64Z 65 = 4 := by decide
def d03 : List UInt8 := lnkD zs32 4 1 i64Z [0, 3]
theorem d03_ne : d03 ≠ d02 := by decide +kernel
theorem vf_bad (x : Rcd) (hx : x.tick = 4 ∧ x.kind = 1 ∧ x.code = i64Z ∧ x.link = d02) : vfR zs32 [x] [[0, 3]] = (0, 0) ∧ vfR zs32 [x] [] = (0, 2) := by
  obtain ⟨h1, h2, h3, h4⟩ := hx
  have hv : rcdV x = true := by unfold rcdV; rw [h1, h2, h3]; decide
  have hc : chV [x] = true := by simp [chV, hv]
  refine ⟨?_, rfl⟩
  unfold vfR
  rw [if_neg (by simp), if_neg (by simp), hc, if_neg (by decide), if_neg (by decide)]
  unfold vfN
  rw [h1, h2, h3, h4, show lnkD zs32 4 1 i64Z [0, 3] = d03 from rfl, if_neg d03_ne]
theorem x_verify (x : Rcd) (rv fv : Value) (ps : List (Value × List UInt8)) (E : Int) (w : World) (h : vfR zs32 [x] (ps.map (·.2)) = (0, E)) (h1 : Sl w 35 rv 1 ([x].flatMap rcdL)) (h2 : Fr w fv ps) (hK : KT w) :
    Calls Tryd.prog 18 #[.agg (arr8 zs32), rv, fv] w fun e w' => e = .returned (.tuple #[.int .i64 0, .int .i64 E]) ∧ Has w w' [] := by
  have := verify_s zs32 rv fv [x] ps w rfl h1 h2 hK
  rw [h] at this
  exact this
theorem x_clog (w : World) : Calls Tryd.prog 23 #[.agg (lgL lg1 nilV).toArray] w fun e w' => e = .returned (.int .i64 8) ∧ Has w w' [] := by
  have := checkLog_s lg1 nilV w (Sl.nil0 w 35)
  rw [show lgE lg1 = 8 by decide] at this
  exact this
end Go.Proofs.YtfhkmmagpnojmaaDoor

/- WireExamples' walk. No condition but the tables. -/
namespace Go.Proofs.YtfhkmmagpnojmaaDoor
open Go.RowKit

set_option maxRecDepth 100000 in
set_option maxHeartbeats 32000000 in
theorem wireExamples_walk (w0 : World) (hK : KT w0) : Calls Tryd.prog 14 #[] w0 fun e w' => e = .returned (.bool true) ∧ Has w0 w' [] := by
  have S := Has.start w0
  have pal := fun w h => alive_s w h
  have p1 := fun v w h => x_split v w h
  have p2 := fun w => x_split0 w
  have p3 := fun v w h => x_splitL v w h
  have p4 := fun w => x_er4 w
  have p5 := fun w => x_er258 w
  have p6 := fun w => x_cr qb1 bad_rq.1 w
  have p7 := fun w => x_cr qb2 bad_rq.2.1 w
  have p8 := fun w => x_cr qb3 bad_rq.2.2 w
  have pd1 := fun v w h => x_dr [0, 1] 10 dc_q.1 (by decide) v w h
  have pd2 := fun v w h => x_dr [0, 3, 4] 11 dc_q.2.1 (by decide) v w h
  have pd3 := fun v w h => x_dr (encR q4 ++ [0]) 11 dc_q.2.2 (by rw [List.length_append, len_q.1]; decide) v w h
  have pe1 := fun w => x_ep r160 nilV nilV y1 enc_y1.1 enc_y1.2 w (Sl.nil0 w 3) (Sl.nil0 w 35)
  have pe2 := fun w => x_ep r280 nilV nilV y2 enc_y2.1 enc_y2.2 w (Sl.nil0 w 3) (Sl.nil0 w 35)
  have pe3 := fun (a : Option Addr) (c : Nat) (w : World) (h : Sl w 3 (.slice a 1 c) 1 ([sg7].flatMap sgtL)) => x_ep rWat (.slice a 1 c) nilV y3 enc_y3.1 enc_y3.2 w h (Sl.nil0 w 35)
  have pc1 := fun w => x_cp rb17 bad_rp.1 w (Sl.nil0 w 3) (Sl.nil0 w 35)
  have pc2 := fun w => x_cp rpZ bad_rp.2.1 w (Sl.nil0 w 3) (Sl.nil0 w 35)
  have pc3 := fun w => x_cp rb16 bad_rp.2.2 w (Sl.nil0 w 3) (Sl.nil0 w 35)
  have pf1 := fun v w h => x_dp (y1.take 12) 10 dp_y1.1 (by decide) v w h
  have pf2 := fun v w h => x_dp (y1 ++ [0]) 11 dp_y1.2 (by decide) v w h
  have bq1 := b_q4
  have bq2 := b_q258
  have bq3 := b_qb1
  have bq4 := b_qb2
  have bq5 := b_qb3
  have br1 := b_r160
  have br2 := b_r280
  have bsg := b_sg7
  have brw := b_rWat
  have br3 := b_rb17
  have br0 := b_rb0
  have br4 := b_rb16
  have bl1 := b_lg1
  have az := build_ar32
  have lz := build_lgZ
  have pcl := fun w => x_clog w
  obtain ⟨g, x, hg, hL⟩ := log02
  have hgv := log02_v g x hL
  obtain ⟨hs0, hs1, hgE⟩ := log02_s0 g x hL
  obtain ⟨e1, e2, e3, k1, k2, k3, k4, _⟩ := hL
  obtain ⟨vb1, vb2⟩ := vf_bad x ⟨k1, k2, k3, k4⟩
  have pa1 : ∀ bv w, Bs w bv [0, 2] → KT w → Calls Tryd.prog 21 #[.agg (lgL lgZ nilV).toArray, .int .u64 4, .int .u8 1, .int .i64 0, bv] w (MadeLg w g 0) := fun bv w h hk => by
    have := append_s lgZ nilV 4 1 i64Z bv fr02 w ⟨rfl, .inl ⟨none, rfl, rfl⟩⟩ h hk (by decide)
    rw [hg, show apE lgZ 4 1 i64Z fr02.length = 0 from ap02] at this
    exact this
  have ps0 := fun rv w (h : Sl w 35 rv 1 ([x].flatMap rcdL)) => x_since g 0 [x] hs0 hgE 0 rfl rv w (by rw [e3]; exact h)
  have ps1 := fun rv w (h : Sl w 35 rv 1 ([x].flatMap rcdL)) => x_since g 1 [] hs1 hgE 1 rfl rv w (by rw [e3]; exact h)
  have pb1 := fun rv w (h : Sl w 35 rv 1 ([x].flatMap rcdL)) hk => x_append g hgv 4 7 2 [] lnk_bad.1 (by decide) (by decide) 4 7 rfl rfl rv nilV w (by rw [e3]; exact h) (Bs.mk0 _ _) hk
  have pb2 := fun rv w (h : Sl w 35 rv 1 ([x].flatMap rcdL)) hk => x_append g hgv 4611686018427387905 1 2 [] lnk_bad.2.1 (by decide) (by decide) 4611686018427387905 1 rfl rfl rv nilV w (by rw [e3]; exact h) (Bs.mk0 _ _) hk
  have pb3 := fun rv bv w (h : Sl w 35 rv 1 ([x].flatMap rcdL)) hb hk => x_append g hgv 4 1 4 (zs8 65) (by rw [zs8_length]; exact lnk_bad.2.2) (by decide) (by rw [zs8_length]; decide) 4 1 rfl rfl rv bv w (by rw [e3]; exact h) hb hk
  have pv1 := fun rv fv pv w h1 h2 hk => x_verify x rv fv [(pv, [0, 3])] 0 w vb1 h1 h2 hk
  have pv2 := fun rv w h1 hk => x_verify x rv nilV [] 2 w vb2 h1 ⟨Sl.nil0 w 1, by simp⟩ hk
  have s1 : ((strB [0]).toList == [0]) = true := by rw [ByteArray.toList_eq, strB_list]; rfl
  have j4 : ((encR q4).length : Int) = 49 := by rw [len_q.1]; rfl
  have j5 : ((encR q258).length : Int) = 51 := by rw [len_q.2.2.1]; rfl
  have j4' : 3 ≤ (encR q4).length := by rw [len_q.1]; decide
  have j5' : 49 ≤ (encR q258).length := by rw [len_q.2.2.1]; decide
  have s4 : ((strB ((encR q4).take 3)).toList == [0, 49, 4]) = true := by rw [ByteArray.toList_eq, strB_list, len_q.2.1]; rfl
  have s5 : ((strB ((encR q258).drop 49)).toList == [1, 2]) = true := by rw [ByteArray.toList_eq, strB_list, len_q.2.2.2]; rfl
  have t1 : ((strB y1).toList == [0, 13, 1, 0, 160, 0, 0, 0, 0, 0, 0, 0, 3]) = true := by rw [ByteArray.toList_eq, strB_list]; rfl
  have t2 : ((strB y2).toList == [0, 13, 17, 1, 24, 0, 0, 0, 0, 0, 0, 0, 0]) = true := by rw [ByteArray.toList_eq, strB_list]; rfl
  have t3 : ((strB (y3.drop 13)).toList == [1, 7, 0, 0, 0, 2]) = true := by rw [ByteArray.toList_eq, strB_list]; rfl
  have u1 : (y1.length : Int) = 13 := rfl
  have u3 : (y3.length : Int) = 19 := rfl
  have u1' : 12 ≤ y1.length := by decide
  have u3' : 13 ≤ y3.length := by decide
  have zl := zs8_length 4161
  have kc0 : ∀ gs cs w, Sl w 35 (.slice (some ⟨gs, 0, none⟩) 1 cs) 1 ([x].flatMap rcdL) → w.cell? ⟨gs, 0, none⟩ = some (.int .u64 4) := fun gs cs w h => by
    have := h.rcd0 0 _ (rcdL_0 x)
    rw [k1] at this
    exact this
  have kc1 : ∀ gs cs w, Sl w 35 (.slice (some ⟨gs, 0, none⟩) 1 cs) 1 ([x].flatMap rcdL) → w.cell? ⟨gs, 1, none⟩ = some (.int .u8 1) := fun gs cs w h => by
    have := h.rcd0 1 _ (rcdL_1 x)
    rw [k2] at this
    exact this
  generalize encR q4 = X4 at p4 pd3 j4 j4' s4
  generalize encR q258 = X5 at p5 j5 j5' s5
  generalize q4 = Q4 at p4 bq1
  generalize q258 = Q5 at p5 bq2
  generalize qb1 = Q6 at p6 bq3
  generalize qb2 = Q7 at p7 bq4
  generalize qb3 = Q8 at p8 bq5
  generalize y1 = Y1 at pe1 pf1 pf2 t1 u1 u1'
  generalize y2 = Y2 at pe2 t2
  generalize y3 = Y3 at pe3 t3 u3 u3'
  generalize r160 = R1 at pe1 br1
  generalize r280 = R2 at pe2 br2
  generalize rWat = R3 at pe3 brw
  generalize rb17 = R4 at pc1 br3
  generalize rb16 = R6 at pc3 br4
  generalize sg7 = SG at pe3 bsg
  generalize lg1 = L1 at pcl bl1
  clear hg hgv hs0 hs1 hgE e1 e2 k1 k2 k3 k4 vb1 vb2
  have HK := Lib.hid hK; have PAL := Lib.hid pal; have P1 := Lib.hid p1; have P2 := Lib.hid p2; have P3 := Lib.hid p3; have P4 := Lib.hid p4; have P5 := Lib.hid p5; have P6 := Lib.hid p6; have P7 := Lib.hid p7; have P8 := Lib.hid p8; have PD1 := Lib.hid pd1; have PD2 := Lib.hid pd2; have PD3 := Lib.hid pd3; have PE1 := Lib.hid pe1; have PE2 := Lib.hid pe2; have PE3 := Lib.hid pe3; have PC1 := Lib.hid pc1; have PC2 := Lib.hid pc2; have PC3 := Lib.hid pc3; have PF1 := Lib.hid pf1; have PF2 := Lib.hid pf2; have BQ1 := Lib.hid bq1; have BQ2 := Lib.hid bq2; have BQ3 := Lib.hid bq3; have BQ4 := Lib.hid bq4; have BQ5 := Lib.hid bq5; have BR1 := Lib.hid br1; have BR2 := Lib.hid br2; have BSG := Lib.hid bsg; have BRW := Lib.hid brw; have BR3 := Lib.hid br3; have BR0 := Lib.hid br0; have BR4 := Lib.hid br4; have BL1 := Lib.hid bl1; have AZ := Lib.hid az; have LZ := Lib.hid lz; have PCL := Lib.hid pcl; have E3 := Lib.hid e3; have PA1 := Lib.hid pa1; have PS0 := Lib.hid ps0; have PS1 := Lib.hid ps1; have PB1 := Lib.hid pb1; have PB2 := Lib.hid pb2; have PB3 := Lib.hid pb3; have PV1 := Lib.hid pv1; have PV2 := Lib.hid pv2; have J4' := Lib.hid j4'; have J5' := Lib.hid j5'; have U1' := Lib.hid u1'; have U3' := Lib.hid u3'; have ZL := Lib.hid zl; have KC0 := Lib.hid kc0; have KC1 := Lib.hid kc1; clear hK pal p1 p2 p3 p4 p5 p6 p7 p8 pd1 pd2 pd3 pe1 pe2 pe3 pc1 pc2 pc3 pf1 pf2 bq1 bq2 bq3 bq4 bq5 br1 br2 bsg brw br3 br0 br4 bl1 az lz pcl e3 pa1 ps0 ps1 pb1 pb2 pb3 pv1 pv2 j4' j5' u1' u3' zl kc0 kc1
  go_enter Tryd.func14, Tryd.ntmps14
  go_upto_region 6 with (first | ((with_reducible refine iD 52 (.buildSlice 32 _ _) ?_); refine step_buildF2 S (.tmp 50) (.tmp 51) v50 v51 rfl rfl (one_sl (S.sl (v := v50) pk)).2 (one_sl (S.sl (v := v51) pk)).2 gw ?_; clear S; intro v52 w S) | ((with_reducible refine iD 24 (.buildSlice 25 _ _) ?_); refine step_build8 S 5 _ [0, 65, 0, 2, 0] (by first | rfl | kernel_rfl) rfl (by decide) gw ?_; clear S; intro v24 w S) | (go_at_call 30; (with_reducible refine (P1.out _ _ (S.bs (v := v24) pk)).mono ?_); rintro e w1 ⟨v1, v2, ps, rfl, hps, T⟩; replace S := S.call T; clear T; (try simp only [z4, z5] at S); have HPS := Lib.hid hps; clear hps) | (go_at_call 30; (with_reducible refine (P2.out _).mono ?_); rintro e w1 ⟨a4, c4, a5, c5, rfl, T⟩; replace S := S.call T; clear T; (try simp only [z4, z5] at S)) | (go_at_call 30; (with_reducible refine (P3.out _ _ (S.bs (v := v35) pk)).mono ?_); rintro e w1 ⟨y7q, y8q, rfl, T⟩; replace S := S.call T; clear T; (try simp only [z4, z5] at S)) | ((with_reducible refine iD 35 (.makeSlice 25 _ _) ?_); refine step_make8 S _ _ 4161 _ (by first | rfl | omega) rfl rfl (by first | decide | omega) gw ?_; clear S; intro v35 w S) | (go_at_call 29; (with_reducible refine (PAL.out _ kT).mono ?_); rintro e w1 ⟨rfl, T⟩; replace S := S.call T; clear T; (try simp only [z4, z5] at S)) | ((with_reducible refine iD 50 (.buildSlice 25 _ _) ?_); refine step_build8 S 2 _ [0, 65] (by first | rfl | kernel_rfl) rfl (by decide) gw ?_; clear S; intro v50 w S) | ((with_reducible refine iD 51 (.buildSlice 25 _ _) ?_); refine step_build8 S 2 _ [0, 2] (by first | rfl | kernel_rfl) rfl (by decide) gw ?_; clear S; intro v51 w S) | (go_at_call 31; (with_reducible refine (sameF_s _ _ ps [(v50, [0, 65]), (v51, [0, 2])] _ (S.frA (v := v1) (ps := ps) pk pk) (fr2 (S.sl (v := v52) pk) (S.bs (v := v50) pk) (S.bs (v := v51) pk))).mono ?_); rintro e w1 ⟨rfl, T⟩; replace S := S.call T; clear T; (try simp only [z4, z5] at S); rw [show decide (List.map (fun x => x.snd) ps = List.map (fun x => x.snd) ([(v50, [0, 65]), (v51, [0, 2])] : List (Value × List UInt8))) = true from decide_eq_true HPS.out]) | ((with_reducible refine iO _ (.convert 25 9 _) ?_); refine step_conv 25 9 5 _ _ _ rfl Tryd.underlying25 Tryd.underlying5 Tryd.underlying9 bS gw ?_) | fail)
  have S := S.nil
  clear HPS s1
  go_upto_region 11 with (first | ((with_reducible refine iD 80 (.build 69 _) ?_); refine step_buildC _ _ _ _ BQ1.out (by first | (simp [Act.eval]; done) | rfl | (simp only [List.map_toArray, List.map_cons, List.map_nil]; rfl)) gw ?_) | ((with_reducible refine iD 85 (.build 69 _) ?_); refine step_buildC _ _ _ _ BQ2.out (by first | (simp [Act.eval]; done) | rfl | (simp only [List.map_toArray, List.map_cons, List.map_nil]; rfl)) gw ?_) | ((with_reducible refine iD 89 (.build 69 _) ?_); refine step_buildC _ _ _ _ BQ3.out (by first | (simp [Act.eval]; done) | rfl | (simp only [List.map_toArray, List.map_cons, List.map_nil]; rfl)) gw ?_) | ((with_reducible refine iD 93 (.build 69 _) ?_); refine step_buildC _ _ _ _ BQ4.out (by first | (simp [Act.eval]; done) | rfl | (simp only [List.map_toArray, List.map_cons, List.map_nil]; rfl)) gw ?_) | ((with_reducible refine iD 98 (.build 69 _) ?_); refine step_buildC _ _ _ _ BQ5.out (by first | (simp [Act.eval]; done) | rfl | (simp only [List.map_toArray, List.map_cons, List.map_nil]; rfl)) gw ?_) | ((with_reducible refine iD 112 (.convert 25 9 _) ?_); refine step_conv 25 9 5 (.tmp 111) _ (X4.take 3) rfl Tryd.underlying25 Tryd.underlying5 Tryd.underlying9 (Bs.cutH (S.bs (v := .slice a10 X4.length c10) pk) 3 J4'.out rfl) gw ?_) | ((with_reducible refine iD 127 (.convert 25 9 _) ?_); refine step_conv 25 9 5 (.tmp 126) _ (X5.drop 49) rfl Tryd.underlying25 Tryd.underlying5 Tryd.underlying9 (Bs.cutL (S.bs (v := .slice a11 X5.length c11) pk) 49 J5'.out rfl) gw ?_) | (go_at_call 32; (with_reducible refine (P4.out _).mono ?_); rintro e w1 ⟨v10, rfl, T⟩; replace S := S.call T; clear T; (try simp only [z4, z5] at S); obtain ⟨a10, c10, rfl, _, _⟩ := Sl.shape (S.bs (v := v10) (xs := X4) pk)) | (go_at_call 32; (with_reducible refine (P5.out _).mono ?_); rintro e w1 ⟨v11, rfl, T⟩; replace S := S.call T; clear T; (try simp only [z4, z5] at S); obtain ⟨a11, c11, rfl, _, _⟩ := Sl.shape (S.bs (v := v11) (xs := X5) pk)) | (go_at_call 36; (with_reducible refine (P6.out _).mono ?_); rintro e w1 ⟨rfl, T⟩; replace S := S.call T; clear T; (try simp only [z4, z5] at S)) | (go_at_call 36; (with_reducible refine (P7.out _).mono ?_); rintro e w1 ⟨rfl, T⟩; replace S := S.call T; clear T; (try simp only [z4, z5] at S)) | (go_at_call 36; (with_reducible refine (P8.out _).mono ?_); rintro e w1 ⟨rfl, T⟩; replace S := S.call T; clear T; (try simp only [z4, z5] at S)) | ((with_reducible refine iO _ (.slice 25 _ _ _ _) ?_); refine step_cutH 25 5 1 _ _ _ _ _ _ _ 3 rfl rfl (by first | rfl | omega) (by first | (first | omega | assumption | (exact Hid.out (by assumption)) | (simp only [List.length_append, List.length_cons, List.length_nil]; omega)) | decide) Tryd.underlying25 kR gw ?_) | ((with_reducible refine iO _ (.slice 25 _ _ _ _) ?_); refine step_cutL 25 5 1 _ _ _ _ _ _ _ 49 rfl rfl (by first | rfl | omega) (by first | (first | omega | assumption | (exact Hid.out (by assumption)) | (simp only [List.length_append, List.length_cons, List.length_nil]; omega)) | decide) Tryd.underlying25 kR gw ?_) | fail)
  have S := S.sub (show Sub _ [row8 (.slice a10 X4.length c10) X4] from (by repeat (first | exact Sub.nil _ | refine Sub.cons pk ?_)))
  clear s4 s5 j5
  go_upto_region 16 with (first | ((with_reducible refine iD 135 (.buildSlice 25 _ _) ?_); refine step_build8 S 2 _ [0, 1] (by first | rfl | kernel_rfl) rfl (by decide) gw ?_; clear S; intro v135 w S) | (go_at_call 34; (with_reducible refine (PD1.out _ _ (S.bs (v := v135) pk)).mono ?_); rintro e w1 ⟨y1q, rfl, T⟩; replace S := S.call T; clear T; (try simp only [z4, z5] at S)) | (go_at_call 34; (with_reducible refine (PD2.out _ _ (S.bs (v := v140) pk)).mono ?_); rintro e w1 ⟨y2q, rfl, T⟩; replace S := S.call T; clear T; (try simp only [z4, z5] at S)) | (go_at_call 34; (with_reducible refine (PD3.out _ _ (S.bs (v := v149) pk)).mono ?_); rintro e w1 ⟨y3q, rfl, T⟩; replace S := S.call T; clear T; (try simp only [z4, z5] at S)) | ((with_reducible refine iD 140 (.buildSlice 25 _ _) ?_); refine step_build8 S 3 _ [0, 3, 4] (by first | rfl | kernel_rfl) rfl (by decide) gw ?_; clear S; intro v140 w S) | ((with_reducible refine iD 145 (.buildSlice 25 0 _) ?_); refine step_build8 S 0 _ [] (by first | rfl | kernel_rfl) rfl (by decide) gw ?_; clear S; intro v145 w S) | (at_builtin; refine step_append8 S (.tmp 145) (.tmp 146) _ _ rfl pk _ _ rfl bS lE gw ?_; clear S; intro v147 w S; (try simp only [z4] at S)) | ((with_reducible refine iD 148 (.buildSlice 25 _ _) ?_); refine step_build8 S 1 _ [0] (by first | rfl | kernel_rfl) rfl (by decide) gw ?_; clear S; intro v148 w S) | (at_builtin; refine step_append8 S (.tmp 147) (.tmp 148) _ _ rfl pk _ _ rfl bS lE gw ?_; clear S; intro v149 w S; (try simp only [z4] at S)) | fail)
  have S := S.nil
  clear j4
  go_upto_region 22 with (first | ((with_reducible refine iD 164 (.build 79 _) ?_); refine step_buildC _ _ _ _ BR1.out (by first | (simp [Act.eval]; done) | rfl | (simp only [List.map_toArray, List.map_cons, List.map_nil]; rfl)) gw ?_) | ((with_reducible refine iD 169 (.build 79 _) ?_); refine step_buildC _ _ _ _ BR2.out (by first | (simp [Act.eval]; done) | rfl | (simp only [List.map_toArray, List.map_cons, List.map_nil]; rfl)) gw ?_) | ((with_reducible refine iD 174 (.build 95 _) ?_); refine step_buildC _ _ _ _ BSG.out (by first | (simp [Act.eval]; done) | rfl | (simp only [List.map_toArray, List.map_cons, List.map_nil]; rfl)) gw ?_) | ((with_reducible refine iD 176 (.build 79 _) ?_); refine step_buildC _ _ _ _ (BRW.out a175 c175) (by first | (simp [Act.eval]; done) | rfl | (simp only [List.map_toArray, List.map_cons, List.map_nil]; rfl)) gw ?_) | ((with_reducible refine iD 180 (.build 79 _) ?_); refine step_buildC _ _ _ _ BR3.out (by first | (simp [Act.eval]; done) | rfl | (simp only [List.map_toArray, List.map_cons, List.map_nil]; rfl)) gw ?_) | ((with_reducible refine iD 184 (.build 79 _) ?_); refine step_buildC _ _ _ _ BR0.out (by first | (simp [Act.eval]; done) | rfl | (simp only [List.map_toArray, List.map_cons, List.map_nil]; rfl)) gw ?_) | ((with_reducible refine iD 189 (.build 79 _) ?_); refine step_buildC _ _ _ _ BR4.out (by first | (simp [Act.eval]; done) | rfl | (simp only [List.map_toArray, List.map_cons, List.map_nil]; rfl)) gw ?_) | ((with_reducible refine iD 175 (.buildSlice 77 _ _) ?_); refine step_buildSg1 S (.tmp 174) SG rfl gw ?_; clear S; intro v175 w S; obtain ⟨a175, c175, rfl, _, _⟩ := Sl.shape (S.sl (v := v175) (xs := [SG].flatMap sgtL) pk); replace S : Has w0 w (row (.slice a175 1 c175) 95 3 1 ([SG].flatMap sgtL) :: _) := S) | ((with_reducible refine iD 221 (.convert 25 9 _) ?_); refine step_conv 25 9 5 (.tmp 220) _ (Y3.drop 13) rfl Tryd.underlying25 Tryd.underlying5 Tryd.underlying9 (Bs.cutL (S.bs (v := .slice a15 Y3.length c15) pk) 13 U3'.out rfl) gw ?_) | (go_at_call 38; (with_reducible refine (PE1.out _).mono ?_); rintro e w1 ⟨v13, rfl, T⟩; replace S := S.call T; clear T; (try simp only [z4, z5] at S); obtain ⟨a13, c13, rfl, _, _⟩ := Sl.shape (S.bs (v := v13) (xs := Y1) pk)) | (go_at_call 38; (with_reducible refine (PE2.out _).mono ?_); rintro e w1 ⟨v14, rfl, T⟩; replace S := S.call T; clear T; (try simp only [z4, z5] at S)) | (go_at_call 38; (with_reducible refine (PE3.out a175 c175 _ (S.sl (v := .slice a175 1 c175) (xs := [SG].flatMap sgtL) pk)).mono ?_); rintro e w1 ⟨v15, rfl, T⟩; replace S := S.call T; clear T; (try simp only [z4, z5] at S); obtain ⟨a15, c15, rfl, _, _⟩ := Sl.shape (S.bs (v := v15) (xs := Y3) pk)) | (go_at_call 41; (with_reducible refine (PC1.out _).mono ?_); rintro e w1 ⟨rfl, T⟩; replace S := S.call T; clear T; (try simp only [z4, z5] at S)) | (go_at_call 41; (with_reducible refine (PC2.out _).mono ?_); rintro e w1 ⟨rfl, T⟩; replace S := S.call T; clear T; (try simp only [z4, z5] at S)) | (go_at_call 41; (with_reducible refine (PC3.out _).mono ?_); rintro e w1 ⟨rfl, T⟩; replace S := S.call T; clear T; (try simp only [z4, z5] at S)) | ((with_reducible refine iO _ (.convert 25 9 _) ?_); refine step_conv 25 9 5 _ _ _ rfl Tryd.underlying25 Tryd.underlying5 Tryd.underlying9 bS gw ?_) | ((with_reducible refine iO _ (.slice 25 _ _ _ _) ?_); refine step_cutL 25 5 1 _ _ _ _ _ _ _ 13 rfl rfl (by first | rfl | omega) (by first | (first | omega | assumption | (exact Hid.out (by assumption)) | (simp only [List.length_append, List.length_cons, List.length_nil]; omega)) | decide) Tryd.underlying25 kR gw ?_) | fail)
  have S := S.sub (show Sub _ [row8 (.slice a13 Y1.length c13) Y1] from (by repeat (first | exact Sub.nil _ | refine Sub.cons pk ?_)))
  clear t1 t2 t3 u3
  go_upto_region 26 with (first | ((with_reducible refine iO _ (.slice 25 _ _ _ _) ?_); refine step_cutH 25 5 1 _ _ _ _ _ _ _ 12 rfl rfl (by first | rfl | omega) (by first | (first | omega | assumption | (exact Hid.out (by assumption)) | (simp only [List.length_append, List.length_cons, List.length_nil]; omega)) | decide) Tryd.underlying25 kR gw ?_) | (go_at_call 39; (with_reducible refine (PF1.out _ _ (Bs.cutH (S.bs (v := .slice a13 Y1.length c13) pk) 12 U1'.out rfl)).mono ?_); rintro e w1 ⟨y4q, rfl, T⟩; replace S := S.call T; clear T; (try simp only [z4, z5] at S)) | (go_at_call 39; (with_reducible refine (PF2.out _ _ (S.bs (v := v239) pk)).mono ?_); rintro e w1 ⟨y5q, rfl, T⟩; replace S := S.call T; clear T; (try simp only [z4, z5] at S)) | ((with_reducible refine iD 235 (.buildSlice 25 0 _) ?_); refine step_build8 S 0 _ [] (by first | rfl | kernel_rfl) rfl (by decide) gw ?_; clear S; intro v235 w S) | (at_builtin; refine step_append8 S (.tmp 235) (.tmp 236) _ _ rfl pk _ _ rfl bS lE gw ?_; clear S; intro v237 w S; (try simp only [z4] at S)) | ((with_reducible refine iD 238 (.buildSlice 25 _ _) ?_); refine step_build8 S 1 _ [0] (by first | rfl | kernel_rfl) rfl (by decide) gw ?_; clear S; intro v238 w S) | (at_builtin; refine step_append8 S (.tmp 237) (.tmp 238) _ _ rfl pk _ _ rfl bS lE gw ?_; clear S; intro v239 w S; (try simp only [z4] at S)) | fail)
  have S := S.nil
  clear u1
  go_upto_region 27 with (first | ((with_reducible refine iD 250 (.build 40 _) ?_); refine step_buildZ 40 _ LZ.out gw ?_) | ((with_reducible refine iO none (.store 40 (.tmp 16) (.tmp 253)) ?_); refine step_store S 40 (.tmp 16) (.tmp 253) _ _ rfl rfl _ _ pk 34 kR (lgL_size _ _) (lgL_size _ _) (lgL_one _ _ (one_sl (S.sl (v := rv) pk)).1) gw ?_; clear S; intro w S) | ((with_reducible refine iD 251 (.buildSlice 25 _ _) ?_); refine step_build8 S 2 _ [0, 2] (by first | rfl | kernel_rfl) rfl (by decide) gw ?_; clear S; intro v251 w S) | (go_at_call 21; (with_reducible refine (PA1.out _ _ (S.bs (v := v251) pk) kT).mono ?_); rintro e w1 ⟨rv, rfl, T⟩; replace S := S.call T; clear T; (try simp only [z4, z5] at S); rw [E3.out] at S) | ((with_reducible refine iD 16 (.alloc 40) ?_); refine step_alloc (dst := some 16) S 40 (.agg ((lgL lgZ (.slice none 0 0)).toArray)) ((lgL lgZ (.slice none 0 0)).toArray) kR rfl gw ?_; clear S; intro g16 w S) | fail)
  have S := S.sub (show Sub _ [blk g16 (.cells (lgL g rv).toArray 40 (0, 0)), rowRc rv [x]] from (by repeat (first | exact Sub.nil _ | refine Sub.cons pk ?_)))
  replace S : Has w0 w [blk g16 (.cells (lgL g rv).toArray 40 (0, 0)), row rv 50 35 1 ([x].flatMap rcdL)] := S
  go_upto_region 28 with (first | ((with_reducible refine iO _ (.load 40 _) ?_); first | (refine step_load S 40 _ _ rfl _ _ _ pk _ Tryd.underlying40 rfl 34 kR lN gw ?_) | (refine step_loadO 40 _ _ rfl _ _ _ (S.old_heap (Hid.out (by assumption))) _ Tryd.underlying40 rfl 34 kR lN gw ?_) | (refine step_loadR 40 _ _ _ rfl _ (S.old_range hy) _ Tryd.underlying40 rfl 34 kR lN _ rfl gw ?_)) | (go_at_call 26; (with_reducible refine (PS0.out rv _ (S.sl (v := rv) pk)).mono ?_); rintro e w1 ⟨v17, rfl, T⟩; replace S := S.call T; clear T; (try simp only [z4, z5] at S)) | fail)
  obtain ⟨gs, cs, rfl, _⟩ := S.row_at (v := v17) (xs := [x].flatMap rcdL) pk (by simp)
  replace S : Has w0 _ [row (.slice (some ⟨gs, 0, none⟩) 1 cs) 50 35 1 ([x].flatMap rcdL), blk g16 (.cells (lgL g rv).toArray 40 (0, 0)), row rv 50 35 1 ([x].flatMap rcdL)] := S
  go_upto_region 29 with (first | ((with_reducible refine iO _ (.load 40 _) ?_); first | (refine step_load S 40 _ _ rfl _ _ _ pk _ Tryd.underlying40 rfl 34 kR lN gw ?_) | (refine step_loadO 40 _ _ rfl _ _ _ (S.old_heap (Hid.out (by assumption))) _ Tryd.underlying40 rfl 34 kR lN gw ?_) | (refine step_loadR 40 _ _ _ rfl _ (S.old_range hy) _ Tryd.underlying40 rfl 34 kR lN _ rfl gw ?_)) | (go_at_call 26; (with_reducible refine (PS1.out rv _ (S.sl (v := rv) pk)).mono ?_); rintro e w1 ⟨v18, rfl, T⟩; replace S := S.call T; clear T; (try simp only [z4, z5] at S)) | fail)
  obtain ⟨a18, c18, rfl, _, _⟩ := Sl.shape (S.sl (v := v18) (xs := ([] : List Rcd).flatMap rcdL) pk)
  have S := S.sub (show Sub _ [row (.slice (some ⟨gs, 0, none⟩) 1 cs) 50 35 1 ([x].flatMap rcdL), blk g16 (.cells (lgL g rv).toArray 40 (0, 0)), row rv 50 35 1 ([x].flatMap rcdL)] from (by repeat (first | exact Sub.nil _ | refine Sub.cons pk ?_)))
  go_upto_region 31 with (first | ((with_reducible refine iD 280 (.load 23 _) ?_); refine step_load1 23 (.tmp 279) _ _ rfl (KC0.out gs cs _ (S.sl (v := .slice (some ⟨gs, 0, none⟩) 1 cs) pk)) _ Tryd.underlying23 rfl gw ?_) | ((with_reducible refine iD 287 (.load 5 _) ?_); refine step_load1 5 (.tmp 286) _ _ rfl (KC1.out gs cs _ (S.sl (v := .slice (some ⟨gs, 0, none⟩) 1 cs) pk)) _ Tryd.underlying5 rfl gw ?_) | fail)
  go_upto_region 33 with (first | ((with_reducible refine iO _ (.load 40 _) ?_); first | (refine step_load S 40 _ _ rfl _ _ _ pk _ Tryd.underlying40 rfl 34 kR lN gw ?_) | (refine step_loadO 40 _ _ rfl _ _ _ (S.old_heap (Hid.out (by assumption))) _ Tryd.underlying40 rfl 34 kR lN gw ?_) | (refine step_loadR 40 _ _ _ rfl _ (S.old_range hy) _ Tryd.underlying40 rfl 34 kR lN _ rfl gw ?_)) | (go_at_call 21; (with_reducible refine (PB1.out rv _ (S.sl (v := rv) pk) kT).mono ?_); rintro e w1 ⟨y9q, rfl, T⟩; replace S := S.call T; clear T; (try simp only [z4, z5] at S)) | (go_at_call 21; (with_reducible refine (PB2.out rv _ (S.sl (v := rv) pk) kT).mono ?_); rintro e w1 ⟨y10q, rfl, T⟩; replace S := S.call T; clear T; (try simp only [z4, z5] at S)) | fail)
  generalize [x].flatMap rcdL = XL at S PB3 PV1 PV2
  refine wp_rely S [sv [] (.agg (lgL g rv).toArray), ⟨[], [], [], fun _ v => True, fun _ v => [row8 v (zs8 65)]⟩, ⟨[0, 1], [], [1], fun _ v => ∃ y, v = .tuple #[y, .int .i64 4], fun _ v => []⟩, ⟨[0, 1, 2], [], [], fun d v => v = d 2, fun _ v => []⟩, ⟨[0, 1, 2, 3], [], [], fun d v => v = tupAt (d 2) 0, fun _ v => []⟩, ⟨[0, 1, 2, 3], [], [], fun d v => v = tupAt (d 2) 1, fun _ v => []⟩, ⟨[0, 1, 2, 3, 4, 5], [], [], fun d v => v = (tupAt (d 2) 1), fun _ v => []⟩] ?A1 ?hA1 kR kR kR [0, 1, 2, 3, 4, 5, 6] kR ?hok1 ?fin1
  case hA1 => intro u; simp only [putAll, List.length_cons, List.length_nil, Nat.zero_add, Nat.reduceAdd, dstAt, List.getElem?_toArray, List.getElem?_cons_zero, List.getElem?_cons_succ, Option.bind_some, Act.put, List.setIfInBounds_toArray, List.set_cons_zero, List.set_cons_succ]; rfl
  case hok1 =>
    intro i hi
    obtain rfl | rfl | rfl | rfl | rfl | rfl | rfl : i = 0 ∨ i = 1 ∨ i = 2 ∨ i = 3 ∨ i = 4 ∨ i = 5 ∨ i = 6 := by simp only [List.length_cons, List.length_nil, Nat.zero_add, Nat.reduceAdd] at hi; omega
    · clear hi
      refine step_of rfl rfl rfl ?_
      intro u G w hf S
      simp only [fl, z4, z5, z6, z7, ptrBlk, tupAt20, tupAt21, tupAt30, tupAt31, tupAt32] at S ⊢
      refine does_load 40 (.tmp 16) g16 rfl _ _ _ (S.get (r := blk g16 _) pk) _ Tryd.underlying40 rfl 34 kR lN ?_; exact ⟨rfl, S⟩
    · clear hi
      refine step_of rfl rfl rfl ?_
      intro u G w hf S
      simp only [fl, z4, z5, z6, z7, ptrBlk, tupAt20, tupAt21, tupAt30, tupAt31, tupAt32] at S ⊢
      refine does_make8 S _ _ 65 _ rfl rfl rfl (by decide) ?_; intro y w1 S; exact ⟨trivial, S⟩
    · clear hi
      refine step_of rfl rfl rfl ?_
      intro u G w hf S
      have f0 : u 0 = .agg (lgL g rv).toArray := hf 0 (by simp)
      simp only [fl, z4, z5, z6, z7, ptrBlk, tupAt20, tupAt21, tupAt30, tupAt31, tupAt32] at S ⊢
      simp only [f0, tupAt20, tupAt21, tupAt30, tupAt31, tupAt32] at S ⊢
      try simp only [ptrBlk] at S
      refine does_fn (args := [(.agg (lgL g rv).toArray), (.int .u64 4), (.int .u8 1), (.int .i64 0), u 1]) Tryd.func21 kR kR (PB3.out rv (u 1) w (S.sl (v := rv) pk) (S.bs (v := u 1) pk) kT) rfl ?_
      rintro e w1 ⟨y, rfl, T⟩
      exact ⟨_, rfl, ⟨_, rfl⟩, S.call T⟩
    · clear hi
      refine step_of rfl rfl rfl ?_
      intro u G w hf S
      have f2 : ∃ y, u 2 = .tuple #[y, .int .i64 4] := hf 2 (by simp)
      obtain ⟨y312, f2⟩ := f2
      have m2 : mask [0, 1, 2] u 2 = u 2 := rfl
      simp only [fl, z4, z5, z6, z7, m2, ptrBlk, tupAt20, tupAt21, tupAt30, tupAt31, tupAt32] at S ⊢
      simp only [m2, f2, tupAt20, tupAt21, tupAt30, tupAt31, tupAt32]
      simp only [does]
      go_simp
      try first | exact S | exact ⟨vv, S⟩ | exact vv
    · clear hi
      refine step_of rfl rfl rfl ?_
      intro u G w hf S
      have f2 : ∃ y, u 2 = .tuple #[y, .int .i64 4] := hf 2 (by simp)
      obtain ⟨y312, f2⟩ := f2
      have f3 : u 3 = u 2 := hf 3 (by simp)
      have m2 : mask [0, 1, 2, 3] u 2 = u 2 := rfl
      simp only [fl, z4, z5, z6, z7, m2, ptrBlk, tupAt20, tupAt21, tupAt30, tupAt31, tupAt32] at S ⊢
      simp only [m2, f2, f3, tupAt20, tupAt21, tupAt30, tupAt31, tupAt32]
      simp only [does]
      go_simp
      try first | exact S | exact ⟨vv, S⟩ | exact vv
    · clear hi
      refine step_of rfl rfl rfl ?_
      intro u G w hf S
      have f2 : ∃ y, u 2 = .tuple #[y, .int .i64 4] := hf 2 (by simp)
      obtain ⟨y312, f2⟩ := f2
      have f3 : u 3 = u 2 := hf 3 (by simp)
      have m2 : mask [0, 1, 2, 3] u 2 = u 2 := rfl
      simp only [fl, z4, z5, z6, z7, m2, ptrBlk, tupAt20, tupAt21, tupAt30, tupAt31, tupAt32] at S ⊢
      simp only [m2, f2, f3, tupAt20, tupAt21, tupAt30, tupAt31, tupAt32]
      simp only [does]
      go_simp
      try first | exact S | exact ⟨vv, S⟩ | exact vv
    · clear hi
      refine step_of rfl rfl rfl ?_
      intro u G w hf S
      have f2 : ∃ y, u 2 = .tuple #[y, .int .i64 4] := hf 2 (by simp)
      obtain ⟨y312, f2⟩ := f2
      have f5 : u 5 = tupAt (u 2) 1 := hf 5 (by simp)
      have m2 : mask [0, 1, 2, 3, 4, 5] u 2 = u 2 := rfl
      simp only [fl, z4, z5, z6, z7, m2, ptrBlk, tupAt20, tupAt21, tupAt30, tupAt31, tupAt32] at S ⊢
      simp only [m2, f2, f5, tupAt20, tupAt21, tupAt30, tupAt31, tupAt32]
      simp only [does]
      go_simp
      try first | exact S | exact ⟨vv, S⟩ | exact vv
  case fin1 =>
    intro u w hf S
    have f2 : ∃ y, u 2 = .tuple #[y, .int .i64 4] := hf 2 (by simp)
    obtain ⟨y312, f2⟩ := f2
    have m3_2 : mask [0, 1, 2] u 2 = u 2 := rfl
    have m4_2 : mask [0, 1, 2, 3] u 2 = u 2 := rfl
    have m5_2 : mask [0, 1, 2, 3] u 2 = u 2 := rfl
    have m6_2 : mask [0, 1, 2, 3, 4, 5] u 2 = u 2 := rfl
    have hvA := allV hf
    simp only [AllV, RSpec.valAt, sv, Nat.zero_add, Nat.reduceAdd, m3_2, m4_2, m5_2, m6_2] at hvA
    simp only [fl, z4, z5, z6, z7, m3_2, m4_2, m5_2, m6_2, ptrBlk, tupAt20, tupAt21, tupAt30, tupAt31, tupAt32] at S
    clear hf
    simp only [List.length_cons, List.length_nil, Nat.zero_add, Nat.reduceAdd, List.drop_succ_cons, List.drop_zero, f2, hvA, tupAt20, tupAt21, tupAt30, tupAt31, tupAt32]
    try simp only [f2, hvA, tupAt20, tupAt21, tupAt30, tupAt31, tupAt32, ptrBlk] at S
    clear f2 hvA m3_2 m4_2 m5_2 m6_2
    generalize u 1 = v311 at S ⊢
    go_wp2_with (first | ((with_reducible refine iD 316 (.build 22 _) ?_); refine step_buildZ 22 _ AZ.out gw ?_) | ((with_reducible refine iD 324 (.build 22 _) ?_); refine step_buildZ 22 _ AZ.out gw ?_) | ((with_reducible refine iD 319 (.buildSlice 32 _ _) ?_); refine step_buildF1 S (.tmp 318) v318 rfl (one_sl (S.sl (v := v318) pk)).2 gw ?_; clear S; intro v319 w S) | ((with_reducible refine iD 340 (.build 40 _) ?_); refine step_buildC _ _ _ _ BL1.out (by first | (simp [Act.eval]; done) | rfl | (simp only [List.map_toArray, List.map_cons, List.map_nil]; rfl)) gw ?_) | ((with_reducible refine iD 318 (.buildSlice 25 _ _) ?_); refine step_build8 S 2 _ [0, 3] (by first | rfl | kernel_rfl) rfl (by decide) gw ?_; clear S; intro v318 w S) | (go_at_call 18; (with_reducible refine (PV1.out (.slice (some ⟨gs, 0, none⟩) 1 cs) v319 v318 _ (S.sl (v := .slice (some ⟨gs, 0, none⟩) 1 cs) pk) (fr1 (S.sl (v := v319) pk) (S.bs (v := v318) pk)) kT).mono ?_); rintro e w1 ⟨rfl, T⟩; replace S := S.call T; clear T; (try simp only [z4, z5] at S)) | (go_at_call 18; (with_reducible refine (PV2.out (.slice (some ⟨gs, 0, none⟩) 1 cs) _ (S.sl (v := .slice (some ⟨gs, 0, none⟩) 1 cs) pk) kT).mono ?_); rintro e w1 ⟨rfl, T⟩; replace S := S.call T; clear T; (try simp only [z4, z5] at S)) | (go_at_call 23; (with_reducible refine (PCL.out _).mono ?_); rintro e w1 ⟨rfl, T⟩; replace S := S.call T; clear T; (try simp only [z4, z5] at S)) | fail)
    go_ret
    exact ⟨rfl, S.nil⟩
end Go.Proofs.YtfhkmmagpnojmaaDoor

/- What the rows' lists of variables give, a world that meets them, and how arrays that came in read. No condition. -/
namespace Go.Proofs.YtfhkmmagpnojmaaDoor
open Go.ChangeShapes Go.WideShapes Go.ChangeAt Go.RowKit

namespace Laid
theorem gTab : Tryd.prog.globalNamed "dunnage/digest.constants" = some 0 := by kernel_rfl
theorem gTabType : (Tryd.prog.globals[0]?).map (·.type) = some 178 := by kernel_rfl
theorem cellsT : Tryd.prog.cellsOf 178 = 64 := by kernel_rfl
theorem cellsE : Tryd.prog.cellsOf 38 = 1 := by kernel_rfl
def kInts : List Int := kTab.map fun x => (x.toNat : Int)
theorem kInts_eq : kInts.map (fun z => Value.int .u32 z) = kTab.map U32 := by
  unfold kInts
  rw [List.map_map]
  rfl
theorem tab_eq : (Rows.laid_dunnage_digest_constants : DataW Unit) = Lib.tabData .u32 kInts := by kernel_rfl
def list_digest : List (String × DataW Unit) := [("dunnage/digest.constants", Rows.laid_dunnage_digest_constants)]
theorem table_digest {W : World} (h : laidMetH Tryd.prog list_digest W) : KT W := by
  have h1 : laidMet Tryd.prog [("dunnage/digest.constants", Rows.laid_dunnage_digest_constants)] W := h
  rw [tab_eq] at h1
  have h2 := Lib.tabIs_of_head (rest := []) gTab gTabType Tryd.underlying178 Tryd.underlying38 cellsE cellsT h1
  unfold Lib.TabIs at h2
  rw [kInts_eq] at h2
  exact KT.of_var h2
noncomputable def world_digest (os : Os) : World :=
  { World.holding Tryd.prog os ⟨#[], #[], []⟩ with heap := (World.holding Tryd.prog os ⟨#[], #[], []⟩).heap.modify 0 fun
      | .cells _ t frozen => .cells (kTab.map U32).toArray t frozen
      | o => o }
end Laid

end Go.Proofs.YtfhkmmagpnojmaaDoor
