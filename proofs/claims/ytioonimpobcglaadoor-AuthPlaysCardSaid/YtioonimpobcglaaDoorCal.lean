/- The calls of a script in plain words, and how calls that came in read; tokens appended to a slice of one's own; flipped. No condition. -/
import Derived.Test.YtioonimpobcglaaDoorBa
import Derived.Test.YtioonimpobcglaaDoorBe
import Derived.Test.YtioonimpobcglaaDoorTokD
import Derived.Test.YtioonimpobcglaaDoorBc
set_option linter.unusedSimpArgs false
set_option linter.unusedVariables false
namespace Go.Proofs.YtioonimpobcglaaDoor
open Go.ChangeShapes Go.WideShapes Go.ChangeAt Go.RowKit Go.Deep

/-- A call of a script. -/
structure Cal where
  do_ : UInt8
  role : UInt8
  life : UInt64
  now : UInt64
  serial : UInt32
  pick : UInt8
  kind : UInt8
  tenant : Int
  flip : UInt16
  lo : -9223372036854775808 ≤ tenant
  hi : tenant ≤ 9223372036854775807

def calZ : Cal := ⟨0, 0, 0, 0, 0, 0, 0, 0, 0, by decide, by decide⟩
instance : Inhabited Cal := ⟨calZ⟩
def calL (c : Cal) : List Value := [.int .u8 (c.do_.toNat : Int), .int .u8 (c.role.toNat : Int), .int .u64 (c.life.toNat : Int), .int .u64 (c.now.toNat : Int), .int .u32 (c.serial.toNat : Int), .int .u8 (c.pick.toNat : Int), .int .u8 (c.kind.toNat : Int), .int .i64 c.tenant, .int .u16 (c.flip.toNat : Int)]
theorem calL_length (c : Cal) : (calL c).length = 9 := rfl
theorem calL_size (c : Cal) : (calL c).toArray.size = 9 := rfl
theorem calL_one (c : Cal) : (calL c).toArray.all (·.oneCell') = true := by simp [calL, one_int]
theorem calL_0 (c : Cal) : (calL c).toArray[0]? = some (.int .u8 (c.do_.toNat : Int)) := rfl
theorem calL_1 (c : Cal) : (calL c).toArray[1]? = some (.int .u8 (c.role.toNat : Int)) := rfl
theorem calL_2 (c : Cal) : (calL c).toArray[2]? = some (.int .u64 (c.life.toNat : Int)) := rfl
theorem calL_3 (c : Cal) : (calL c).toArray[3]? = some (.int .u64 (c.now.toNat : Int)) := rfl
theorem calL_4 (c : Cal) : (calL c).toArray[4]? = some (.int .u32 (c.serial.toNat : Int)) := rfl
theorem calL_5 (c : Cal) : (calL c).toArray[5]? = some (.int .u8 (c.pick.toNat : Int)) := rfl
theorem calL_6 (c : Cal) : (calL c).toArray[6]? = some (.int .u8 (c.kind.toNat : Int)) := rfl
theorem calL_7 (c : Cal) : (calL c).toArray[7]? = some (.int .i64 c.tenant) := rfl
theorem calL_8 (c : Cal) : (calL c).toArray[8]? = some (.int .u16 (c.flip.toNat : Int)) := rfl
abbrev Cs (w : World) (v : Value) (l : List Cal) : Prop := Sl w 9 v l.length (l.flatMap calL)

theorem drop_splitC (cs : List Value) (k n : Nat) : cs.drop k = (cs.drop k).take n ++ cs.drop (k + n) := by
  rw [← List.drop_drop, List.take_append_drop]

set_option maxRecDepth 100000 in
theorem open_calls {H : Type} {enc : TypeId × Value → H} {W : World} {base base2 : Nat} {spare : Nat → Bool} {held : Bool} {v : Value} {d : DataW H} {pl : List MemPlace} (hsp : ∀ b, spare b = true)
    (hok : Value.okWide Tryd.prog W .any base2 66 v) (h : DataW.Trod enc Tryd.prog W base spare held 66 v d pl) :
    ∃ l : List Cal, Cs W v l := by
  obtain ⟨fuel, hf⟩ := open_slice1 Tryd.underlying66 hok h
  obtain ⟨v', xs, hv, hs, hl, _⟩ := rd_slice calL (fun _ _ => True) 9 (by decide) hsp Tryd.underlying66 (by kernel_rfl) calL_length (fun m cs' y hy => by
    obtain ⟨hl, hfd⟩ := rd_struct Tryd.underlying70 hy
    have hc : Tryd.prog.cellsOf 70 = 9 := by kernel_rfl
    have hc_uint8 : Tryd.prog.cellsOf 5 = 1 := by kernel_rfl
    have hc_uint64 : Tryd.prog.cellsOf 23 = 1 := by kernel_rfl
    have hc_uint32 : Tryd.prog.cellsOf 24 = 1 := by kernel_rfl
    have hc_int : Tryd.prog.cellsOf 3 = 1 := by kernel_rfl
    have hc_uint16 : Tryd.prog.cellsOf 68 = 1 := by kernel_rfl
    rw [hc] at hl
    obtain ⟨m0, y0, h0, _⟩ := hfd 0 _ rfl
    obtain ⟨m1, y1, h1, _⟩ := hfd 1 _ rfl
    obtain ⟨m2, y2, h2, _⟩ := hfd 2 _ rfl
    obtain ⟨m3, y3, h3, _⟩ := hfd 3 _ rfl
    obtain ⟨m4, y4, h4, _⟩ := hfd 4 _ rfl
    obtain ⟨m5, y5, h5, _⟩ := hfd 5 _ rfl
    obtain ⟨m6, y6, h6, _⟩ := hfd 6 _ rfl
    obtain ⟨m7, y7, h7, _⟩ := hfd 7 _ rfl
    obtain ⟨m8, y8, h8, _⟩ := hfd 8 _ rfl
    simp only [List.getElem_toArray, List.getElem_cons_zero, List.getElem_cons_succ] at h0 h1 h2 h3 h4 h5 h6 h7 h8
    rw [hc_uint8] at h0
    obtain ⟨z0, hz0, _, hw0⟩ := DataW.trod_int Tryd.underlying5 h0
    have b0 := bounds_u8 hw0
    rw [hc_uint8] at h1
    obtain ⟨z1, hz1, _, hw1⟩ := DataW.trod_int Tryd.underlying5 h1
    have b1 := bounds_u8 hw1
    rw [hc_uint64] at h2
    obtain ⟨z2, hz2, _, hw2⟩ := DataW.trod_int Tryd.underlying23 h2
    have b2 := bounds_u64 hw2
    rw [hc_uint64] at h3
    obtain ⟨z3, hz3, _, hw3⟩ := DataW.trod_int Tryd.underlying23 h3
    have b3 := bounds_u64 hw3
    rw [hc_uint32] at h4
    obtain ⟨z4, hz4, _, hw4⟩ := DataW.trod_int Tryd.underlying24 h4
    have b4 := bounds_u32 hw4
    rw [hc_uint8] at h5
    obtain ⟨z5, hz5, _, hw5⟩ := DataW.trod_int Tryd.underlying5 h5
    have b5 := bounds_u8 hw5
    rw [hc_uint8] at h6
    obtain ⟨z6, hz6, _, hw6⟩ := DataW.trod_int Tryd.underlying5 h6
    have b6 := bounds_u8 hw6
    rw [hc_int] at h7
    obtain ⟨z7, hz7, _, hw7⟩ := DataW.trod_int Tryd.underlying3 h7
    have b7 := bounds_i64 hw7
    rw [hc_uint16] at h8
    obtain ⟨z8, hz8, _, hw8⟩ := DataW.trod_int Tryd.underlying68 h8
    have b8 := bounds_u16 hw8
    refine ⟨⟨UInt8.ofNat z0.toNat, UInt8.ofNat z1.toNat, UInt64.ofNat z2.toNat, UInt64.ofNat z3.toNat, UInt32.ofNat z4.toNat, UInt8.ofNat z5.toNat, UInt8.ofNat z6.toNat, z7, UInt16.ofNat z8.toNat, by omega, by omega⟩, ?_, trivial⟩
    have ee : cs'.drop 9 = [] := List.drop_of_length_le (by omega)
    have e0 : cs' = cs'.drop 0 := rfl
    rw [e0, drop_splitC cs' 0 1, hz0, drop_splitC cs' 1 1, hz1, drop_splitC cs' 2 1, hz2, drop_splitC cs' 3 1, hz3, drop_splitC cs' 4 1, hz4, drop_splitC cs' 5 1, hz5, drop_splitC cs' 6 1, hz6, drop_splitC cs' 7 1, hz7, drop_splitC cs' 8 1, hz8, ee]
    simp only [calL, List.cons_append, List.nil_append, List.cons.injEq, Value.int.injEq, true_and, UInt64.toNat_ofNat', UInt8.toNat_ofNat', UInt32.toNat_ofNat', UInt16.toNat_ofNat', and_true]
    omega) hf
  obtain rfl : v = v' := by simpa using hv
  exact ⟨xs, hs⟩

theorem tokL_all (l : List Tok) : ∀ u ∈ l.flatMap tokL, u.oneCell' = true := by
  intro u hu
  obtain ⟨m, _, hm⟩ := List.mem_flatMap.1 hu
  have := tokL_one m
  rw [Array.all_eq_true'] at this
  exact this u (by simpa using hm)

/-- Tokens with an array of their own. -/
abbrev rowT (v : Value) (l : List Tok) : Res := row v 27 36 l.length (l.flatMap tokL)
abbrev Tg (w : World) (v : Value) (l : List Tok) : Prop := Sl w 36 v l.length (l.flatMap tokL)

set_option maxRecDepth 100000 in
theorem infoT2 : (Tryd.prog.info? 27).map (fun i => (i.zero, i.size)) = some (some (.agg (tokL tokZ).toArray), 36) := by kernel_rfl
set_option maxRecDepth 100000 in
theorem infoT : (Tryd.prog.info? 27).map (fun i => (i.zero, i.size, i.bytes)) = some (some (.agg (tokL tokZ).toArray), 36, 56) := by kernel_rfl

/-- append of tokens onto a slice of one's own. -/
theorem step_appendT {ops : Array Oper} {rest : List Oper} {a : Act} {w0 w : World} {l F : List Res} {Q : Exit → Act → World → Prop} {dst : Option Tmp} {ty : TypeId} {pos : String} {after : Array Edge} {gd : Option (Nat × Bool)} (S : Has w0 w l) (s x : Operand)
    (v : Value) (xs : List Tok) (hs : a.eval s = v) (hp : Pick l (rowT v xs) F) (src : Value) (ys : List Tok) (hx : a.eval x = src) (hsrc : Tg w src ys) (hlen : (xs.length + ys.length) * 56 ≤ 140737488355328)
    (hw : Region.wanted ⟨dst, .call { callee := .builtin .append, args := #[s, x], argTypes := #[67, 67] }, ty, pos, after, gd⟩ (yielded ops a.tmps) = true)
    (h : ∀ v' w', Has w0 w' (rowT v' (xs ++ ys) :: F) → wpList Tryd.prog ops Q rest (a.put dst v') w') :
    wpList Tryd.prog ops Q (⟨dst, .call { callee := .builtin .append, args := #[s, x], argTypes := #[67, 67] }, ty, pos, after, gd⟩ :: rest) a w := by
  refine step_append S s x 67 27 (.agg (tokL tokZ).toArray) 36 56 Tryd.underlying67 infoT rfl (by decide) v xs.length (xs.flatMap tokL) hs hp src ys.length (ys.flatMap tokL) hx hsrc (tokL_all _) (by unfold maxLen; omega) hlen hw ?_
  intro v' w' S'
  refine h v' w' ?_
  rw [← List.flatMap_append, ← List.length_append] at S'
  exact S'

theorem Has.nilT {w0 w : World} {l : List Res} (S : Has w0 w l) : Has w0 w (rowT (.slice none 0 0) [] :: l) := S.nil_row _ _

/-- A token in which one bit of its encoding is changed. -/
def flB (t : Tok) (n : Nat) : List UInt8 := (encT t).set (n / 8) ((encT t).getD (n / 8) 0 ^^^ ((1 : UInt8) <<< UInt8.ofNat (n % 8)))
def flT (t : Tok) (n : Nat) : Tok := if 368 ≤ n then t else decT (flB t n)

theorem shl1F (k : Nat) (hk : k < 8) : ((1 : UInt8) <<< (UInt8.ofNat k)).toNat = 2 ^ k := by
  have : ∀ k : Fin 8, ((1 : UInt8) <<< (UInt8.ofNat k.val)).toNat = 2 ^ k.val := by decide
  exact this ⟨k, hk⟩
end Go.Proofs.YtioonimpobcglaaDoor
