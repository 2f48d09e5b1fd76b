/- Several texts under one header: what the claim needs of Be. No condition but those that each names. -/
import Derived.Test.YtfhkmmagpnojmaaDoorYE1
import Derived.Test.YtfhkmmagpnojmaaDoorYE3
import Derived.Test.YtfhkmmagpnojmaaDoorYE0
set_option linter.unusedSimpArgs false
set_option linter.unusedVariables false

/- Several texts under one header: StC, Tag, RefTag, DigC, PutGo, Tok, TokC, TokD, NumV. No condition but those that each names. -/

/- What functions of layer 1 return, told in terms of things made. Conditions: those of the elder contracts. -/
namespace Go.Proofs.YtfhkmmagpnojmaaDoor
open Go.RowKit

theorem Has.kt {w0 w : World} {l : List Res} (S : Has w0 w l) (h : KT w0) : KT w := h.later S.below (Nat.le_refl _)
theorem Has.of_row8 {w w' : World} {v : Value} {xs : List UInt8} (hb : Below w.heap.size w w') (h : w'.ownsRow w.heap.size 5 1 v xs.length (xs.map by8)) : Has w w' [row8 v xs] := Has.of_own hb h
/-- New bytes. -/
def MadeB (w : World) (xs : List UInt8) (e : Ending) (w' : World) : Prop := ∃ v, e = .returned v ∧ Has w w' [row8 v xs]
theorem Fresh.made {w w' : World} {xs : List UInt8} {e : Ending} (h : Fresh w xs e w') : MadeB w xs e w' := by
  obtain ⟨v, he, ho, hb⟩ := h
  exact ⟨v, he, Has.of_row8 hb ho⟩
theorem sum_s (v : Value) (xs : List UInt8) (w : World) (hv : Bs w v xs) (hK : KT w) :
    Calls Tryd.prog 42 #[v] w fun e w' => e = .returned (.tuple #[.agg (arr8 (smD xs)), .int .i64 (smE xs.length)]) ∧ Has w w' [] :=
  (sum_any v xs w hv hK).mono fun _ _ h => ⟨h.1, Has.of_below h.2⟩
theorem smD_eq (xs : List UInt8) (h : xs.length ≤ 8192) : smD xs = sumD xs := if_pos h
theorem sumD_length (xs : List UInt8) : (sumD xs).length = 32 := outS_length _
/-- append of bytes onto bytes of one's own. -/
theorem step_append8 {ops : Array Oper} {rest : List Oper} {a : Act} {w0 w : World} {l F : List Res} {Q : Exit → Act → World → Prop} {dst : Option Tmp} {ty : TypeId} {pos : String} {after : Array Edge} {gd : Option (Nat × Bool)} (S : Has w0 w l) (s x : Operand)
    (v : Value) (xs : List UInt8) (hs : a.eval s = v) (hp : Pick l (row8 v xs) F) (src : Value) (ys : List UInt8) (hx : a.eval x = src) (hsrc : Bs w src ys) (hlen : xs.length + ys.length ≤ 140737488355328)
    (hw : Region.wanted ⟨dst, .call { callee := .builtin .append, args := #[s, x], argTypes := #[25, 25] }, ty, pos, after, gd⟩ (yielded ops a.tmps) = true)
    (h : ∀ v' w', Has w0 w' (row8 v' (xs ++ ys) :: F) → wpList Tryd.prog ops Q rest (a.put dst v') w') :
    wpList Tryd.prog ops Q (⟨dst, .call { callee := .builtin .append, args := #[s, x], argTypes := #[25, 25] }, ty, pos, after, gd⟩ :: rest) a w := by
  refine step_append S s x 25 5 (.int .u8 0) 1 1 Tryd.underlying25 Tryd.infoB rfl (by decide) v xs.length (xs.map by8) hs hp src ys.length (ys.map by8) hx hsrc ?_ (by unfold maxLen; omega) (by omega) hw ?_
  · intro u hu
    simp only [List.mem_map] at hu
    obtain ⟨y, _, rfl⟩ := hu
    rfl
  · intro v' w' S'
    refine h v' w' ?_
    rw [← List.map_append, ← List.length_append] at S'
    exact S'
theorem does_append8 {a : Act} {w0 w : World} {F : List Res} {dst : Option Tmp} {ty : TypeId} {pos : String} {after : Array Edge} {guard : Option (Nat × Bool)} {Post : Value → World → Prop} (s x : Operand)
    (v : Value) (xs : List UInt8) (hs : a.eval s = v) (S : Has w0 w (row8 v xs :: F)) (src : Value) (ys : List UInt8) (hx : a.eval x = src) (hsrc : Bs w src ys) (hlen : xs.length + ys.length ≤ 140737488355328)
    (h : ∀ v' w', Has w0 w' (row8 v' (xs ++ ys) :: F) → Post v' w') :
    does Tryd.prog a.eval ⟨dst, .call { callee := .builtin .append, args := #[s, x], argTypes := #[25, 25] }, ty, pos, after, guard⟩ w Post := by
  refine does_append s x 25 5 (.int .u8 0) 1 1 Tryd.underlying25 Tryd.infoB rfl (by decide) v xs.length (xs.map by8) hs S src ys.length (ys.map by8) hx hsrc ?_ (by unfold maxLen; omega) (by omega) ?_
  · intro u hu
    simp only [List.mem_map] at hu
    obtain ⟨y, _, rfl⟩ := hu
    rfl
  · intro v' w' S'
    refine h v' w' ?_
    rw [← List.map_append, ← List.length_append] at S'
    exact S'
end Go.Proofs.YtfhkmmagpnojmaaDoor

/- The tag of some bytes under a key: what digest.Tag and the specification's Tag return; new memory alone. No condition but the table of constants and the reach. -/
namespace Go.Proofs.YtfhkmmagpnojmaaDoor
open Go.RowKit

end Go.Proofs.YtfhkmmagpnojmaaDoor

/- The specification's tags, and Verify of both: what they return; new memory alone. No condition but the table of constants and the reach. -/
namespace Go.Proofs.YtfhkmmagpnojmaaDoor
open Go.RowKit

end Go.Proofs.YtfhkmmagpnojmaaDoor

/- Layer 1's functions on bytes and texts, in terms of things made. Conditions: those of the elder contracts. -/
namespace Go.Proofs.YtfhkmmagpnojmaaDoor
open Go.RowKit

/-- New bytes and an error. -/
def MadeE (w : World) (xs : List UInt8) (code : Int) (e : Ending) (w' : World) : Prop := ∃ v, e = .returned (.tuple #[v, .int .i64 code]) ∧ Has w w' [row8 v xs]
def MadeNE (w : World) (xs : List UInt8) (next code : Int) (e : Ending) (w' : World) : Prop := ∃ v, e = .returned (.tuple #[v, .int .i64 next, .int .i64 code]) ∧ Has w w' [row8 v xs]
theorem FreshE.made {w w' : World} {xs : List UInt8} {c : Int} {e : Ending} (h : FreshE w xs c e w') : MadeE w xs c e w' := by
  obtain ⟨v, he, ho, hb⟩ := h
  exact ⟨v, he, Has.of_row8 hb ho⟩
theorem putUint_s (v : Value) (xs : List UInt8) (n : Nat) (ni s : Int) (hni : ni = (n : Int)) (w : World) (hv : Bs w v xs) (hl : xs.length ≤ 140737488355328) (hn : n < 18446744073709551616) (hs : -9223372036854775808 ≤ s ∧ s ≤ 9223372036854775807) :
    Calls Tryd.prog 43 #[v, .int .u64 ni, .int .i64 s] w (MadeE w (putR xs n s) (putE xs.length n s)) := by
  subst hni
  exact (putUint_any v xs n s w hv hl hn hs).mono fun _ _ h => FreshE.made h
theorem takeBytes_s (v : Value) (xs : List UInt8) (p n : Int) (w : World) (hv : Bs w v xs) (hl : xs.length ≤ 140737488355328)
    (hp : -9223372036854775808 ≤ p ∧ p ≤ 9223372036854775807) (hn : -9223372036854775808 ≤ n ∧ n ≤ 9223372036854775807) :
    Calls Tryd.prog 85 #[v, .int .i64 p, .int .i64 n] w (MadeNE w (takeR xs p n) (takeN xs.length p n) (takeE xs.length p n)) :=
  (takeBytes_any v xs p n w hv hl hp hn).mono fun _ _ h => by
    obtain ⟨v, he, ho, hb⟩ := h
    exact ⟨v, he, Has.of_row8 hb ho⟩
theorem takeUint_s (v : Value) (xs : List UInt8) (p s : Int) (w : World) (hv : Bs w v xs) (hl : xs.length ≤ 140737488355328)
    (hp : -9223372036854775808 ≤ p ∧ p ≤ 9223372036854775807) (hs : -9223372036854775808 ≤ s ∧ s ≤ 9223372036854775807) :
    Calls Tryd.prog 84 #[v, .int .i64 p, .int .i64 s] w fun e w' =>
      e = .returned (.tuple #[.int .u64 (tuV xs p s : Nat), .int .i64 (tuN xs.length p s), .int .i64 (tuE xs.length p s)]) ∧ Has w w' [] :=
  (takeUint_any v xs p s w hv hl hp hs).mono fun _ _ h => ⟨h.1, Has.of_below h.2⟩
theorem strB_list (xs : List UInt8) : (strB xs).data.toList = xs := rfl
end Go.Proofs.YtfhkmmagpnojmaaDoor

/- Numbers that are put and taken without an error. Conditions: those that are named. -/
namespace Go.Proofs.YtfhkmmagpnojmaaDoor
open Go.RowKit

theorem val_foldl (ys : List UInt8) : ∀ n : Nat, ys.foldl (fun n c => 256 * n + c.toNat) n = n * 256 ^ ys.length + val ys := by
  induction ys with
  | nil => intro n; simp [val]
  | cons c ys ih =>
    intro n
    have h1 := ih (256 * n + c.toNat)
    have h2 := ih c.toNat
    simp only [List.foldl_cons, List.length_cons, val, Nat.mul_zero, Nat.zero_add] at h1 h2 ⊢
    rw [h1, h2, Nat.pow_succ, Nat.add_mul]
    have : 256 * n * 256 ^ ys.length = n * (256 ^ ys.length * 256) := by rw [Nat.mul_comm 256 n, Nat.mul_assoc, Nat.mul_comm 256]
    omega
theorem val_cons (c : UInt8) (ys : List UInt8) : val (c :: ys) = c.toNat * 256 ^ ys.length + val ys := by
  have := val_foldl ys c.toNat
  simpa [val] using this
theorem val_numB (n s : Nat) : val (numB n s) = n % 256 ^ s := by
  induction s with
  | zero => simp [numB, val, Nat.mod_one]
  | succ s ih =>
    show val (UInt8.ofNat (n / 256 ^ s) :: numB n s) = _
    rw [val_cons, ih, numB_length, UInt8.toNat_ofNat']
    have h := Nat.mod_mul (x := n) (a := 256 ^ s) (b := 256)
    have h2 : 256 ^ (s + 1) = 256 ^ s * 256 := Nat.pow_succ ..
    rw [h2, h, Nat.mul_comm (256 ^ s) (n / 256 ^ s % 256), show (2 : Nat) ^ 8 = 256 from rfl]
    exact Nat.add_comm _ _
theorem put_go (v : Value) (xs : List UInt8) (n s : Nat) (ni si : Int) (hni : ni = (n : Int)) (hsi : si = (s : Int)) (w : World) (hv : Bs w v xs) (h1 : 1 ≤ s) (h8 : s ≤ 8) (hn : n < 256 ^ s) (hl : xs.length + s ≤ 8192) :
    Calls Tryd.prog 43 #[v, .int .u64 ni, .int .i64 si] w (MadeE w (xs ++ numB n s) 0) := by
  subst hsi
  have h64 : n < 18446744073709551616 := Nat.lt_of_lt_of_le hn (Nat.le_trans (Nat.pow_le_pow_right (by decide) h8) (by decide))
  have := putUint_s v xs n ni s hni w hv (by omega) h64 (by omega)
  have e : putE xs.length n s = 0 := by
    unfold putE
    rw [if_neg (by rw [Int.toNat_natCast]; omega), if_neg (by omega)]
  have e2 : putR xs n s = xs ++ numB n s := by unfold putR; rw [if_pos e, Int.toNat_natCast]
  rwa [e, e2] at this
end Go.Proofs.YtfhkmmagpnojmaaDoor

/- Tokens in plain words: the cells of one, its head and its encoding, the token of some bytes, a signed one; what equality of tokens is; single operations on tokens. No condition. -/
namespace Go.Proofs.YtfhkmmagpnojmaaDoor
open Go.RowKit

/-- A token. -/
structure Tok where
  tenant : UInt8
  role : UInt8
  expiry : UInt64
  serial : UInt32
  tag : List UInt8
  len : tag.length = 32
theorem Tok.ext' {a b : Tok} (h1 : a.tenant = b.tenant) (h2 : a.role = b.role) (h3 : a.expiry = b.expiry) (h4 : a.serial = b.serial) (h5 : a.tag = b.tag) : a = b := by
  cases a; cases b; simp_all
instance : DecidableEq Tok := fun a b =>
  if h : a.tenant = b.tenant ∧ a.role = b.role ∧ a.expiry = b.expiry ∧ a.serial = b.serial ∧ a.tag = b.tag then .isTrue (Tok.ext' h.1 h.2.1 h.2.2.1 h.2.2.2.1 h.2.2.2.2)
  else .isFalse (fun e => h (by subst e; exact ⟨rfl, rfl, rfl, rfl, rfl⟩))
def zs32 : List UInt8 := List.replicate 32 0
def tokZ : Tok := ⟨0, 0, 0, 0, zs32, rfl⟩
instance : Inhabited Tok := ⟨tokZ⟩
def tokL (t : Tok) : List Value := [.int .u8 (t.tenant.toNat : Int), .int .u8 (t.role.toNat : Int), .int .u64 (t.expiry.toNat : Int), .int .u32 (t.serial.toNat : Int)] ++ t.tag.map by8
theorem tokL_length (t : Tok) : (tokL t).length = 36 := by simp [tokL, t.len]
theorem tokL_size (t : Tok) : (tokL t).toArray.size = 36 := by simp [tokL, t.len]
theorem tokL_one (t : Tok) : (tokL t).toArray.all (·.oneCell') = true := by
  rw [Array.all_eq_true']
  intro v hv
  simp only [tokL, List.mem_toArray, List.mem_append, List.mem_cons, List.not_mem_nil, or_false] at hv
  rcases hv with (rfl | rfl | rfl | rfl) | hv
  · rfl
  · rfl
  · rfl
  · rfl
  · exact oneCell_u8 _ v hv
theorem tokL_0 (t : Tok) : (tokL t).toArray[0]? = some (.int .u8 (t.tenant.toNat : Int)) := rfl
theorem tokL_1 (t : Tok) : (tokL t).toArray[1]? = some (.int .u8 (t.role.toNat : Int)) := rfl
theorem tokL_2 (t : Tok) : (tokL t).toArray[2]? = some (.int .u64 (t.expiry.toNat : Int)) := rfl
theorem tokL_3 (t : Tok) : (tokL t).toArray[3]? = some (.int .u32 (t.serial.toNat : Int)) := rfl
theorem tokL_tag (t : Tok) (i : Nat) (x : UInt8) (h : t.tag[i]? = some x) : (tokL t).toArray[4 + i]? = some (by8 x) := by
  simp only [tokL, List.getElem?_toArray, List.cons_append, List.nil_append]
  rw [show 4 + i = i + 1 + 1 + 1 + 1 by omega]
  simp [h]
def headT (t : Tok) : List UInt8 := [t.tenant, t.role] ++ numB t.expiry.toNat 8 ++ numB t.serial.toNat 4
theorem headT_length (t : Tok) : (headT t).length = 14 := by simp [headT, numB_length]
def encT (t : Tok) : List UInt8 := headT t ++ t.tag
theorem encT_length (t : Tok) : (encT t).length = 46 := by simp [encT, headT_length, t.len]
/-- The token of 46 bytes. -/
def deT (b : List UInt8) (h : b.length = 46) : Tok :=
  ⟨b[0]'(by omega), b[1]'(by omega), UInt64.ofNat (val ((b.drop 2).take 8)), UInt32.ofNat (val ((b.drop 10).take 4)), b.drop 14, by simp [h]⟩
def decT (b : List UInt8) : Tok := if h : b.length = 46 then deT b h else tokZ
def decE (b : List UInt8) : Int := if b.length = 46 then 0 else 11
set_option maxRecDepth 100000 in
theorem eqT (a b : Tok) (w : World) : (Op.equalIn 10000 67 (.agg (tokL a).toArray) (.agg (tokL b).toArray)).run Tryd.prog w = .ok (decide (a = b)) w := by
  have hp : Tryd.prog.stoodInHeld 67 = false := by kernel_rfl
  have hf : Tryd.prog.underlying 67 = some (.struct (Tryd.prog.fieldsOf 67)) := by kernel_rfl
  have e : decide (a = b) = (((a.tenant.toNat : Int) == (b.tenant.toNat : Int)) && (((a.role.toNat : Int) == (b.role.toNat : Int)) && (((a.expiry.toNat : Int) == (b.expiry.toNat : Int)) && (((a.serial.toNat : Int) == (b.serial.toNat : Int)) && (decide (a.tag = b.tag) && true))))) := by
    rw [beqU8, beqU8, beqU64, beqU32, Bool.eq_iff_iff]
    simp only [decide_eq_true_eq, Bool.and_eq_true, and_true]
    constructor
    · rintro rfl; exact ⟨rfl, rfl, rfl, rfl, rfl⟩
    · rintro ⟨h1, h2, h3, h4, h5⟩
      exact Tok.ext' h1 h2 h3 h4 h5
  have htag : ∀ t : Tok, (tokL t).toArray.extract 4 (4 + 32) = (t.tag.map by8).toArray := fun t => by
    have : (t.tag.map by8).length = 32 := by simp [t.len]
    apply Array.ext'
    simp only [tokL, Array.toList_extract, List.extract_eq_take_drop]
    show ((t.tag.map by8).take 32) = _
    rw [List.take_of_length_le (by omega)]
  rw [e, run_equalIn_agg (P := Tryd.prog) w 9999 67 _ _ hf hp]
  unfold Program.fieldsOf
  rw [Tryd.underlying67]
  exact eqFields_step w 9999 _ _ _ _ rfl _ _ (run_part1 w _ _ _ _ _ Tryd.underlying5 rfl rfl) (run_part1 w _ _ _ _ _ Tryd.underlying5 rfl rfl) _ _ (run_equalIn_int w 9998 _ _ _ _ _ Tryd.underlying5)
    (eqFields_step w 9999 _ _ _ _ rfl _ _ (run_part1 w _ _ _ _ _ Tryd.underlying5 rfl rfl) (run_part1 w _ _ _ _ _ Tryd.underlying5 rfl rfl) _ _ (run_equalIn_int w 9998 _ _ _ _ _ Tryd.underlying5)
    (eqFields_step w 9999 _ _ _ _ rfl _ _ (run_part1 w _ _ _ _ _ Tryd.underlying23 rfl rfl) (run_part1 w _ _ _ _ _ Tryd.underlying23 rfl rfl) _ _ (run_equalIn_int w 9998 _ _ _ _ _ Tryd.underlying23)
    (eqFields_step w 9999 _ _ _ _ rfl _ _ (run_part1 w _ _ _ _ _ Tryd.underlying38 rfl rfl) (run_part1 w _ _ _ _ _ Tryd.underlying38 rfl rfl) _ _ (run_equalIn_int w 9998 _ _ _ _ _ Tryd.underlying38)
    (eqFields_step w 9999 _ _ _ _ rfl _ _ (run_partA w _ _ _ 32 _ _ Tryd.underlying22 rfl kR (htag a)) (run_partA w _ _ _ 32 _ _ Tryd.underlying22 rfl kR (htag b)) _ _
      (run_equalIn_map by8 w 9998 _ _ 32 Tryd.underlying22 kR (isAgg_int Tryd.underlying5) (fun a b w => eqIn_by8 9997 _ Tryd.underlying5 a b w) a.tag b.tag a.len b.len)
    (eqFields_nil w 9999 _ _)))))
theorem eqlT (a b : Tok) (w : World) : (binOp .eql 67 (.agg (tokL a).toArray) (.agg (tokL b).toArray)).run Tryd.prog w = .ok (.bool (decide (a = b))) w := by
  rw [run_eql_struct, eqT, Result.andThen_ok]
theorem eqGuardT : Tryd.prog.eqGuardType Tryd.prog.depth 67 = false := by kernel_rfl
end Go.Proofs.YtfhkmmagpnojmaaDoor

/- Tokens: what Encode and the specification's head and Encode return; single operations on tokens. No condition. -/
namespace Go.Proofs.YtfhkmmagpnojmaaDoor
open Go.RowKit

section
variable {P : Program} {ops : Array Oper} {rest : List Oper} {a : Act} {w0 w : World} {l F : List Res} {Q : Exit → Act → World → Prop} {dst : Option Tmp} {ty : TypeId} {pos : String} {after : Array Edge} {gd : Option (Nat × Bool)} {Post : Value → World → Prop}

theorem run_storeAt_part (w : World) (g off : Nat) (t t' : TypeId) (old cells : Array Value) (hg : w.heap[g]? = some (.cells old t' (0, 0))) (n : Nat) (hi : (P.info? t).map (·.size) = some n) (hn : cells.size = n) (ho : off + n ≤ old.size) (h1 : cells.all (·.oneCell') = true) (new : Array Value)
    (hnew : (old.toList.take off ++ cells.toList ++ old.toList.drop (off + n)).toArray = new) : (Instr.storeAt t (.pointer (some ⟨g, off, none⟩)) (.agg cells)).run P w = .ok () (w.setRow g new) := by
  subst hn
  subst hnew
  have hst := run_storeCells_at (P := P) g off t' cells.toList 0 old w hg (by simpa using ho) (by
    intro v hv
    exact Array.all_eq_true'.1 h1 v (by simpa using hv))
  cases hq : P.info? t with
  | none => simp [hq] at hi
  | some i =>
    have hsz : i.size = cells.size := by simpa [hq] using hi
    simp only [Nat.add_zero, Array.length_toList] at hst
    simp [Instr.storeAt, Instr.sureAddr, storeVar, sizeOf, typeInfo, hq, hsz, Value.cells, hst]
theorem Has.setRow' {w0 w : World} {F : List Res} {g : Nat} {old new : Array Value} {t : TypeId} (S : Has w0 w (blk g (.cells old t (0, 0)) :: F)) : Has w0 (w.setRow g new) (blk g (.cells new t (0, 0)) :: F) := S.setRow
/-- A part of a block of one's own is stored. -/
theorem step_storeP (S : Has w0 w l) (t : TypeId) (x y : Operand) (g off : Nat) (cells : Array Value) (hx : a.eval x = .pointer (some ⟨g, off, none⟩)) (hy : a.eval y = .agg cells)
    (t' : TypeId) (old : Array Value) (hp : Pick l (blk g (.cells old t' (0, 0))) F) (n : Nat) (hi : (P.info? t).map (·.size) = some n) (hn : cells.size = n) (ho : off + n ≤ old.size) (h1 : cells.all (·.oneCell') = true) (new : Array Value)
    (hnew : (old.toList.take off ++ cells.toList ++ old.toList.drop (off + n)).toArray = new)
    (hw : Region.wanted ⟨dst, .store t x y, ty, pos, after, gd⟩ (yielded ops a.tmps) = true)
    (h : ∀ w', Has w0 w' (blk g (.cells new t' (0, 0)) :: F) → wpList P ops Q rest (a.put dst undef) w') :
    wpList P ops Q (⟨dst, .store t x y, ty, pos, after, gd⟩ :: rest) a w := by
  refine step_unit (w' := w.setRow g new) hw ?_ (h _ (S.pick hp).setRow')
  have := run_storeAt_part (P := P) w g off t t' old cells (S.get hp) n hi hn ho h1 new hnew
  simp only [execOp, hx, hy, Sem.run_bind, this, Result.andThen_ok, Sem.run_pure]
/-- A value of zero. -/
theorem step_buildZ (t : TypeId) (v : Value) (hr : ∀ w, (Instr.build t #[]).run P w = .ok v w)
    (hw : Region.wanted ⟨dst, .build t #[], ty, pos, after, gd⟩ (yielded ops a.tmps) = true)
    (h : wpList P ops Q rest (a.put dst v) w) : wpList P ops Q (⟨dst, .build t #[], ty, pos, after, gd⟩ :: rest) a w := by
  refine step_val (v := v) hw ?_ h
  have := hr w
  simp only [execOp, Array.map_empty, Sem.run_bind, List.map_toArray, List.map_nil, this, Result.andThen_ok, Sem.run_pure]
end

set_option maxRecDepth 100000 in
/-- A new slice of two bytes. -/
theorem step_build82 {ops : Array Oper} {rest : List Oper} {a : Act} {w0 w : World} {l : List Res} {Q : Exit → Act → World → Prop} {dst : Option Tmp} {ty : TypeId} {pos : String} {after : Array Edge} {gd : Option (Nat × Bool)} (S : Has w0 w l) (x y : Operand) (b c : UInt8)
    (hx : a.eval x = by8 b) (hy : a.eval y = by8 c)
    (hw : Region.wanted ⟨dst, .buildSlice 25 2 #[(0, x), (1, y)], ty, pos, after, gd⟩ (yielded ops a.tmps) = true)
    (h : ∀ v w', Has w0 w' (row8 v [b, c] :: l) → wpList Tryd.prog ops Q rest (a.put dst v) w') : wpList Tryd.prog ops Q (⟨dst, .buildSlice 25 2 #[(0, x), (1, y)], ty, pos, after, gd⟩ :: rest) a w :=
  step_build8 S 2 #[(0, x), (1, y)] [b, c] (by simp [hx, hy]) rfl (by decide) hw h
theorem build_tok5v (x y z u : Int) (d0 d1 d2 d3 d4 d5 d6 d7 d8 d9 d10 d11 d12 d13 d14 d15 d16 d17 d18 d19 d20 d21 d22 d23 d24 d25 d26 d27 d28 d29 d30 d31 : UInt8) (w : World) : (Instr.build 67 #[(0, .int .u8 x), (1, .int .u8 y), (2, .int .u64 z), (3, .int .u32 u), (4, .agg ([d0, d1, d2, d3, d4, d5, d6, d7, d8, d9, d10, d11, d12, d13, d14, d15, d16, d17, d18, d19, d20, d21, d22, d23, d24, d25, d26, d27, d28, d29, d30, d31].map by8).toArray)]).run Tryd.prog w = .ok (.agg ([Value.int .u8 x, .int .u8 y, .int .u64 z, .int .u32 u] ++ [d0, d1, d2, d3, d4, d5, d6, d7, d8, d9, d10, d11, d12, d13, d14, d15, d16, d17, d18, d19, d20, d21, d22, d23, d24, d25, d26, d27, d28, d29, d30, d31].map by8).toArray) w := by kernel_rfl
theorem build_tok5 (x y z u : Int) (D : List UInt8) (hD : D.length = 32) (w : World) : (Instr.build 67 #[(0, .int .u8 x), (1, .int .u8 y), (2, .int .u64 z), (3, .int .u32 u), (4, .agg (D.map by8).toArray)]).run Tryd.prog w = .ok (.agg ([Value.int .u8 x, .int .u8 y, .int .u64 z, .int .u32 u] ++ D.map by8).toArray) w :=
  match D, hD with
  | [d0, d1, d2, d3, d4, d5, d6, d7, d8, d9, d10, d11, d12, d13, d14, d15, d16, d17, d18, d19, d20, d21, d22, d23, d24, d25, d26, d27, d28, d29, d30, d31], _ => build_tok5v x y z u d0 d1 d2 d3 d4 d5 d6 d7 d8 d9 d10 d11 d12 d13 d14 d15 d16 d17 d18 d19 d20 d21 d22 d23 d24 d25 d26 d27 d28 d29 d30 d31 w
set_option maxRecDepth 100000 in
theorem does_buildT5 {a : Act} {w : World} {dst : Option Tmp} {ty : TypeId} {pos : String} {after : Array Edge} {gd : Option (Nat × Bool)} {Post : Value → World → Prop} (x0 x1 x2 x3 x4 : Operand) (t : Tok)
    (h0 : a.eval x0 = .int .u8 (t.tenant.toNat : Int)) (h1 : a.eval x1 = .int .u8 (t.role.toNat : Int)) (h2 : a.eval x2 = .int .u64 (t.expiry.toNat : Int)) (h3 : a.eval x3 = .int .u32 (t.serial.toNat : Int)) (h4 : a.eval x4 = .agg (arr8 t.tag))
    (h : Post (.agg (tokL t).toArray) w) : does Tryd.prog a.eval ⟨dst, .build 67 #[(0, x0), (1, x1), (2, x2), (3, x3), (4, x4)], ty, pos, after, gd⟩ w Post := by
  refine does_val (v := .agg (tokL t).toArray) ?_ h
  have hp : (#[(0, x0), (1, x1), (2, x2), (3, x3), (4, x4)].map fun (i, x) => (i, a.eval x)) = #[(0, .int .u8 (t.tenant.toNat : Int)), (1, .int .u8 (t.role.toNat : Int)), (2, .int .u64 (t.expiry.toNat : Int)), (3, .int .u32 (t.serial.toNat : Int)), (4, .agg (t.tag.map by8).toArray)] := by simp [h0, h1, h2, h3, h4, arr8]
  have := build_tok5 t.tenant.toNat t.role.toNat t.expiry.toNat t.serial.toNat t.tag t.len w
  simp only [execOp, hp, Sem.run_bind, this, Result.andThen_ok, Sem.run_pure]
  rfl
/-- The tag of a token in memory reads as bytes. -/
theorem Has.bs_tag {w0 w : World} {l F : List Res} {g : Nat} {t : Tok} {ty : TypeId} {fr : Nat × Nat} (S : Has w0 w l) (h : Pick l (blk g (.cells (tokL t).toArray ty fr)) F) : Bs w (.slice (some ⟨g, 4, none⟩) 32 32) t.tag := by
  have hb := Bs.mk (w := w) (xs := t.tag) (b := g) (off := 4) (cap := 32) (by rw [t.len]; exact Nat.le_refl _) (by decide) (fun i hi => S.cell h (tokL_tag t i _ (List.getElem?_eq_getElem hi)))
  rwa [t.len] at hb
set_option maxRecDepth 100000 in
set_option maxHeartbeats 2000000 in
theorem enc_s (t : Tok) (w0 : World) : Calls Tryd.prog 35 #[.agg (tokL t).toArray] w0 (MadeB w0 (encT t)) := by
  have S := Has.start w0
  have he := t.expiry.toNat_lt
  have hs := t.serial.toNat_lt
  have hs2 : (t.serial.toNat : Int) < 4294967296 := by omega
  have p1 := fun v w h => put_go v [t.tenant, t.role] t.expiry.toNat 8 (t.expiry.toNat : Int) 8 rfl rfl w h (by decide) (by decide) (Nat.lt_of_lt_of_eq he (by decide)) (by simp)
  have p2 := fun v w h => put_go v ([t.tenant, t.role] ++ numB t.expiry.toNat 8) t.serial.toNat 4 (t.serial.toNat : Int) 4 rfl rfl w h (by decide) (by decide) (Nat.lt_of_lt_of_eq hs (by decide)) (by simp [numB_length])
  have hl : (([t.tenant, t.role] ++ numB t.expiry.toNat 8) ++ numB t.serial.toNat 4).length + t.tag.length ≤ 140737488355328 := by simp [numB_length, t.len]
  have hE : encT t = (([t.tenant, t.role] ++ numB t.expiry.toNat 8) ++ numB t.serial.toNat 4) ++ t.tag := rfl
  rw [hE]
  obtain ⟨X1, hX1⟩ : ∃ X, X = [t.tenant, t.role] ++ numB t.expiry.toNat 8 := ⟨_, rfl⟩
  rw [← hX1] at p1 p2 hl ⊢
  obtain ⟨X2, hX2⟩ : ∃ X, X = X1 ++ numB t.serial.toNat 4 := ⟨_, rfl⟩
  rw [← hX2] at p2 hl ⊢
  have P1 := Lib.hid p1; have P2 := Lib.hid p2; have HL := Lib.hid hl; clear p1 p2 hl
  clear hX1 hX2 hE he hs
  go_enter Tryd.func35, Tryd.ntmps35
  go_wp2_with (first | ((with_reducible refine iD 8 (.buildSlice 25 _ _) ?_); refine step_build82 S (.tmp 5) (.tmp 7) t.tenant t.role rfl rfl rfl ?_; clear S; intro v8 w S) | (at_builtin; refine step_append8 S (.tmp 24) (.tmp 26) _ X2 rfl pk _ t.tag rfl (S.bs_tag pk) HL.out rfl ?_; clear S; intro v27 w S) | ((with_reducible refine iD 1 (.box 67 (.tmp 0)) ?_); refine step_boxA (dst := some 1) S 67 (.tmp 0) _ rfl rfl ?_; clear S; intro g1 w S) | ((with_reducible refine iO _ (.load 5 _) ?_); refine step_load1 5 _ _ _ rfl (cL) _ Tryd.underlying5 rfl rfl ?_) | ((with_reducible refine iO _ (.load 23 _) ?_); refine step_load1 23 _ _ _ rfl (cL) _ Tryd.underlying23 rfl rfl ?_) | (go_at_call 43; (with_reducible refine (P1.out _ _ bS).mono ?_); rintro e w1 ⟨v3, rfl, T⟩; replace S := S.call T; clear T; (try simp only [z4, z5] at S); have _t := P1; clear P1) | (go_at_call 43; (with_reducible refine (P2.out _ _ bS).mono ?_); rintro e w1 ⟨v3, rfl, T⟩; replace S := S.call T; clear T; (try simp only [z4, z5] at S)) | ((with_reducible refine iO _ (.load 38 _) ?_); refine step_load1 38 _ _ _ rfl (cL) _ Tryd.underlying38 rfl rfl ?_) | fail)
  go_ret
  exact ⟨_, rfl, S.sub (by repeat (first | exact Sub.nil _ | refine Sub.cons pk ?_))⟩
end Go.Proofs.YtfhkmmagpnojmaaDoor

/- Tokens: what Decode of the program and of the specification return. No condition. -/
namespace Go.Proofs.YtfhkmmagpnojmaaDoor
open Go.RowKit

theorem u64_val (ys : List UInt8) (h : ys.length ≤ 8) : (val ys : Int) = ((UInt64.ofNat (val ys)).toNat : Int) := by
  have h1 := val_lt ys
  have h2 : 256 ^ ys.length ≤ 256 ^ 8 := Nat.pow_le_pow_right (by decide) h
  rw [UInt64.toNat_ofNat', Nat.mod_eq_of_lt (by omega)]
theorem u32_val (ys : List UInt8) (h : ys.length ≤ 4) : (val ys : Int) = ((UInt32.ofNat (val ys)).toNat : Int) := by
  have h1 := val_lt ys
  have h2 : 256 ^ ys.length ≤ 256 ^ 4 := Nat.pow_le_pow_right (by decide) h
  rw [UInt32.toNat_ofNat', Nat.mod_eq_of_lt (by omega)]
/-- The number in n bytes from an index on. -/
theorem takeAt (v : Value) (xs : List UInt8) (p s : Nat) (pi si ni : Int) (hpi : pi = (p : Int)) (hsi : si = (s : Int)) (hni : ni = ((p + s : Nat) : Int)) (w : World) (hv : Bs w v xs) (h1 : 1 ≤ s) (h8 : s ≤ 8) (hl : p + s ≤ xs.length) (hx : xs.length ≤ 8192) :
    Calls Tryd.prog 84 #[v, .int .i64 pi, .int .i64 si] w fun e w' => e = .returned (.tuple #[.int .u64 ((val ((xs.drop p).take s) : Nat) : Int), .int .i64 ni, .int .i64 0]) ∧ Has w w' [] := by
  subst hpi
  subst hsi
  subst hni
  have := takeUint_s v xs p s w hv (by omega) (by omega) (by omega)
  have e1 : takeE xs.length p s = 0 := by
    unfold takeE
    rw [if_neg (by omega), if_neg (by omega)]
  have e2 : tuE xs.length p s = 0 := by unfold tuE; rw [if_neg (by omega), e1]
  have e3 : tuN xs.length p s = ((p + s : Nat) : Int) := by unfold tuN takeN; rw [if_neg (by omega), if_pos e1]; omega
  have e4 : tuV xs p s = val ((xs.drop p).take s) := by
    unfold tuV takeR
    rw [if_neg (by omega), if_pos e1, Int.toNat_natCast, Int.toNat_natCast]
  rwa [e2, e3, e4] at this
set_option maxRecDepth 100000 in
set_option maxHeartbeats 4000000 in
theorem dec_s (v : Value) (xs : List UInt8) (w0 : World) (h : Bs w0 v xs) : Calls Tryd.prog 62 #[v] w0 fun e w' => e = .returned (.tuple #[.agg (tokL (decT xs)).toArray, .int .i64 (decE xs)]) ∧ Has w0 w' [] := by
  have S := Has.start w0
  obtain ⟨a0, c0, rfl, k1, k2⟩ := Sl.shape h
  unfold maxLen at k2
  by_cases hl : xs.length = 46
  · rw [show decT xs = deT xs hl from dif_pos hl, show decE xs = 0 from if_pos hl]
    rw [hl] at h k1 ⊢
    have p1 := fun w hv => takeAt (.slice a0 46 c0) xs 2 8 2 8 10 rfl rfl rfl w hv (by decide) (by decide) (by omega) (by omega)
    have p2 := fun w hv => takeAt (.slice a0 46 c0) xs 10 4 10 4 14 rfl rfl rfl w hv (by decide) (by decide) (by omega) (by omega)
    obtain ⟨t, ht⟩ : ∃ t, t = deT xs hl := ⟨_, rfl⟩
    rw [← ht]
    have e2 : ((val ((xs.drop 2).take 8) : Nat) : Int) = (t.expiry.toNat : Int) := by rw [ht]; exact u64_val _ (by simp; omega)
    have e3 : ((val ((xs.drop 10).take 4) : Nat) : Int) = (t.serial.toNat : Int) := by rw [ht]; exact u32_val _ (by simp; omega)
    rw [e2] at p1
    rw [e3] at p2
    have hb : Sl w0 1 (.slice a0 46 c0) 46 (xs.map by8) := by unfold Bs at h; rwa [hl] at h
    obtain ⟨b, off, rfl, hc⟩ := hb.atA (by decide)
    have hc0 := hc 0 (.int .u8 (t.tenant.toNat : Int)) (by rw [List.getElem?_map, List.getElem?_eq_getElem (by omega), ht]; rfl)
    have hc1 := hc 1 (.int .u8 (t.role.toNat : Int)) (by rw [List.getElem?_map, List.getElem?_eq_getElem (by omega), ht]; rfl)
    rw [Nat.add_zero] at hc0
    have hr : w0.rangeAt b (off + 14) (t.tag.map by8) := by
      intro j v hj
      rw [Nat.add_assoc]
      refine hc (14 + j) v ?_
      rw [← hj, ht]
      show (xs.map by8)[14 + j]? = ((xs.drop 14).map by8)[j]?
      rw [List.getElem?_map, List.getElem?_map, List.getElem?_drop]
    have hs2 : (t.serial.toNat : Int) < 4294967296 := by have := t.serial.toNat_lt; omega
    have hcut : cutA (some ⟨b, off, none⟩) c0 14 1 = some ⟨b, off + 14, none⟩ := by
      unfold cutA
      rw [if_neg (by omega)]
      simp [Addr.add]
    have H := Lib.hid h; have P1 := Lib.hid p1; have P2 := Lib.hid p2; have HC0 := Lib.hid hc0; have HC1 := Lib.hid hc1; have HR := Lib.hid hr; have HCUT := Lib.hid hcut; clear h p1 p2 hc0 hc1 hr hcut
    clear ht e2 e3 hb hc
    go_enter Tryd.func62, Tryd.ntmps62
    go_wp2_with (first | ((with_reducible refine iD 2 (.alloc 67) ?_); refine step_alloc (dst := some 2) S 67 (.agg ((tokL tokZ).toArray)) ((tokL tokZ).toArray) kR rfl rfl ?_; clear S; intro g2 w S) | ((with_reducible refine iD 12 (.build 67 _) ?_); refine step_buildZ 67 (.agg ((tokL tokZ).toArray)) (fun w => by kernel_rfl) rfl ?_) | ((with_reducible refine iO none (.store 67 (.tmp 2) (.tmp 12)) ?_); refine step_store S 67 (.tmp 2) (.tmp 12) _ _ rfl rfl _ _ pk 36 kR lN lN on1 rfl ?_; clear S; intro w S) | (go_at_call 84; (with_reducible refine (P1.out _ bS).mono ?_); rintro e w1 ⟨rfl, T⟩; replace S := S.call T; clear T; (try simp only [z4, z5] at S)) | (go_at_call 84; (with_reducible refine (P2.out _ bS).mono ?_); rintro e w1 ⟨rfl, T⟩; replace S := S.call T; clear T; (try simp only [z4, z5] at S)) | ((with_reducible refine iO _ (.load 5 _) ?_); refine step_load1 5 _ _ _ rfl (cL) _ Tryd.underlying5 rfl rfl ?_) | ((with_reducible refine iO _ (.slice 25 _ _ _ _) ?_); refine step_cutL 25 5 1 _ _ _ _ _ _ _ _ rfl rfl (by first | rfl | omega) (by first | (first | omega | assumption | (exact Hid.out (by assumption)) | (simp only [List.length_append, List.length_cons, List.length_nil]; omega)) | decide) Tryd.underlying25 kR rfl ?_) | ((with_reducible refine iO _ (.load 22 _) ?_); first | (refine step_load S 22 _ _ rfl _ _ _ pk _ Tryd.underlying22 rfl 32 kR lN rfl ?_) | (refine step_loadO 22 _ _ rfl _ _ _ (S.old_heap (Hid.out (by assumption))) _ Tryd.underlying22 rfl 32 kR lN rfl ?_) | (refine step_loadR 22 _ _ _ rfl _ (S.old_range hy) _ Tryd.underlying22 rfl 32 kR lN _ rfl rfl ?_)) | ((with_reducible refine iO none (.store 67 (.tmp 2) (.tmp 40)) ?_); refine step_store S 67 (.tmp 2) (.tmp 40) _ _ rfl rfl _ _ pk 36 kR lN lN on1 rfl ?_; clear S; intro w S) | fail)
    refine wp_relyW (e1 := blk g2 (.cells (tokL t).toArray 67 (0, 0))) 15 (S.pick (r := blk g2 _) pk) [sv [] ((.slice (some ⟨b, off, none⟩) 46 c0)), sv [0] (.pointer (some ⟨b, off, none⟩)), sv [0, 1] (.int .u8 (t.tenant.toNat : Int)), sv [] ((.slice (some ⟨b, off, none⟩) 46 c0)), sv [3] (.pointer (some ⟨b, off + 1, none⟩)), sv [3, 4] (.int .u8 (t.role.toNat : Int)), sv [] ((.int .u64 (t.expiry.toNat : Int))), sv [] ((.int .u64 (t.serial.toNat : Int))), sv [7] (.int .u32 (t.serial.toNat : Int)), sv [] ((.slice (some ⟨b, off, none⟩) 46 c0)), sv [] (.int .i64 14), sv [9, 10] (.slice (some ⟨b, off + 14, none⟩) 32 (c0 - 14)), sv [9, 10, 11] (.pointer (some ⟨b, off + 14, none⟩)), sv [9, 10, 11, 12] (.agg (arr8 t.tag)), sv [0, 1, 2, 3, 4, 5, 6, 7, 8, 9, 10, 11, 12, 13] (.agg (tokL t).toArray), ⟨[0, 1, 2, 3, 4, 5, 6, 7, 8, 9, 10, 11, 12, 13, 14], [], [], fun _ v => True, fun _ v => []⟩, sv [0, 1, 2, 3, 4, 5, 6, 7, 8, 9, 10, 11, 12, 13, 14, 15] (.int .i64 0)] ?A1 ?hA1 kR kR kR [0, 1, 2, 3, 4, 5, 6, 7, 8, 9, 10, 11, 12, 13, 14, 15, 16] kR (of_decide_eq_true rfl) ?hok1 ?fin1
    case hA1 => intro u; simp only [putAll, List.length_cons, List.length_nil, Nat.zero_add, Nat.reduceAdd, dstAt, List.getElem?_toArray, List.getElem?_cons_zero, List.getElem?_cons_succ, Option.bind_some, Act.put, List.setIfInBounds_toArray, List.set_cons_zero, List.set_cons_succ]; rfl
    case hok1 =>
      intro i hi
      obtain rfl | rfl | rfl | rfl | rfl | rfl | rfl | rfl | rfl | rfl | rfl | rfl | rfl | rfl | rfl | rfl | rfl : i = 0 ∨ i = 1 ∨ i = 2 ∨ i = 3 ∨ i = 4 ∨ i = 5 ∨ i = 6 ∨ i = 7 ∨ i = 8 ∨ i = 9 ∨ i = 10 ∨ i = 11 ∨ i = 12 ∨ i = 13 ∨ i = 14 ∨ i = 15 ∨ i = 16 := by simp only [List.length_cons, List.length_nil, Nat.zero_add, Nat.reduceAdd] at hi; omega
      · rw [if_neg (by decide)]; intro r0; exact oP []
      · rw [if_neg (by decide)]; intro r0; exact oP [0]
      · clear hi
        rw [if_neg (by decide)]; intro r0
        refine step_of rfl rfl rfl ?_
        intro u G w hf S
        have f1 : u 1 = .pointer (some ⟨b, off, none⟩) := hf 1 (by simp)
        simp only [fl, z4, z5, z6, z7, ptrBlk] at S ⊢
        simp only [f1]
        refine does_load1 5 (.tmp 27) _ _ rfl (S.old_cell hy) _ Tryd.underlying5 rfl ?_; exact ⟨rfl, S⟩
      · rw [if_neg (by decide)]; intro r0; exact oP []
      · rw [if_neg (by decide)]; intro r0; exact oP [3]
      · clear hi
        rw [if_neg (by decide)]; intro r0
        refine step_of rfl rfl rfl ?_
        intro u G w hf S
        have f4 : u 4 = .pointer (some ⟨b, off + 1, none⟩) := hf 4 (by simp)
        simp only [fl, z4, z5, z6, z7, ptrBlk] at S ⊢
        simp only [f4]
        refine does_load1 5 (.tmp 30) _ _ rfl (S.old_cell hy) _ Tryd.underlying5 rfl ?_; exact ⟨rfl, S⟩
      · rw [if_neg (by decide)]; intro r0; exact oP []
      · rw [if_neg (by decide)]; intro r0; exact oP []
      · rw [if_neg (by decide)]; intro r0; exact oP [7]
      · rw [if_neg (by decide)]; intro r0; exact oP []
      · rw [if_neg (by decide)]; intro r0; exact oP []
      · clear hi
        rw [if_neg (by decide)]; intro r0
        refine step_of rfl rfl rfl ?_
        intro u G w hf S
        have f9 : u 9 = (.slice (some ⟨b, off, none⟩) 46 c0) := hf 9 (by simp)
        have f10 : u 10 = (.int .i64 14) := hf 10 (by simp)
        simp only [fl, z4, z5, z6, z7, ptrBlk] at S ⊢
        simp only [f9, f10]
        rw [← HCUT.out]; refine does_cutL 25 5 1 (.tmp 35) (.tmp 36) _ _ _ _ _ 14 rfl rfl rfl (by decide) Tryd.underlying25 kR ?_; exact ⟨rfl, S⟩
      · rw [if_neg (by decide)]; intro r0; exact oP [11]
      · clear hi
        rw [if_neg (by decide)]; intro r0
        refine step_of rfl rfl rfl ?_
        intro u G w hf S
        have f12 : u 12 = .pointer (some ⟨b, off + 14, none⟩) := hf 12 (by simp)
        simp only [fl, z4, z5, z6, z7, ptrBlk] at S ⊢
        simp only [f12]
        refine does_loadR 22 (.tmp 38) _ _ rfl _ (S.old_range HR.out) _ Tryd.underlying22 rfl 32 kR (by rw [List.length_map]; exact t.len) _ rfl ?_; exact ⟨rfl, S⟩
      · clear hi
        rw [if_neg (by decide)]; intro r0
        refine step_of rfl rfl rfl ?_
        intro u G w hf S
        have f2 : u 2 = .int .u8 (t.tenant.toNat : Int) := hf 2 (by simp)
        have f5 : u 5 = .int .u8 (t.role.toNat : Int) := hf 5 (by simp)
        have f6 : u 6 = (.int .u64 (t.expiry.toNat : Int)) := hf 6 (by simp)
        have f8 : u 8 = .int .u32 (t.serial.toNat : Int) := hf 8 (by simp)
        have f13 : u 13 = .agg (arr8 t.tag) := hf 13 (by simp)
        simp only [fl, z4, z5, z6, z7, ptrBlk] at S ⊢
        simp only [f2, f5, f6, f8, f13]
        refine does_buildT5 _ _ _ _ _ t rfl rfl rfl rfl rfl ?_; exact ⟨rfl, S⟩
      · clear hi
        rw [if_pos rfl]
        refine step_ofW rfl rfl rfl ?_
        intro u G w hf S
        have f14 : u 14 = .agg (tokL t).toArray := hf 14 (by simp)
        simp only [fl, z4, z5, z6, z7, ptrBlk] at S ⊢
        simp only [f14]
        refine does_store S 67 (.tmp 2) (.tmp 40) (tokL t).toArray rfl rfl 36 kR (tokL_size _) (tokL_size _) (tokL_one _) ?_; intro w1 S; exact ⟨trivial, S⟩
      · rw [if_neg (by decide)]; intro r0; exact oP []
    case fin1 =>
      intro u w hf S
      have hvA := allV hf
      simp only [AllV, RSpec.valAt, sv, Nat.zero_add, Nat.reduceAdd] at hvA
      simp only [fl, z4, z5, z6, z7, ptrBlk] at S
      clear hf
      simp only [List.length_cons, List.length_nil, Nat.zero_add, Nat.reduceAdd, List.drop_succ_cons, List.drop_zero, hvA]
      clear hvA
      go_wp2_with (first | ((with_reducible refine iD 2 (.alloc 67) ?_); refine step_alloc (dst := some 2) S 67 (.agg ((tokL tokZ).toArray)) ((tokL tokZ).toArray) kR rfl rfl ?_; clear S; intro g2 w S) | ((with_reducible refine iD 12 (.build 67 _) ?_); refine step_buildZ 67 (.agg ((tokL tokZ).toArray)) (fun w => by kernel_rfl) rfl ?_) | ((with_reducible refine iO none (.store 67 (.tmp 2) (.tmp 12)) ?_); refine step_store S 67 (.tmp 2) (.tmp 12) _ _ rfl rfl _ _ pk 36 kR lN lN on1 rfl ?_; clear S; intro w S) | (go_at_call 84; (with_reducible refine (takeUint_s _ _ _ _ _ bS lE lE lE).mono ?_); rintro e w1 ⟨rfl, T⟩; replace S := S.call T; clear T; (try simp only [z4, z5] at S)) | ((with_reducible refine iO _ (.load 5 _) ?_); refine step_load1 5 _ _ _ rfl (cL) _ Tryd.underlying5 rfl rfl ?_) | ((with_reducible refine iO _ (.slice 25 _ _ _ _) ?_); refine step_cutL 25 5 1 _ _ _ _ _ _ _ _ rfl rfl (by first | rfl | omega) (by first | (first | omega | assumption | (exact Hid.out (by assumption)) | (simp only [List.length_append, List.length_cons, List.length_nil]; omega)) | decide) Tryd.underlying25 kR rfl ?_) | ((with_reducible refine iO _ (.load 22 _) ?_); first | (refine step_load S 22 _ _ rfl _ _ _ pk _ Tryd.underlying22 rfl 32 kR lN rfl ?_) | (refine step_loadO 22 _ _ rfl _ _ _ (S.old_heap (Hid.out (by assumption))) _ Tryd.underlying22 rfl 32 kR lN rfl ?_) | (refine step_loadR 22 _ _ _ rfl _ (S.old_range hy) _ Tryd.underlying22 rfl 32 kR lN _ rfl rfl ?_)) | ((with_reducible refine iO none (.store 67 (.tmp 2) (.tmp 40)) ?_); refine step_store S 67 (.tmp 2) (.tmp 40) _ _ rfl rfl _ _ pk 36 kR lN lN on1 rfl ?_; clear S; intro w S) | fail)
      refine ret_row_tmp rfl g2 67 _ (S.get pk) _ Tryd.underlying67 36 kR lN rfl rfl rfl ?_
      exact ⟨rfl, S.nil⟩
  · rw [show decT xs = tokZ from dif_neg hl, show decE xs = 11 from if_neg hl]
    have i1 : ((xs.length : Int) != 46) = true := by simp; omega
    have H := Lib.hid h; clear h
    go_enter Tryd.func62, Tryd.ntmps62
    go_wp2_with (first | ((with_reducible refine iD 2 (.alloc 67) ?_); refine step_alloc (dst := some 2) S 67 (.agg ((tokL tokZ).toArray)) ((tokL tokZ).toArray) kR rfl rfl ?_; clear S; intro g2 w S) | ((with_reducible refine iD 12 (.build 67 _) ?_); refine step_buildZ 67 (.agg ((tokL tokZ).toArray)) (fun w => by kernel_rfl) rfl ?_) | ((with_reducible refine iO none (.store 67 (.tmp 2) (.tmp 12)) ?_); refine step_store S 67 (.tmp 2) (.tmp 12) _ _ rfl rfl _ _ pk 36 kR lN lN on1 rfl ?_; clear S; intro w S) | (go_at_call 84; (with_reducible refine (takeUint_s _ _ _ _ _ bS lE lE lE).mono ?_); rintro e w1 ⟨rfl, T⟩; replace S := S.call T; clear T; (try simp only [z4, z5] at S)) | ((with_reducible refine iO _ (.load 5 _) ?_); refine step_load1 5 _ _ _ rfl (cL) _ Tryd.underlying5 rfl rfl ?_) | ((with_reducible refine iO _ (.slice 25 _ _ _ _) ?_); refine step_cutL 25 5 1 _ _ _ _ _ _ _ _ rfl rfl (by first | rfl | omega) (by first | (first | omega | assumption | (exact Hid.out (by assumption)) | (simp only [List.length_append, List.length_cons, List.length_nil]; omega)) | decide) Tryd.underlying25 kR rfl ?_) | ((with_reducible refine iO _ (.load 22 _) ?_); first | (refine step_load S 22 _ _ rfl _ _ _ pk _ Tryd.underlying22 rfl 32 kR lN rfl ?_) | (refine step_loadO 22 _ _ rfl _ _ _ (S.old_heap (Hid.out (by assumption))) _ Tryd.underlying22 rfl 32 kR lN rfl ?_) | (refine step_loadR 22 _ _ _ rfl _ (S.old_range hy) _ Tryd.underlying22 rfl 32 kR lN _ rfl rfl ?_)) | ((with_reducible refine iO none (.store 67 (.tmp 2) (.tmp 40)) ?_); refine step_store S 67 (.tmp 2) (.tmp 40) _ _ rfl rfl _ _ pk 36 kR lN lN on1 rfl ?_; clear S; intro w S) | fail)
    refine ret_row_tmp rfl g2 67 _ (S.get pk) _ Tryd.underlying67 36 kR lN rfl rfl rfl ?_
    exact ⟨rfl, S.nil⟩
end Go.Proofs.YtfhkmmagpnojmaaDoor

/- Numbers as bytes and back; a token's encoding and back. No program, no condition. -/
namespace Go.Proofs.YtfhkmmagpnojmaaDoor
open Go.RowKit

theorem val_numB_lt (n s : Nat) (h : n < 256 ^ s) : val (numB n s) = n := by rw [val_numB, Nat.mod_eq_of_lt h]
theorem enc_parts (t : Tok) : encT t = t.tenant :: t.role :: (numB t.expiry.toNat 8 ++ (numB t.serial.toNat 4 ++ t.tag)) := by simp [encT, headT]
theorem decT_encT (t : Tok) : decT (encT t) = t := by
  unfold decT
  rw [dif_pos (encT_length t)]
  have e := enc_parts t
  have d2 : (encT t).drop 2 = numB t.expiry.toNat 8 ++ (numB t.serial.toNat 4 ++ t.tag) := by rw [e]; rfl
  have d10 : (encT t).drop 10 = numB t.serial.toNat 4 ++ t.tag := by
    rw [show (10 : Nat) = 2 + 8 from rfl, ← List.drop_drop, d2, List.drop_left' (numB_length _ _)]
  have d14 : (encT t).drop 14 = t.tag := by
    rw [show (14 : Nat) = 10 + 4 from rfl, ← List.drop_drop, d10, List.drop_left' (numB_length _ _)]
  have g0 : (encT t)[0]? = some t.tenant := by rw [e]; rfl
  have g1 : (encT t)[1]? = some t.role := by rw [e]; rfl
  apply Tok.ext'
  · exact (List.getElem?_eq_some_iff.1 g0).2
  · exact (List.getElem?_eq_some_iff.1 g1).2
  · show UInt64.ofNat (val (((encT t).drop 2).take 8)) = _
    rw [d2, List.take_left' (numB_length _ _), val_numB]
    apply UInt64.toNat_inj.1
    rw [UInt64.toNat_ofNat']
    have := t.expiry.toNat_lt
    omega
  · show UInt32.ofNat (val (((encT t).drop 10).take 4)) = _
    rw [d10, List.take_left' (numB_length _ _), val_numB]
    apply UInt32.toNat_inj.1
    rw [UInt32.toNat_ofNat']
    have := t.serial.toNat_lt
    omega
  · exact d14
end Go.Proofs.YtfhkmmagpnojmaaDoor
