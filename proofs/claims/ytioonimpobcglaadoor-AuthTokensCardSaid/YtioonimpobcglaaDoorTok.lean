/- Tokens in plain words: the cells of one, its head and its encoding, the token of some bytes, a signed one; what equality of tokens is; single operations on tokens. No condition. -/
import Derived.Test.YtioonimpobcglaaDoorStE
import Derived.Test.YtioonimpobcglaaDoorEq
import Derived.Test.YtioonimpobcglaaDoorRefTag
import Derived.Test.YtioonimpobcglaaDoorPutGo
set_option linter.unusedSimpArgs false
set_option linter.unusedVariables false
namespace Go.Proofs.YtioonimpobcglaaDoor
open Go.RowKit

/-- A token. -/
structure Tok where
  tenant : UInt8
  role : UInt8
  expiry : UInt64
  serial : UInt32
  tag : List UInt8
  len : tag.length = 32

theorem Tok.ext' {a b : Tok} (h1 : a.tenant = b.tenant) (h2 : a.role = b.role) (h3 : a.expiry = b.expiry) (h4 : a.serial = b.serial) (h5 : a.tag = b.tag) : a = b := by
  cases a; cases b; simp_all

instance : DecidableEq Tok := fun a b =>
  if h : a.tenant = b.tenant ∧ a.role = b.role ∧ a.expiry = b.expiry ∧ a.serial = b.serial ∧ a.tag = b.tag then .isTrue (Tok.ext' h.1 h.2.1 h.2.2.1 h.2.2.2.1 h.2.2.2.2)
  else .isFalse (fun e => h (by subst e; exact ⟨rfl, rfl, rfl, rfl, rfl⟩))

def zs32 : List UInt8 := List.replicate 32 0
def tokZ : Tok := ⟨0, 0, 0, 0, zs32, rfl⟩
instance : Inhabited Tok := ⟨tokZ⟩

def tokL (t : Tok) : List Value := [.int .u8 (t.tenant.toNat : Int), .int .u8 (t.role.toNat : Int), .int .u64 (t.expiry.toNat : Int), .int .u32 (t.serial.toNat : Int)] ++ t.tag.map by8
theorem tokL_length (t : Tok) : (tokL t).length = 36 := by simp [tokL, t.len]
theorem tokL_size (t : Tok) : (tokL t).toArray.size = 36 := by simp [tokL, t.len]
theorem tokL_one (t : Tok) : (tokL t).toArray.all (·.oneCell') = true := by
  rw [Array.all_eq_true']
  intro v hv
  simp only [tokL, List.mem_toArray, List.mem_append, List.mem_cons, List.not_mem_nil, or_false] at hv
  rcases hv with (rfl | rfl | rfl | rfl) | hv
  · rfl
  · rfl
  · rfl
  · rfl
  · exact oneCell_u8 _ v hv
theorem tokL_0 (t : Tok) : (tokL t).toArray[0]? = some (.int .u8 (t.tenant.toNat : Int)) := rfl
theorem tokL_1 (t : Tok) : (tokL t).toArray[1]? = some (.int .u8 (t.role.toNat : Int)) := rfl
theorem tokL_2 (t : Tok) : (tokL t).toArray[2]? = some (.int .u64 (t.expiry.toNat : Int)) := rfl
theorem tokL_3 (t : Tok) : (tokL t).toArray[3]? = some (.int .u32 (t.serial.toNat : Int)) := rfl
theorem tokL_tag (t : Tok) (i : Nat) (x : UInt8) (h : t.tag[i]? = some x) : (tokL t).toArray[4 + i]? = some (by8 x) := by
  simp only [tokL, List.getElem?_toArray, List.cons_append, List.nil_append]
  rw [show 4 + i = i + 1 + 1 + 1 + 1 by omega]
  simp [h]

def headT (t : Tok) : List UInt8 := [t.tenant, t.role] ++ numB t.expiry.toNat 8 ++ numB t.serial.toNat 4
theorem headT_length (t : Tok) : (headT t).length = 14 := by simp [headT, numB_length]
def encT (t : Tok) : List UInt8 := headT t ++ t.tag
theorem encT_length (t : Tok) : (encT t).length = 46 := by simp [encT, headT_length, t.len]
theorem encT_take (t : Tok) : (encT t).take 14 = headT t := by
  unfold encT
  rw [List.take_left' (headT_length t)]

/-- A token with another tag. -/
def Tok.with (t : Tok) (D : List UInt8) (h : D.length = 32) : Tok := ⟨t.tenant, t.role, t.expiry, t.serial, D, h⟩
theorem headT_with (t : Tok) (D : List UInt8) (h : D.length = 32) : headT (t.with D h) = headT t := rfl

/-- Whether some bytes are a key. -/
def vkB (key : List UInt8) : Bool := decide (1 ≤ key.length ∧ key.length ≤ 64)
def sgT (key : List UInt8) (t : Tok) : Tok := t.with (tagD key (headT t)) (tagD_length _ _)
def snT (key : List UInt8) (t : Tok) : Tok := if vkB key then sgT key t else tokZ
def snE (key : List UInt8) : Int := if vkB key then 0 else 2

/-- The token of 46 bytes. -/
def deT (b : List UInt8) (h : b.length = 46) : Tok :=
  ⟨b[0]'(by omega), b[1]'(by omega), UInt64.ofNat (val ((b.drop 2).take 8)), UInt32.ofNat (val ((b.drop 10).take 4)), b.drop 14, by simp [h]⟩
def decT (b : List UInt8) : Tok := if h : b.length = 46 then deT b h else tokZ
def decE (b : List UInt8) : Int := if b.length = 46 then 0 else 11

set_option maxRecDepth 100000 in
theorem eqT (a b : Tok) (w : World) : (Op.equalIn 10000 27 (.agg (tokL a).toArray) (.agg (tokL b).toArray)).run Tryd.prog w = .ok (decide (a = b)) w := by
  have hp : Tryd.prog.stoodInHeld 27 = false := by kernel_rfl
  have hf : Tryd.prog.underlying 27 = some (.struct (Tryd.prog.fieldsOf 27)) := by kernel_rfl
  have e : decide (a = b) = (((a.tenant.toNat : Int) == (b.tenant.toNat : Int)) && (((a.role.toNat : Int) == (b.role.toNat : Int)) && (((a.expiry.toNat : Int) == (b.expiry.toNat : Int)) && (((a.serial.toNat : Int) == (b.serial.toNat : Int)) && (decide (a.tag = b.tag) && true))))) := by
    rw [beqU8, beqU8, beqU64, beqU32, Bool.eq_iff_iff]
    simp only [decide_eq_true_eq, Bool.and_eq_true, and_true]
    constructor
    · rintro rfl; exact ⟨rfl, rfl, rfl, rfl, rfl⟩
    · rintro ⟨h1, h2, h3, h4, h5⟩
      exact Tok.ext' h1 h2 h3 h4 h5
  have htag : ∀ t : Tok, (tokL t).toArray.extract 4 (4 + 32) = (t.tag.map by8).toArray := fun t => by
    have : (t.tag.map by8).length = 32 := by simp [t.len]
    apply Array.ext'
    simp only [tokL, Array.toList_extract, List.extract_eq_take_drop]
    show ((t.tag.map by8).take 32) = _
    rw [List.take_of_length_le (by omega)]
  rw [e, run_equalIn_agg (P := Tryd.prog) w 9999 27 _ _ hf hp]
  unfold Program.fieldsOf
  rw [Tryd.underlying27]
  exact eqFields_step w 9999 _ _ _ _ rfl _ _ (run_part1 w _ _ _ _ _ Tryd.underlying5 rfl rfl) (run_part1 w _ _ _ _ _ Tryd.underlying5 rfl rfl) _ _ (run_equalIn_int w 9998 _ _ _ _ _ Tryd.underlying5)
    (eqFields_step w 9999 _ _ _ _ rfl _ _ (run_part1 w _ _ _ _ _ Tryd.underlying5 rfl rfl) (run_part1 w _ _ _ _ _ Tryd.underlying5 rfl rfl) _ _ (run_equalIn_int w 9998 _ _ _ _ _ Tryd.underlying5)
    (eqFields_step w 9999 _ _ _ _ rfl _ _ (run_part1 w _ _ _ _ _ Tryd.underlying23 rfl rfl) (run_part1 w _ _ _ _ _ Tryd.underlying23 rfl rfl) _ _ (run_equalIn_int w 9998 _ _ _ _ _ Tryd.underlying23)
    (eqFields_step w 9999 _ _ _ _ rfl _ _ (run_part1 w _ _ _ _ _ Tryd.underlying24 rfl rfl) (run_part1 w _ _ _ _ _ Tryd.underlying24 rfl rfl) _ _ (run_equalIn_int w 9998 _ _ _ _ _ Tryd.underlying24)
    (eqFields_step w 9999 _ _ _ _ rfl _ _ (run_partA w _ _ _ 32 _ _ Tryd.underlying25 rfl (by kernel_rfl) (htag a)) (run_partA w _ _ _ 32 _ _ Tryd.underlying25 rfl (by kernel_rfl) (htag b)) _ _
      (run_equalIn_map by8 w 9998 _ _ 32 Tryd.underlying25 (by kernel_rfl) (isAgg_int Tryd.underlying5) (fun a b w => eqIn_by8 9997 _ Tryd.underlying5 a b w) a.tag b.tag a.len b.len)
    (eqFields_nil w 9999 _ _)))))
theorem neqT (a b : Tok) (w : World) : (binOp .neq 27 (.agg (tokL a).toArray) (.agg (tokL b).toArray)).run Tryd.prog w = .ok (.bool (!decide (a = b))) w := by
  rw [run_neq_struct, eqT, Result.andThen_ok]
theorem eqlT (a b : Tok) (w : World) : (binOp .eql 27 (.agg (tokL a).toArray) (.agg (tokL b).toArray)).run Tryd.prog w = .ok (.bool (decide (a = b))) w := by
  rw [run_eql_struct, eqT, Result.andThen_ok]
theorem eqGuardT : Tryd.prog.eqGuardType Tryd.prog.depth 27 = false := by kernel_rfl
end Go.Proofs.YtioonimpobcglaaDoor
