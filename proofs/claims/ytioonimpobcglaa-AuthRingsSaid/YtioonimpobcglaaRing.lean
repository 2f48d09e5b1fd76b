/- Rings in plain words: entries, whether a ring is valid, one more entry, a revocation, the live ones; what equality of entries is. No condition. -/
import Derived.Test.YtioonimpobcglaaProg
import Derived.Test.YtioonimpobcglaaStE
import Derived.WalkLawsBesides
import Derived.WalkSpells
import Derived.Laws.BitsAllLaws
set_option linter.unusedSimpArgs false
set_option linter.unusedVariables false
namespace Go.Proofs.Ytioonimpobcglaa
open Go.RowKit

/-- An entry of a ring. -/
structure Mnt where
  role : UInt8
  expiry : UInt64
  revoked : Bool

theorem Mnt.ext' {a b : Mnt} (h1 : a.role = b.role) (h2 : a.expiry = b.expiry) (h3 : a.revoked = b.revoked) : a = b := by
  cases a; cases b; simp_all

instance : DecidableEq Mnt := fun a b =>
  if h : a.role = b.role ∧ a.expiry = b.expiry ∧ a.revoked = b.revoked then .isTrue (Mnt.ext' h.1 h.2.1 h.2.2)
  else .isFalse (fun e => h (by subst e; exact ⟨rfl, rfl, rfl⟩))

instance : Inhabited Mnt := ⟨⟨0, 0, false⟩⟩

def mintZ : Mnt := ⟨0, 0, false⟩
def mintL (m : Mnt) : List Value := [.int .u8 (m.role.toNat : Int), .int .u64 (m.expiry.toNat : Int), .bool m.revoked]
theorem mintL_length (m : Mnt) : (mintL m).length = 3 := rfl
theorem mintL_one (m : Mnt) : (mintL m).toArray.all (·.oneCell') = true := by simp [mintL, one_int, one_bool]
theorem mintL_all (l : List Mnt) : ∀ u ∈ l.flatMap mintL, u.oneCell' = true := by
  intro u hu
  obtain ⟨m, _, hm⟩ := List.mem_flatMap.1 hu
  simp only [mintL, List.mem_cons, List.not_mem_nil, or_false] at hm
  rcases hm with rfl | rfl | rfl <;> rfl
theorem mintL_0 (m : Mnt) : (mintL m).toArray[0]? = some (.int .u8 (m.role.toNat : Int)) := rfl
theorem mintL_1 (m : Mnt) : (mintL m).toArray[1]? = some (.int .u64 (m.expiry.toNat : Int)) := rfl
theorem mintL_2 (m : Mnt) : (mintL m).toArray[2]? = some (.bool m.revoked) := rfl

/-- v reads as the ring l. -/
abbrev Rg (w : World) (v : Value) (l : List Mnt) : Prop := Sl w 3 v l.length (l.flatMap mintL)
/-- v is the ring l, in memory of one's own. -/
abbrev rowM (v : Value) (l : List Mnt) : Res := row v 35 3 l.length (l.flatMap mintL)
/-- v is the numbers xs, in memory of one's own. -/
abbrev row32 (v : Value) (xs : List UInt32) : Res := row v 24 1 xs.length (xs.map fun x => Value.int .u32 (x.toNat : Int))
abbrev Ns (w : World) (v : Value) (xs : List UInt32) : Prop := Sl w 1 v xs.length (xs.map fun x => Value.int .u32 (x.toNat : Int))

def badM (m : Mnt) : Bool := decide (m.role.toNat < 1 ∨ 3 < m.role.toNat ∨ 4611686018427387904 < m.expiry.toNat)
/-- Check of a ring. -/
def chkR (l : List Mnt) : Int := if 32 < l.length then 4 else if l.any badM then 8 else 0

theorem any_none (l : List Mnt) (h : ∀ (k : Nat) (x : Mnt), l[k]? = some x → badM x = false) : l.any badM = false := by
  rw [List.any_eq_false]
  intro x hx
  obtain ⟨k, hk⟩ := List.getElem?_of_mem hx
  simp [h k x hk]
theorem any_some (l : List Mnt) (k : Nat) (x : Mnt) (h : l[k]? = some x) (hb : badM x = true) : l.any badM = true := List.any_eq_true.2 ⟨x, List.mem_of_getElem? h, hb⟩

/-- The smaller of the end of a life and the last tick. -/
def expM (now life : Nat) : Nat := if now + life ≤ 4611686018427387904 then now + life else 4611686018427387904
def mintE (l : List Mnt) (role life now : Nat) : Int :=
  if chkR l ≠ 0 then chkR l else if role < 1 ∨ 3 < role ∨ life = 0 ∨ 4611686018427387904 < life ∨ 4611686018427387904 < now then 2 else if l.length = 32 then 9 else 0
def mintM (role life now : Nat) : Mnt := ⟨UInt8.ofNat role, UInt64.ofNat (expM now life), false⟩
def mintR (l : List Mnt) (role life now : Nat) : List Mnt := if mintE l role life now = 0 then l ++ [mintM role life now] else []
def mintN (l : List Mnt) (role life now : Nat) : Nat := if mintE l role life now = 0 then l.length + 1 else 0

/-- The entry with a serial number. -/
def entR (l : List Mnt) (n : Nat) : Option Mnt := if n = 0 then none else l[n - 1]?

def revE (l : List Mnt) (n : Nat) : Int :=
  if chkR l ≠ 0 then chkR l else match entR l n with | none => 191 | some x => if x.revoked then 192 else 0
def revR (l : List Mnt) (n : Nat) : List Mnt := if revE l n = 0 then (match entR l n with | some x => l.set (n - 1) ⟨x.role, x.expiry, true⟩ | none => []) else []

def liveB (now : Nat) (m : Mnt) : Bool := !m.revoked && decide (now < m.expiry.toNat)
/-- The serial numbers of the live entries among the first k. -/
def liveK (l : List Mnt) (now : Nat) : Nat → List UInt32
  | 0 => []
  | k + 1 => liveK l now k ++ (match l[k]? with | some m => if liveB now m then [UInt32.ofNat (k + 1)] else [] | none => [])
def liveE (l : List Mnt) (now : Nat) : Int := if chkR l ≠ 0 then chkR l else if 4611686018427387904 < now then 2 else 0
def liveR (l : List Mnt) (now : Nat) : List UInt32 := if liveE l now = 0 then liveK l now l.length else []

theorem liveK_length (l : List Mnt) (now k : Nat) : (liveK l now k).length ≤ k := by
  induction k with
  | zero => simp [liveK]
  | succ k ih =>
    simp only [liveK, List.length_append]
    split
    · split <;> simp <;> omega
    · simp; omega

theorem eqM (a b : Mnt) (w : World) : (Op.equalIn 10000 35 (.agg (mintL a).toArray) (.agg (mintL b).toArray)).run Try.prog w = .ok (decide (a = b)) w := by
  have hp : Try.prog.stoodInHeld 35 = false := by kernel_rfl
  have hf : Try.prog.underlying 35 = some (.struct (Try.prog.fieldsOf 35)) := by kernel_rfl
  have e : decide (a = b) = (((a.role.toNat : Int) == (b.role.toNat : Int)) && (((a.expiry.toNat : Int) == (b.expiry.toNat : Int)) && ((a.revoked == b.revoked) && true))) := by
    rw [beqU8, beqU64, Bool.eq_iff_iff]
    simp only [decide_eq_true_eq, Bool.and_eq_true, beq_iff_eq, and_true]
    constructor
    · rintro rfl; exact ⟨rfl, rfl, rfl⟩
    · rintro ⟨h1, h2, h3⟩
      exact Mnt.ext' h1 h2 h3
  rw [e, run_equalIn_agg (P := Try.prog) w 9999 35 _ _ hf hp]
  unfold Program.fieldsOf
  rw [Try.underlying35]
  exact eqFields_step w 9999 _ _ _ _ rfl _ _ (run_part1 w _ _ _ _ _ Try.underlying5 rfl rfl) (run_part1 w _ _ _ _ _ Try.underlying5 rfl rfl) _ _ (run_equalIn_int w 9998 _ _ _ _ _ Try.underlying5)
    (eqFields_step w 9999 _ _ _ _ rfl _ _ (run_part1 w _ _ _ _ _ Try.underlying23 rfl rfl) (run_part1 w _ _ _ _ _ Try.underlying23 rfl rfl) _ _ (run_equalIn_int w 9998 _ _ _ _ _ Try.underlying23)
    (eqFields_step w 9999 _ _ _ _ rfl _ _ (run_part1 w _ _ _ _ _ Try.underlying4 rfl rfl) (run_part1 w _ _ _ _ _ Try.underlying4 rfl rfl) _ _ (run_equalIn_bool' w 9998 _ _ _ Try.underlying4)
    (eqFields_nil w 9999 _ _)))
theorem neqM (a b : Mnt) (w : World) : (binOp .neq 35 (.agg (mintL a).toArray) (.agg (mintL b).toArray)).run Try.prog w = .ok (.bool (!decide (a = b))) w := by
  rw [run_neq_struct, eqM, Result.andThen_ok]
theorem eqlM (a b : Mnt) (w : World) : (binOp .eql 35 (.agg (mintL a).toArray) (.agg (mintL b).toArray)).run Try.prog w = .ok (.bool (decide (a = b))) w := by
  rw [run_eql_struct, eqM, Result.andThen_ok]
theorem infoM2 : (Try.prog.info? 35).map (fun i => (i.zero, i.size)) = some (some (.agg (mintL mintZ).toArray), 3) := by kernel_rfl
theorem infoM : (Try.prog.info? 35).map (fun i => (i.zero, i.size, i.bytes)) = some (some (.agg (mintL mintZ).toArray), 3, 24) := by kernel_rfl

/-- append of entries onto a ring of one's own. -/
theorem step_appendM {ops : Array Oper} {rest : List Oper} {a : Act} {w0 w : World} {l F : List Res} {Q : Exit → Act → World → Prop} {dst : Option Tmp} {ty : TypeId} {pos : String} {after : Array Edge} {gd : Option (Nat × Bool)} (S : Has w0 w l) (s x : Operand)
    (v : Value) (xs : List Mnt) (hs : a.eval s = v) (hp : Pick l (rowM v xs) F) (src : Value) (ys : List Mnt) (hx : a.eval x = src) (hsrc : Rg w src ys) (hlen : (xs.length + ys.length) * 24 ≤ 140737488355328)
    (hw : Region.wanted ⟨dst, .call { callee := .builtin .append, args := #[s, x], argTypes := #[22, 22] }, ty, pos, after, gd⟩ (yielded ops a.tmps) = true)
    (h : ∀ v' w', Has w0 w' (rowM v' (xs ++ ys) :: F) → wpList Try.prog ops Q rest (a.put dst v') w') :
    wpList Try.prog ops Q (⟨dst, .call { callee := .builtin .append, args := #[s, x], argTypes := #[22, 22] }, ty, pos, after, gd⟩ :: rest) a w := by
  refine step_append S s x 22 35 (.agg (mintL mintZ).toArray) 3 24 Try.underlying22 infoM rfl (by decide) v xs.length (xs.flatMap mintL) hs hp src ys.length (ys.flatMap mintL) hx hsrc (mintL_all _) (by unfold maxLen; omega) hlen hw ?_
  intro v' w' S'
  refine h v' w' ?_
  rw [← List.flatMap_append, ← List.length_append] at S'
  exact S'

theorem does_appendM {a : Act} {w0 w : World} {F : List Res} {dst : Option Tmp} {ty : TypeId} {pos : String} {after : Array Edge} {guard : Option (Nat × Bool)} {Post : Value → World → Prop} (s x : Operand)
    (v : Value) (xs : List Mnt) (hs : a.eval s = v) (S : Has w0 w (rowM v xs :: F)) (src : Value) (ys : List Mnt) (hx : a.eval x = src) (hsrc : Rg w src ys) (hlen : (xs.length + ys.length) * 24 ≤ 140737488355328)
    (h : ∀ v' w', Has w0 w' (rowM v' (xs ++ ys) :: F) → Post v' w') :
    does Try.prog a.eval ⟨dst, .call { callee := .builtin .append, args := #[s, x], argTypes := #[22, 22] }, ty, pos, after, guard⟩ w Post := by
  refine does_append s x 22 35 (.agg (mintL mintZ).toArray) 3 24 Try.underlying22 infoM rfl (by decide) v xs.length (xs.flatMap mintL) hs S src ys.length (ys.flatMap mintL) hx hsrc (mintL_all _) (by unfold maxLen; omega) hlen ?_
  intro v' w' S'
  refine h v' w' ?_
  rw [← List.flatMap_append, ← List.length_append] at S'
  exact S'

theorem info32 : (Try.prog.info? 24).map (fun i => (i.zero, i.size, i.bytes)) = some (some (.int .u32 0), 1, 4) := by kernel_rfl
theorem info322 : (Try.prog.info? 24).map (fun i => (i.zero, i.size)) = some (some (.int .u32 0), 1) := by kernel_rfl
theorem nums_one (xs : List UInt32) : ∀ u ∈ xs.map fun x => Value.int .u32 (x.toNat : Int), u.oneCell' = true := by
  intro u hu
  obtain ⟨x, _, rfl⟩ := List.mem_map.1 hu
  rfl

/-- append of numbers onto numbers of one's own. -/
theorem step_append32 {ops : Array Oper} {rest : List Oper} {a : Act} {w0 w : World} {l F : List Res} {Q : Exit → Act → World → Prop} {dst : Option Tmp} {ty : TypeId} {pos : String} {after : Array Edge} {gd : Option (Nat × Bool)} (S : Has w0 w l) (s x : Operand)
    (v : Value) (xs : List UInt32) (hs : a.eval s = v) (hp : Pick l (row32 v xs) F) (src : Value) (ys : List UInt32) (hx : a.eval x = src) (hsrc : Ns w src ys) (hlen : (xs.length + ys.length) * 4 ≤ 140737488355328)
    (hw : Region.wanted ⟨dst, .call { callee := .builtin .append, args := #[s, x], argTypes := #[40, 40] }, ty, pos, after, gd⟩ (yielded ops a.tmps) = true)
    (h : ∀ v' w', Has w0 w' (row32 v' (xs ++ ys) :: F) → wpList Try.prog ops Q rest (a.put dst v') w') :
    wpList Try.prog ops Q (⟨dst, .call { callee := .builtin .append, args := #[s, x], argTypes := #[40, 40] }, ty, pos, after, gd⟩ :: rest) a w := by
  refine step_append S s x 40 24 (.int .u32 0) 1 4 Try.underlying40 info32 rfl (by decide) v xs.length _ hs hp src ys.length _ hx hsrc (nums_one _) (by unfold maxLen; omega) hlen hw ?_
  intro v' w' S'
  refine h v' w' ?_
  rw [← List.map_append, ← List.length_append] at S'
  exact S'

/-- A new slice of one number. -/
theorem step_build321 {ops : Array Oper} {rest : List Oper} {a : Act} {w0 w : World} {l : List Res} {Q : Exit → Act → World → Prop} {dst : Option Tmp} {ty : TypeId} {pos : String} {after : Array Edge} {gd : Option (Nat × Bool)} (S : Has w0 w l) (x : Operand) (y : UInt32)
    (hx : a.eval x = .int .u32 (y.toNat : Int))
    (hw : Region.wanted ⟨dst, .buildSlice 40 1 #[(0, x)], ty, pos, after, gd⟩ (yielded ops a.tmps) = true)
    (h : ∀ v w', Has w0 w' (row32 v [y] :: l) → wpList Try.prog ops Q rest (a.put dst v) w') : wpList Try.prog ops Q (⟨dst, .buildSlice 40 1 #[(0, x)], ty, pos, after, gd⟩ :: rest) a w :=
  step_buildL S 40 24 1 #[(0, x)] [.int .u32 (y.toNat : Int)] (.int .u32 0) Try.underlying40 info322 rfl (by simp [hx]) rfl (fun v hv => by simp only [List.mem_singleton] at hv; subst hv; rfl) (by decide) hw h

/-- A new ring. -/
def MadeM (w : World) (l : List Mnt) (e : Ending) (w' : World) : Prop := ∃ v, e = .returned v ∧ Has w w' [rowM v l]

theorem Has.nilM {w0 w : World} {l : List Res} (S : Has w0 w l) : Has w0 w (rowM (.slice none 0 0) [] :: l) := S.nil_row _ _

/-- What the cells of an entry of a ring that came in are. -/
theorem Rg.cells {w : World} {a : Option Addr} {l : List Mnt} {c : Nat} (h : Rg w (.slice a l.length c) l) (k : Nat) (m : Mnt) (hm : l[k]? = some m) :
    ∃ b off, a = some ⟨b, off, none⟩ ∧ w.rangeAt b (off + k * 3) (mintL m) ∧ w.cell? ⟨b, off + k * 3, none⟩ = some (.int .u8 (m.role.toNat : Int)) ∧ w.cell? ⟨b, off + k * 3 + 1, none⟩ = some (.int .u64 (m.expiry.toNat : Int)) ∧ w.cell? ⟨b, off + k * 3 + 2, none⟩ = some (.bool m.revoked) := by
  have hk := (List.getElem?_eq_some_iff.1 hm).1
  obtain ⟨b, off, rfl, _⟩ := h.atA (by omega)
  have hr := h.elem mintL_length (by decide) k m hm
  exact ⟨b, off, rfl, hr, hr 0 _ rfl, hr 1 _ rfl, hr 2 _ rfl⟩

set_option maxRecDepth 20000 in
set_option maxHeartbeats 1000000 in
theorem cloneM_s (v : Value) (l : List Mnt) (w0 : World) (h : Rg w0 v l) (hl : l.length * 24 ≤ 140737488355328) :
    Calls Try.prog 15 #[v] w0 (MadeM w0 l) := by
  have S := Has.start w0
  obtain ⟨a, c, rfl, hc1, hc2⟩ := Sl.shape h
  have e1 := @Lib.run_eql_slice_nil Try.prog
  cases a with
  | none =>
    obtain ⟨hn, hc, hx⟩ := Sl.empty h
    have hx' : l = [] := List.eq_nil_of_length_eq_zero hn
    subst hx'
    subst hc
    clear hx hn hc1 hc2 h
    go_enter Try.func15, Try.ntmps15
    go_wp2
    go_ret
    exact ⟨_, rfl, S.nilM⟩
  | some ad =>
    have hle : ((([] : List Mnt).length + l.length) * 24) ≤ 140737488355328 := by simpa using hl
    have H := Lib.hid h; have HLE := Lib.hid hle; clear h hle
    go_enter Try.func15, Try.ntmps15
    go_wp2_with (first | ((with_reducible show wpList _ _ _ (⟨some 5, .buildSlice 22 0 _, _, _, _, _⟩ :: _) _ _); refine step_build0 S 22 35 Try.underlying22 3 (by kernel_rfl) rfl ?_; clear S; intro v5 w S; replace S : Has w0 w [rowM v5 []] := S) | (at_builtin; refine step_appendM S (.tmp 5) (.tmp 6) _ _ rfl (by (repeat (first | exact Pick.head _ _ | apply Pick.tail)); first | done | fail) _ _ rfl (by first | assumption | exact S.old (Hid.out (by assumption)) | exact S.sl (by (repeat (first | exact Pick.head _ _ | apply Pick.tail)); first | done | fail) | exact S.sl_rd (by (repeat (first | exact Pick.head _ _ | apply Pick.tail)); first | done | fail)) (by (first | omega | assumption | (exact Hid.out (by assumption)) | (simp only [List.length_append, List.length_cons, List.length_nil]; omega))) rfl ?_; clear S; intro v7 w S; (try simp only [List.nil_append] at S)) | fail)
    go_ret
    exact ⟨_, rfl, S⟩

set_option maxRecDepth 20000 in
set_option maxHeartbeats 1000000 in
theorem twin_s (v : Value) (l : List Mnt) (w0 : World) (h : Rg w0 v l) (hl : l.length * 24 ≤ 140737488355328) :
    Calls Try.prog 4 #[v] w0 (MadeM w0 l) := by
  have S := (Has.start w0).nilM
  have hle : ((([] : List Mnt).length + l.length) * 24) ≤ 140737488355328 := by simpa using hl
  have H := Lib.hid h; have HLE := Lib.hid hle; clear h hle
  go_enter Try.func4, Try.ntmps4
  go_wp2_with (first | (at_builtin; refine step_appendM S _ (.tmp 3) _ _ rfl (by (repeat (first | exact Pick.head _ _ | apply Pick.tail)); first | done | fail) _ _ rfl (by first | assumption | exact S.old (Hid.out (by assumption)) | exact S.sl (by (repeat (first | exact Pick.head _ _ | apply Pick.tail)); first | done | fail) | exact S.sl_rd (by (repeat (first | exact Pick.head _ _ | apply Pick.tail)); first | done | fail)) (by (first | omega | assumption | (exact Hid.out (by assumption)) | (simp only [List.length_append, List.length_cons, List.length_nil]; omega))) rfl ?_; clear S; intro v4 w S; (try simp only [List.nil_append] at S)) | fail)
  go_ret
  exact ⟨_, rfl, S⟩
end Go.Proofs.Ytioonimpobcglaa
