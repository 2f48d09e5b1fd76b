/- Several texts under one header: Ring, RingC, RingD. No condition but those that each names. -/
import Derived.Test.YtmcefinhmihmnaaDoorBd
import Derived.Test.YtmcefinhmihmnaaDoorProg
import Derived.WalkLawsBesides
import Derived.WalkSpells
import Derived.Laws.BitsAllLaws
import Derived.Deep.QuietTactic
set_option linter.unusedSimpArgs false
set_option linter.unusedVariables false

/- Rings in plain words: entries, whether a ring is valid, one more entry, a revocation, the live ones; what equality of entries is. No condition. -/
namespace Go.Proofs.YtmcefinhmihmnaaDoor
open Go.RowKit

/-- An entry of a ring. -/
structure Mnt where
  role : UInt8
  expiry : UInt64
  revoked : Bool

theorem Mnt.ext' {a b : Mnt} (h1 : a.role = b.role) (h2 : a.expiry = b.expiry) (h3 : a.revoked = b.revoked) : a = b := by
  cases a; cases b; simp_all

instance : DecidableEq Mnt := fun a b =>
  if h : a.role = b.role ∧ a.expiry = b.expiry ∧ a.revoked = b.revoked then .isTrue (Mnt.ext' h.1 h.2.1 h.2.2)
  else .isFalse (fun e => h (by subst e; exact ⟨rfl, rfl, rfl⟩))

instance : Inhabited Mnt := ⟨⟨0, 0, false⟩⟩

def mintZ : Mnt := ⟨0, 0, false⟩
def mintL (m : Mnt) : List Value := [.int .u8 (m.role.toNat : Int), .int .u64 (m.expiry.toNat : Int), .bool m.revoked]
theorem mintL_length (m : Mnt) : (mintL m).length = 3 := rfl
theorem mintL_one (m : Mnt) : (mintL m).toArray.all (·.oneCell') = true := by simp [mintL, one_int, one_bool]
theorem mintL_all (l : List Mnt) : ∀ u ∈ l.flatMap mintL, u.oneCell' = true := by
  intro u hu
  obtain ⟨m, _, hm⟩ := List.mem_flatMap.1 hu
  simp only [mintL, List.mem_cons, List.not_mem_nil, or_false] at hm
  rcases hm with rfl | rfl | rfl <;> rfl
theorem mintL_0 (m : Mnt) : (mintL m).toArray[0]? = some (.int .u8 (m.role.toNat : Int)) := rfl
theorem mintL_1 (m : Mnt) : (mintL m).toArray[1]? = some (.int .u64 (m.expiry.toNat : Int)) := rfl
theorem mintL_2 (m : Mnt) : (mintL m).toArray[2]? = some (.bool m.revoked) := rfl

/-- v reads as the ring l. -/
abbrev Rg (w : World) (v : Value) (l : List Mnt) : Prop := Sl w 3 v l.length (l.flatMap mintL)
/-- v is the ring l, in memory of one's own. -/
abbrev rowM (v : Value) (l : List Mnt) : Res := row v 44 3 l.length (l.flatMap mintL)
/-- v is the numbers xs, in memory of one's own. -/
abbrev row32 (v : Value) (xs : List UInt32) : Res := row v 31 1 xs.length (xs.map fun x => Value.int .u32 (x.toNat : Int))
abbrev Ns (w : World) (v : Value) (xs : List UInt32) : Prop := Sl w 1 v xs.length (xs.map fun x => Value.int .u32 (x.toNat : Int))

def badM (m : Mnt) : Bool := decide (m.role.toNat < 1 ∨ 3 < m.role.toNat ∨ 4611686018427387904 < m.expiry.toNat)
/-- Check of a ring. -/
def chkR (l : List Mnt) : Int := if 32 < l.length then 4 else if l.any badM then 8 else 0

theorem any_none (l : List Mnt) (h : ∀ (k : Nat) (x : Mnt), l[k]? = some x → badM x = false) : l.any badM = false := by
  rw [List.any_eq_false]
  intro x hx
  obtain ⟨k, hk⟩ := List.getElem?_of_mem hx
  simp [h k x hk]
theorem any_some (l : List Mnt) (k : Nat) (x : Mnt) (h : l[k]? = some x) (hb : badM x = true) : l.any badM = true := List.any_eq_true.2 ⟨x, List.mem_of_getElem? h, hb⟩

/-- The smaller of the end of a life and the last tick. -/
def expM (now life : Nat) : Nat := if now + life ≤ 4611686018427387904 then now + life else 4611686018427387904
def mintE (l : List Mnt) (role life now : Nat) : Int :=
  if chkR l ≠ 0 then chkR l else if role < 1 ∨ 3 < role ∨ life = 0 ∨ 4611686018427387904 < life ∨ 4611686018427387904 < now then 2 else if l.length = 32 then 9 else 0
def mintM (role life now : Nat) : Mnt := ⟨UInt8.ofNat role, UInt64.ofNat (expM now life), false⟩
def mintR (l : List Mnt) (role life now : Nat) : List Mnt := if mintE l role life now = 0 then l ++ [mintM role life now] else []
def mintN (l : List Mnt) (role life now : Nat) : Nat := if mintE l role life now = 0 then l.length + 1 else 0

/-- The entry with a serial number. -/
def entR (l : List Mnt) (n : Nat) : Option Mnt := if n = 0 then none else l[n - 1]?

def revE (l : List Mnt) (n : Nat) : Int :=
  if chkR l ≠ 0 then chkR l else match entR l n with | none => 191 | some x => if x.revoked then 192 else 0
def revR (l : List Mnt) (n : Nat) : List Mnt := if revE l n = 0 then (match entR l n with | some x => l.set (n - 1) ⟨x.role, x.expiry, true⟩ | none => []) else []

def liveB (now : Nat) (m : Mnt) : Bool := !m.revoked && decide (now < m.expiry.toNat)
/-- The serial numbers of the live entries among the first k. -/
def liveK (l : List Mnt) (now : Nat) : Nat → List UInt32
  | 0 => []
  | k + 1 => liveK l now k ++ (match l[k]? with | some m => if liveB now m then [UInt32.ofNat (k + 1)] else [] | none => [])
def liveE (l : List Mnt) (now : Nat) : Int := if chkR l ≠ 0 then chkR l else if 4611686018427387904 < now then 2 else 0
def liveR (l : List Mnt) (now : Nat) : List UInt32 := if liveE l now = 0 then liveK l now l.length else []

theorem liveK_length (l : List Mnt) (now k : Nat) : (liveK l now k).length ≤ k := by
  induction k with
  | zero => simp [liveK]
  | succ k ih =>
    simp only [liveK, List.length_append]
    split
    · split <;> simp <;> omega
    · simp; omega

set_option maxRecDepth 100000 in
theorem eqM (a b : Mnt) (w : World) : (Op.equalIn 10000 44 (.agg (mintL a).toArray) (.agg (mintL b).toArray)).run Tryd.prog w = .ok (decide (a = b)) w := by
  have hp : Tryd.prog.stoodInHeld 44 = false := by kernel_rfl
  have hf : Tryd.prog.underlying 44 = some (.struct (Tryd.prog.fieldsOf 44)) := by kernel_rfl
  have e : decide (a = b) = (((a.role.toNat : Int) == (b.role.toNat : Int)) && (((a.expiry.toNat : Int) == (b.expiry.toNat : Int)) && ((a.revoked == b.revoked) && true))) := by
    rw [beqU8, beqU64, Bool.eq_iff_iff]
    simp only [decide_eq_true_eq, Bool.and_eq_true, beq_iff_eq, and_true]
    constructor
    · rintro rfl; exact ⟨rfl, rfl, rfl⟩
    · rintro ⟨h1, h2, h3⟩
      exact Mnt.ext' h1 h2 h3
  rw [e, run_equalIn_agg (P := Tryd.prog) w 9999 44 _ _ hf hp]
  unfold Program.fieldsOf
  rw [Tryd.underlying44]
  exact eqFields_step w 9999 _ _ _ _ rfl _ _ (run_part1 w _ _ _ _ _ Tryd.underlying5 rfl rfl) (run_part1 w _ _ _ _ _ Tryd.underlying5 rfl rfl) _ _ (run_equalIn_int w 9998 _ _ _ _ _ Tryd.underlying5)
    (eqFields_step w 9999 _ _ _ _ rfl _ _ (run_part1 w _ _ _ _ _ Tryd.underlying25 rfl rfl) (run_part1 w _ _ _ _ _ Tryd.underlying25 rfl rfl) _ _ (run_equalIn_int w 9998 _ _ _ _ _ Tryd.underlying25)
    (eqFields_step w 9999 _ _ _ _ rfl _ _ (run_part1 w _ _ _ _ _ Tryd.underlying4 rfl rfl) (run_part1 w _ _ _ _ _ Tryd.underlying4 rfl rfl) _ _ (run_equalIn_bool' w 9998 _ _ _ Tryd.underlying4)
    (eqFields_nil w 9999 _ _)))
theorem neqM (a b : Mnt) (w : World) : (binOp .neq 44 (.agg (mintL a).toArray) (.agg (mintL b).toArray)).run Tryd.prog w = .ok (.bool (!decide (a = b))) w := by
  rw [run_neq_struct, eqM, Result.andThen_ok]
theorem eqlM (a b : Mnt) (w : World) : (binOp .eql 44 (.agg (mintL a).toArray) (.agg (mintL b).toArray)).run Tryd.prog w = .ok (.bool (decide (a = b))) w := by
  rw [run_eql_struct, eqM, Result.andThen_ok]
set_option maxRecDepth 100000 in
theorem infoM2 : (Tryd.prog.info? 44).map (fun i => (i.zero, i.size)) = some (some (.agg (mintL mintZ).toArray), 3) := by kernel_rfl
set_option maxRecDepth 100000 in
theorem infoM : (Tryd.prog.info? 44).map (fun i => (i.zero, i.size, i.bytes)) = some (some (.agg (mintL mintZ).toArray), 3, 24) := by kernel_rfl

/-- append of entries onto a ring of one's own. -/
theorem step_appendM {ops : Array Oper} {rest : List Oper} {a : Act} {w0 w : World} {l F : List Res} {Q : Exit → Act → World → Prop} {dst : Option Tmp} {ty : TypeId} {pos : String} {after : Array Edge} {gd : Option (Nat × Bool)} (S : Has w0 w l) (s x : Operand)
    (v : Value) (xs : List Mnt) (hs : a.eval s = v) (hp : Pick l (rowM v xs) F) (src : Value) (ys : List Mnt) (hx : a.eval x = src) (hsrc : Rg w src ys) (hlen : (xs.length + ys.length) * 24 ≤ 140737488355328)
    (hw : Region.wanted ⟨dst, .call { callee := .builtin .append, args := #[s, x], argTypes := #[22, 22] }, ty, pos, after, gd⟩ (yielded ops a.tmps) = true)
    (h : ∀ v' w', Has w0 w' (rowM v' (xs ++ ys) :: F) → wpList Tryd.prog ops Q rest (a.put dst v') w') :
    wpList Tryd.prog ops Q (⟨dst, .call { callee := .builtin .append, args := #[s, x], argTypes := #[22, 22] }, ty, pos, after, gd⟩ :: rest) a w := by
  refine step_append S s x 22 44 (.agg (mintL mintZ).toArray) 3 24 Tryd.underlying22 infoM rfl (by decide) v xs.length (xs.flatMap mintL) hs hp src ys.length (ys.flatMap mintL) hx hsrc (mintL_all _) (by unfold maxLen; omega) hlen hw ?_
  intro v' w' S'
  refine h v' w' ?_
  rw [← List.flatMap_append, ← List.length_append] at S'
  exact S'

theorem does_appendM {a : Act} {w0 w : World} {F : List Res} {dst : Option Tmp} {ty : TypeId} {pos : String} {after : Array Edge} {guard : Option (Nat × Bool)} {Post : Value → World → Prop} (s x : Operand)
    (v : Value) (xs : List Mnt) (hs : a.eval s = v) (S : Has w0 w (rowM v xs :: F)) (src : Value) (ys : List Mnt) (hx : a.eval x = src) (hsrc : Rg w src ys) (hlen : (xs.length + ys.length) * 24 ≤ 140737488355328)
    (h : ∀ v' w', Has w0 w' (rowM v' (xs ++ ys) :: F) → Post v' w') :
    does Tryd.prog a.eval ⟨dst, .call { callee := .builtin .append, args := #[s, x], argTypes := #[22, 22] }, ty, pos, after, guard⟩ w Post := by
  refine does_append s x 22 44 (.agg (mintL mintZ).toArray) 3 24 Tryd.underlying22 infoM rfl (by decide) v xs.length (xs.flatMap mintL) hs S src ys.length (ys.flatMap mintL) hx hsrc (mintL_all _) (by unfold maxLen; omega) hlen ?_
  intro v' w' S'
  refine h v' w' ?_
  rw [← List.flatMap_append, ← List.length_append] at S'
  exact S'

theorem info32 : (Tryd.prog.info? 31).map (fun i => (i.zero, i.size, i.bytes)) = some (some (.int .u32 0), 1, 4) := by kernel_rfl
theorem info322 : (Tryd.prog.info? 31).map (fun i => (i.zero, i.size)) = some (some (.int .u32 0), 1) := by kernel_rfl
theorem nums_one (xs : List UInt32) : ∀ u ∈ xs.map fun x => Value.int .u32 (x.toNat : Int), u.oneCell' = true := by
  intro u hu
  obtain ⟨x, _, rfl⟩ := List.mem_map.1 hu
  rfl

/-- append of numbers onto numbers of one's own. -/
theorem step_append32 {ops : Array Oper} {rest : List Oper} {a : Act} {w0 w : World} {l F : List Res} {Q : Exit → Act → World → Prop} {dst : Option Tmp} {ty : TypeId} {pos : String} {after : Array Edge} {gd : Option (Nat × Bool)} (S : Has w0 w l) (s x : Operand)
    (v : Value) (xs : List UInt32) (hs : a.eval s = v) (hp : Pick l (row32 v xs) F) (src : Value) (ys : List UInt32) (hx : a.eval x = src) (hsrc : Ns w src ys) (hlen : (xs.length + ys.length) * 4 ≤ 140737488355328)
    (hw : Region.wanted ⟨dst, .call { callee := .builtin .append, args := #[s, x], argTypes := #[126, 126] }, ty, pos, after, gd⟩ (yielded ops a.tmps) = true)
    (h : ∀ v' w', Has w0 w' (row32 v' (xs ++ ys) :: F) → wpList Tryd.prog ops Q rest (a.put dst v') w') :
    wpList Tryd.prog ops Q (⟨dst, .call { callee := .builtin .append, args := #[s, x], argTypes := #[126, 126] }, ty, pos, after, gd⟩ :: rest) a w := by
  refine step_append S s x 126 31 (.int .u32 0) 1 4 Tryd.underlying126 info32 rfl (by decide) v xs.length _ hs hp src ys.length _ hx hsrc (nums_one _) (by unfold maxLen; omega) hlen hw ?_
  intro v' w' S'
  refine h v' w' ?_
  rw [← List.map_append, ← List.length_append] at S'
  exact S'

/-- A new slice of one number. -/
theorem step_build321 {ops : Array Oper} {rest : List Oper} {a : Act} {w0 w : World} {l : List Res} {Q : Exit → Act → World → Prop} {dst : Option Tmp} {ty : TypeId} {pos : String} {after : Array Edge} {gd : Option (Nat × Bool)} (S : Has w0 w l) (x : Operand) (y : UInt32)
    (hx : a.eval x = .int .u32 (y.toNat : Int))
    (hw : Region.wanted ⟨dst, .buildSlice 126 1 #[(0, x)], ty, pos, after, gd⟩ (yielded ops a.tmps) = true)
    (h : ∀ v w', Has w0 w' (row32 v [y] :: l) → wpList Tryd.prog ops Q rest (a.put dst v) w') : wpList Tryd.prog ops Q (⟨dst, .buildSlice 126 1 #[(0, x)], ty, pos, after, gd⟩ :: rest) a w :=
  step_buildL S 126 31 1 #[(0, x)] [.int .u32 (y.toNat : Int)] (.int .u32 0) Tryd.underlying126 info322 rfl (by simp [hx]) rfl (fun v hv => by simp only [List.mem_singleton] at hv; subst hv; rfl) (by decide) hw h

/-- A new ring. -/
def MadeM (w : World) (l : List Mnt) (e : Ending) (w' : World) : Prop := ∃ v, e = .returned v ∧ Has w w' [rowM v l]

theorem Has.nilM {w0 w : World} {l : List Res} (S : Has w0 w l) : Has w0 w (rowM (.slice none 0 0) [] :: l) := S.nil_row _ _

/-- What the cells of an entry of a ring that came in are. -/
theorem Rg.cells {w : World} {a : Option Addr} {l : List Mnt} {c : Nat} (h : Rg w (.slice a l.length c) l) (k : Nat) (m : Mnt) (hm : l[k]? = some m) :
    ∃ b off, a = some ⟨b, off, none⟩ ∧ w.rangeAt b (off + k * 3) (mintL m) ∧ w.cell? ⟨b, off + k * 3, none⟩ = some (.int .u8 (m.role.toNat : Int)) ∧ w.cell? ⟨b, off + k * 3 + 1, none⟩ = some (.int .u64 (m.expiry.toNat : Int)) ∧ w.cell? ⟨b, off + k * 3 + 2, none⟩ = some (.bool m.revoked) := by
  have hk := (List.getElem?_eq_some_iff.1 hm).1
  obtain ⟨b, off, rfl, _⟩ := h.atA (by omega)
  have hr := h.elem mintL_length (by decide) k m hm
  exact ⟨b, off, rfl, hr, hr 0 _ rfl, hr 1 _ rfl, hr 2 _ rfl⟩

set_option maxRecDepth 20000 in
set_option maxHeartbeats 1000000 in
theorem cloneM_s (v : Value) (l : List Mnt) (w0 : World) (h : Rg w0 v l) (hl : l.length * 24 ≤ 140737488355328) :
    Calls Tryd.prog 48 #[v] w0 (MadeM w0 l) := by
  have S := Has.start w0
  obtain ⟨a, c, rfl, hc1, hc2⟩ := Sl.shape h
  have e1 := @Lib.run_eql_slice_nil Tryd.prog
  cases a with
  | none =>
    obtain ⟨hn, hc, hx⟩ := Sl.empty h
    have hx' : l = [] := List.eq_nil_of_length_eq_zero hn
    subst hx'
    subst hc
    clear hx hn hc1 hc2 h
    go_enter Tryd.func48, Tryd.ntmps48
    go_wp2
    go_ret
    exact ⟨_, rfl, S.nilM⟩
  | some ad =>
    have hle : ((([] : List Mnt).length + l.length) * 24) ≤ 140737488355328 := by simpa using hl
    have H := Lib.hid h; have HLE := Lib.hid hle; clear h hle
    go_enter Tryd.func48, Tryd.ntmps48
    go_wp2_with (first | ((with_reducible refine iD 5 (.buildSlice 22 0 _) ?_); refine step_build0 S 22 44 Tryd.underlying22 3 kR rfl ?_; clear S; intro v5 w S; replace S : Has w0 w [rowM v5 []] := S) | (at_builtin; refine step_appendM S (.tmp 5) (.tmp 6) _ _ rfl pk _ _ rfl sL lE rfl ?_; clear S; intro v7 w S; (try simp only [z4] at S)) | fail)
    go_ret
    exact ⟨_, rfl, S⟩

end Go.Proofs.YtmcefinhmihmnaaDoor

/- Rings: what Check of the program and of the specification return, what Same says. No condition. -/
namespace Go.Proofs.YtmcefinhmihmnaaDoor
open Go.RowKit

theorem any_of (l : List Mnt) (h : ∀ (k : Nat), k < l.length → badM (l.getD k default) = false) : l.any badM = false := any_none l fun k x hx => by
  obtain ⟨hk, rfl⟩ := List.getElem?_eq_some_iff.1 hx
  have := h k hk
  rwa [List.getD_eq_getElem?_getD, List.getElem?_eq_getElem hk] at this

set_option maxRecDepth 100000 in
set_option maxHeartbeats 2000000 in
theorem check_r (v : Value) (l : List Mnt) (w0 : World) (h : Rg w0 v l) :
    Calls Tryd.prog 24 #[v] w0 fun e w' => e = .returned (.int .i64 (chkR l)) ∧ Has w0 w' [] := by
  have S := Has.start w0
  obtain ⟨a0, c0, rfl, k1, k2⟩ := Sl.shape h
  unfold maxLen at k2
  by_cases hm : 32 < l.length
  · have hi : 32 < (l.length : Int) := by omega
    rw [show chkR l = 4 from if_pos hm]
    have H := Lib.hid h; clear h
    go_enter Tryd.func24, Tryd.ntmps24
    go_wp2_with (first | ((with_reducible refine iO _ (.load 44 _) ?_); first | (refine step_loadR 44 _ _ _ rfl _ (S.old_range hy) _ Tryd.underlying44 rfl 3 kR lN _ rfl gw ?_) | (refine step_loadP S 44 _ _ _ rfl _ _ _ pk 3 _ pT lN _ Tryd.underlying44 rfl kR gw ?_)) | ((with_reducible refine iD 4 (.alloc 44) ?_); refine step_alloc (dst := some 4) S 44 (.agg ((mintL mintZ).toArray)) ((mintL mintZ).toArray) kR rfl gw ?_; clear S; intro g4 w S) | ((with_reducible refine iO none (.store 44 (.tmp 4) (.tmp 13)) ?_); refine step_store S 44 (.tmp 4) (.tmp 13) _ _ rfl rfl _ _ pk 3 kR lN lN on1 gw ?_; clear S; intro w S) | ((with_reducible refine iO _ (.load 5 _) ?_); refine step_load1 5 _ _ _ rfl (cL) _ Tryd.underlying5 rfl gw ?_) | ((with_reducible refine iO _ (.load 25 _) ?_); refine step_load1 25 _ _ _ rfl (cL) _ Tryd.underlying25 rfl gw ?_) | fail)
    go_ret
    exact ⟨rfl, S.nil⟩
  have hi : ¬ 32 < (l.length : Int) := by omega
  have hC : chkR l = if l.any badM then 8 else 0 := if_neg hm
  rw [hC]
  obtain ⟨E, hE⟩ : ∃ E : Int, E = if l.any badM then 8 else 0 := ⟨_, rfl⟩
  rw [← hE]
  have H := Lib.hid h; have HE := Lib.hid hE; clear h hE
  clear hC
  go_enter Tryd.func24, Tryd.ntmps24
  go_wp2_with (first | ((with_reducible refine iO _ (.load 44 _) ?_); first | (refine step_loadR 44 _ _ _ rfl _ (S.old_range hy) _ Tryd.underlying44 rfl 3 kR lN _ rfl gw ?_) | (refine step_loadP S 44 _ _ _ rfl _ _ _ pk 3 _ pT lN _ Tryd.underlying44 rfl kR gw ?_)) | ((with_reducible refine iD 4 (.alloc 44) ?_); refine step_alloc (dst := some 4) S 44 (.agg ((mintL mintZ).toArray)) ((mintL mintZ).toArray) kR rfl gw ?_; clear S; intro g4 w S) | ((with_reducible refine iO none (.store 44 (.tmp 4) (.tmp 13)) ?_); refine step_store S 44 (.tmp 4) (.tmp 13) _ _ rfl rfl _ _ pk 3 kR lN lN on1 gw ?_; clear S; intro w S) | ((with_reducible refine iO _ (.load 5 _) ?_); refine step_load1 5 _ _ _ rfl (cL) _ Tryd.underlying5 rfl gw ?_) | ((with_reducible refine iO _ (.load 25 _) ?_); refine step_load1 25 _ _ _ rfl (cL) _ Tryd.underlying25 rfl gw ?_) | fail)
  go_loopw [10] (fun t wr => ∃ (k : Nat), k ≤ l.length ∧ t = .int .i64 (k : Int) ∧ (∀ j, j < k → badM (l.getD j default) = false) ∧ Has w0 wr []) (fun t _ => l.length - (intOf t).toNat)
  case atStart => exact ⟨0, Nat.zero_le _, rfl, fun j hj => by omega, S.nil⟩
  case round =>
    obtain ⟨k, hk, rfl, hgood, S⟩ := hrel
    have HG := Lib.hid hgood
    clear hgood
    by_cases hlt : k < l.length
    · have hm1 : l[k]? = some l[k] := List.getElem?_eq_getElem hlt
      obtain ⟨b, off, rfl, hr, _⟩ := H.out.cells k _ hm1
      obtain ⟨m, hme⟩ : ∃ m, m = l[k] := ⟨_, rfl⟩
      rw [← hme] at hm1 hr
      have hgd : l.getD k default = m := by rw [List.getD_eq_getElem?_getD, hm1]; rfl
      have hki : (k : Int) < l.length := by omega
      have hb8 := m.role.toNat_lt
      have hb64 := m.expiry.toNat_lt
      have HR := Lib.hid hr; have HM1 := Lib.hid hm1; have HGD := Lib.hid hgd; clear hr hm1 hgd
      clear hme
      go_wp2_with (first | ((with_reducible refine iO _ (.load 44 _) ?_); first | (refine step_loadR 44 _ _ _ rfl _ (S.old_range hy) _ Tryd.underlying44 rfl 3 kR lN _ rfl gw ?_) | (refine step_loadP S 44 _ _ _ rfl _ _ _ pk 3 _ pT lN _ Tryd.underlying44 rfl kR gw ?_)) | ((with_reducible refine iD 4 (.alloc 44) ?_); refine step_alloc (dst := some 4) S 44 (.agg ((mintL mintZ).toArray)) ((mintL mintZ).toArray) kR rfl gw ?_; clear S; intro g4 w S) | ((with_reducible refine iO none (.store 44 (.tmp 4) (.tmp 13)) ?_); refine step_store S 44 (.tmp 4) (.tmp 13) _ _ rfl rfl _ _ pk 3 kR lN lN on1 gw ?_; clear S; intro w S) | ((with_reducible refine iO _ (.load 5 _) ?_); refine step_load1 5 _ _ _ rfl (cL) _ Tryd.underlying5 rfl gw ?_) | ((with_reducible refine iO _ (.load 25 _) ?_); refine step_load1 25 _ _ _ rfl (cL) _ Tryd.underlying25 rfl gw ?_) | fail)
      all_goals first
        | (go_roundw
           case rel =>
             refine ⟨k + 1, by omega, by go_num, fun j hj => ?_, S.nil⟩
             by_cases hjk : j = k
             · rw [hjk, HGD.out]
               unfold badM
               rw [decide_eq_false_iff_not]
               omega
             · exact HG.out j (by omega)
           case measure => simp [intOf]; omega)
        | (go_ret
           refine ⟨?_, S.nil⟩
           rw [HE.out, any_some l k m HM1.out (by unfold badM; rw [decide_eq_true_eq]; omega)]
           rfl)
    · obtain rfl : k = l.length := by omega
      go_wp2_with (first | ((with_reducible refine iO _ (.load 44 _) ?_); first | (refine step_loadR 44 _ _ _ rfl _ (S.old_range hy) _ Tryd.underlying44 rfl 3 kR lN _ rfl gw ?_) | (refine step_loadP S 44 _ _ _ rfl _ _ _ pk 3 _ pT lN _ Tryd.underlying44 rfl kR gw ?_)) | ((with_reducible refine iD 4 (.alloc 44) ?_); refine step_alloc (dst := some 4) S 44 (.agg ((mintL mintZ).toArray)) ((mintL mintZ).toArray) kR rfl gw ?_; clear S; intro g4 w S) | ((with_reducible refine iO none (.store 44 (.tmp 4) (.tmp 13)) ?_); refine step_store S 44 (.tmp 4) (.tmp 13) _ _ rfl rfl _ _ pk 3 kR lN lN on1 gw ?_; clear S; intro w S) | ((with_reducible refine iO _ (.load 5 _) ?_); refine step_load1 5 _ _ _ rfl (cL) _ Tryd.underlying5 rfl gw ?_) | ((with_reducible refine iO _ (.load 25 _) ?_); refine step_load1 25 _ _ _ rfl (cL) _ Tryd.underlying25 rfl gw ?_) | fail)
      go_ret
      exact ⟨by rw [HE.out, any_of l HG.out]; rfl, S.nil⟩

/-- Two entries loaded out of rings. -/
theorem eqGuardM : Tryd.prog.eqGuardType Tryd.prog.depth 44 = false := by kernel_rfl

end Go.Proofs.YtmcefinhmihmnaaDoor

/- Rings: the entry with a number, one more entry: what the program's and the specification's functions return. No condition but the reach. -/
namespace Go.Proofs.YtmcefinhmihmnaaDoor
open Go.RowKit

set_option maxRecDepth 100000 in
set_option maxHeartbeats 2000000 in
theorem entry_none (v : Value) (l : List Mnt) (n : Nat) (w0 : World) (h : Rg w0 v l) (hn : n < 4294967296) (he : entR l n = none) :
    Calls Tryd.prog 25 #[v, .int .u32 (n : Int)] w0 fun e w' => e = .returned (.tuple #[.agg (mintL mintZ).toArray, .bool false]) ∧ Has w0 w' [] := by
  have S := Has.start w0
  obtain ⟨a0, c0, rfl, k1, k2⟩ := Sl.shape h
  unfold maxLen at k2
  cases n with
  | zero =>
    have H := Lib.hid h; clear h
    clear he
    go_enter Tryd.func25, Tryd.ntmps25
    go_wp2_with (first | ((with_reducible refine iD 4 (.alloc 44) ?_); refine step_alloc (dst := some 4) S 44 (.agg ((mintL mintZ).toArray)) ((mintL mintZ).toArray) kR rfl gw ?_; clear S; intro g4 w S) | ((with_reducible refine iD 16 (.build 44 _) ?_); refine step_buildZ 44 (.agg ((mintL mintZ).toArray)) (fun w => by kernel_rfl) gw ?_) | ((with_reducible refine iO none (.store 44 (.tmp 4) (.tmp 16)) ?_); refine step_store S 44 (.tmp 4) (.tmp 16) _ _ rfl rfl _ _ pk 3 kR lN lN on1 gw ?_; clear S; intro w S) | ((with_reducible refine iO _ (.load 44 _) ?_); first | (refine step_loadR 44 _ _ _ rfl _ (S.old_range hy) _ Tryd.underlying44 rfl 3 kR lN _ rfl gw ?_) | (refine step_loadP S 44 _ _ _ rfl _ _ _ pk 3 _ pT lN _ Tryd.underlying44 rfl kR gw ?_)) | ((with_reducible refine iO none (.store 44 (.tmp 4) (.tmp 21)) ?_); refine step_store S 44 (.tmp 4) (.tmp 21) _ _ rfl rfl _ _ pk 3 kR lN lN on1 gw ?_; clear S; intro w S) | fail)
    refine ret_row_tmp rfl g4 44 _ (S.get pk) _ Tryd.underlying44 3 kR lN rfl rfl rfl ?_
    exact ⟨rfl, S.nil⟩
  | succ k =>
    have hk : l.length ≤ k := by
      have : l[k]? = none := he
      simpa using this
    have hki : (l.length : Int) < (k : Int) + 1 := by omega
    have H := Lib.hid h; clear h
    clear he
    go_enter Tryd.func25, Tryd.ntmps25
    go_wp2_with (first | ((with_reducible refine iD 4 (.alloc 44) ?_); refine step_alloc (dst := some 4) S 44 (.agg ((mintL mintZ).toArray)) ((mintL mintZ).toArray) kR rfl gw ?_; clear S; intro g4 w S) | ((with_reducible refine iD 16 (.build 44 _) ?_); refine step_buildZ 44 (.agg ((mintL mintZ).toArray)) (fun w => by kernel_rfl) gw ?_) | ((with_reducible refine iO none (.store 44 (.tmp 4) (.tmp 16)) ?_); refine step_store S 44 (.tmp 4) (.tmp 16) _ _ rfl rfl _ _ pk 3 kR lN lN on1 gw ?_; clear S; intro w S) | ((with_reducible refine iO _ (.load 44 _) ?_); first | (refine step_loadR 44 _ _ _ rfl _ (S.old_range hy) _ Tryd.underlying44 rfl 3 kR lN _ rfl gw ?_) | (refine step_loadP S 44 _ _ _ rfl _ _ _ pk 3 _ pT lN _ Tryd.underlying44 rfl kR gw ?_)) | ((with_reducible refine iO none (.store 44 (.tmp 4) (.tmp 21)) ?_); refine step_store S 44 (.tmp 4) (.tmp 21) _ _ rfl rfl _ _ pk 3 kR lN lN on1 gw ?_; clear S; intro w S) | fail)
    refine ret_row_tmp rfl g4 44 _ (S.get pk) _ Tryd.underlying44 3 kR lN rfl rfl rfl ?_
    exact ⟨rfl, S.nil⟩

set_option maxRecDepth 100000 in
set_option maxHeartbeats 2000000 in
theorem entry_some (v : Value) (l : List Mnt) (n : Nat) (x : Mnt) (w0 : World) (h : Rg w0 v l) (hn : n < 4294967296) (he : entR l n = some x) :
    Calls Tryd.prog 25 #[v, .int .u32 (n : Int)] w0 fun e w' => e = .returned (.tuple #[.agg (mintL x).toArray, .bool true]) ∧ Has w0 w' [] := by
  have S := Has.start w0
  obtain ⟨a0, c0, rfl, k1, k2⟩ := Sl.shape h
  unfold maxLen at k2
  cases n with
  | zero => cases he
  | succ k =>
    have hk : l[k]? = some x := he
    have hkl := (List.getElem?_eq_some_iff.1 hk).1
    obtain ⟨b, off, rfl, hr, _⟩ := Rg.cells h k x hk
    have hki : ¬ (l.length : Int) < (k : Int) + 1 := by omega
    have hki2 : (k : Int) < (l.length : Int) := by omega
    have H := Lib.hid h; have HR := Lib.hid hr; clear h hr
    clear he hk
    go_enter Tryd.func25, Tryd.ntmps25
    go_wp2_with (first | ((with_reducible refine iD 4 (.alloc 44) ?_); refine step_alloc (dst := some 4) S 44 (.agg ((mintL mintZ).toArray)) ((mintL mintZ).toArray) kR rfl gw ?_; clear S; intro g4 w S) | ((with_reducible refine iD 16 (.build 44 _) ?_); refine step_buildZ 44 (.agg ((mintL mintZ).toArray)) (fun w => by kernel_rfl) gw ?_) | ((with_reducible refine iO none (.store 44 (.tmp 4) (.tmp 16)) ?_); refine step_store S 44 (.tmp 4) (.tmp 16) _ _ rfl rfl _ _ pk 3 kR lN lN on1 gw ?_; clear S; intro w S) | ((with_reducible refine iO _ (.load 44 _) ?_); first | (refine step_loadR 44 _ _ _ rfl _ (S.old_range hy) _ Tryd.underlying44 rfl 3 kR lN _ rfl gw ?_) | (refine step_loadP S 44 _ _ _ rfl _ _ _ pk 3 _ pT lN _ Tryd.underlying44 rfl kR gw ?_)) | ((with_reducible refine iO none (.store 44 (.tmp 4) (.tmp 21)) ?_); refine step_store S 44 (.tmp 4) (.tmp 21) _ _ rfl rfl _ _ pk 3 kR lN lN on1 gw ?_; clear S; intro w S) | fail)
    refine ret_row_tmp rfl g4 44 _ (S.get pk) _ Tryd.underlying44 3 kR lN rfl rfl rfl ?_
    exact ⟨rfl, S.nil⟩

/-- A ring, a number and an error. -/
def MadeM3 (w : World) (l : List Mnt) (n : Nat) (E : Int) (e : Ending) (w' : World) : Prop := ∃ v, e = .returned (.tuple #[v, .int .u32 (n : Int), .int .i64 E]) ∧ Has w w' [rowM v l]
/-- A ring and an error. -/
def MadeM2 (w : World) (l : List Mnt) (E : Int) (e : Ending) (w' : World) : Prop := ∃ v, e = .returned (.tuple #[v, .int .i64 E]) ∧ Has w w' [rowM v l]
/-- Numbers and an error. -/
def MadeN2 (w : World) (l : List UInt32) (E : Int) (e : Ending) (w' : World) : Prop := ∃ v, e = .returned (.tuple #[v, .int .i64 E]) ∧ Has w w' [row32 v l]

theorem chkR_len (l : List Mnt) (h : chkR l = 0) : l.length ≤ 32 := by
  unfold chkR at h
  split at h
  · cases h
  · omega

theorem mintM_cells (role life now x : Nat) (hr : role < 256) (hx : x = expM now life) (hx2 : x < 18446744073709551616) : (mintL (mintM role life now)).toArray = #[.int .u8 (role : Int), .int .u64 (x : Int), .bool false] := by
  unfold mintL mintM
  rw [← hx]
  simp only [UInt8.toNat_ofNat', UInt64.toNat_ofNat']
  rw [Nat.mod_eq_of_lt (by simpa using hr), Nat.mod_eq_of_lt (by simpa using hx2)]

theorem mint_no (l : List Mnt) (role life now : Nat) (h : mintE l role life now ≠ 0) : mintR l role life now = [] ∧ mintN l role life now = 0 := by
  unfold mintR mintN
  rw [if_neg h, if_neg h]
  exact ⟨rfl, rfl⟩

set_option maxRecDepth 100000 in
set_option maxHeartbeats 4000000 in
theorem mint_r (v : Value) (l : List Mnt) (role life now : Nat) (w0 : World) (h : Rg w0 v l) (hr : role < 256) (hlf : life < 18446744073709551616) (hno : now < 18446744073709551616) :
    Calls Tryd.prog 40 #[v, .int .u8 (role : Int), .int .u64 (life : Int), .int .u64 (now : Int)] w0 (MadeM3 w0 (mintR l role life now) (mintN l role life now) (mintE l role life now)) := by
  have S := Has.start w0
  obtain ⟨a0, c0, rfl, k1, k2⟩ := Sl.shape h
  unfold maxLen at k2
  have hck := fun v w h => check_r v l w h
  by_cases hE : mintE l role life now = 0
  · have hR : mintR l role life now = l ++ [mintM role life now] := if_pos hE
    have hN : mintN l role life now = l.length + 1 := if_pos hE
    rw [hE, hR, hN]
    have hc : chkR l = 0 ∧ ¬ (role < 1 ∨ 3 < role ∨ life = 0 ∨ 4611686018427387904 < life ∨ 4611686018427387904 < now) ∧ l.length ≠ 32 := by
      unfold mintE at hE
      split at hE
      · omega
      · split at hE
        · cases hE
        · split at hE
          · cases hE
          · refine ⟨by omega, by assumption, by assumption⟩
    obtain ⟨hc, hb, hl⟩ := hc
    have h32 := chkR_len l hc
    rw [hc] at hck
    have i1 : ¬ (role : Int) < 1 := by omega
    have i2 : ¬ 3 < (role : Int) := by omega
    have i3 : ((life : Int) == 0) = false := by rw [beq_eq_false_iff_ne]; omega
    have i4 : ¬ 4611686018427387904 < (life : Int) := by omega
    have i5 : ¬ 4611686018427387904 < (now : Int) := by omega
    have i6 : ((l.length : Int) == 32) = false := by rw [beq_eq_false_iff_ne]; omega
    have hcl := fun v w h => cloneM_s v l w h (by omega)
    obtain ⟨M, hM⟩ : ∃ M, M = mintM role life now := ⟨_, rfl⟩
    have hle : (l.length + [M].length) * 24 ≤ 140737488355328 := by simp; omega
    have hle2 : (l ++ [M]).length = l.length + 1 := by simp
    by_cases hmn : now + life ≤ 4611686018427387904
    · have hz1 : (now : Int) + (life : Int) ≤ 4611686018427387904 := by omega
      have hz2 : ¬ 4611686018427387904 < (now : Int) + (life : Int) := by omega
      have hmc := mintM_cells role life now (now + life) hr (if_pos hmn).symm (by omega)
      rw [← hM] at hmc ⊢
      have H := Lib.hid h; have HCK := Lib.hid hck; have HMC := Lib.hid hmc; have HCL := Lib.hid hcl; have HLE := Lib.hid hle; have HLE2 := Lib.hid hle2; clear h hck hmc hcl hle hle2
      clear hM hE hR hN hc hb
      go_enter Tryd.func40, Tryd.ntmps40
      go_wp2_with (first | ((with_reducible refine iD 47 (.buildSlice 22 1 _) ?_); refine step_buildS1 S 22 44 3 (.tmp 46) (mintL M) _ Tryd.underlying22 infoM2 (by decide) (by decide) (show Value.agg _ = .agg (mintL M).toArray by rw [HMC.out]; rfl) rfl gw ?_; clear S; intro v47 w S; replace S : Has w0 w [rowM v47 [M], rowM _ l] := S) | (at_builtin; refine step_appendM S (.tmp 40) (.tmp 47) _ _ rfl pk _ [M] rfl sL HLE.out gw ?_; clear S; intro v48 w S; obtain ⟨a48, c48, rfl, _, _⟩ := Sl.shape (S.sl (v := v48) pk); rw [HLE2.out]) | (go_at_call 24; (with_reducible refine (HCK.out _ _ sL).mono ?_); rintro e w1 ⟨rfl, T⟩; replace S := S.call T; clear T; (try simp only [z4, z5] at S)) | (go_at_call 48; (with_reducible refine (HCL.out _ _ sL).mono ?_); rintro e w1 ⟨v40, rfl, T⟩; replace S := S.call T; clear T; (try simp only [z4, z5] at S)) | (at_builtin; refine step_appendM S (.tmp 40) (.tmp 47) _ _ rfl pk _ _ rfl sL lE gw ?_; clear S; intro v48 w S; (try simp only [z4] at S)) | fail)
      go_ret3
      refine ⟨_, rfl, ?_⟩
      rw [← HLE2.out]
      exact S.sub (by repeat (first | exact Sub.nil _ | refine Sub.cons pk ?_))
    · have hz1 : ¬ (now : Int) + (life : Int) ≤ 4611686018427387904 := by omega
      have hz2 : 4611686018427387904 < (now : Int) + (life : Int) := by omega
      have hmc := mintM_cells role life now 4611686018427387904 hr (if_neg hmn).symm (by omega)
      rw [← hM] at hmc ⊢
      have H := Lib.hid h; have HCK := Lib.hid hck; have HMC := Lib.hid hmc; have HCL := Lib.hid hcl; have HLE := Lib.hid hle; have HLE2 := Lib.hid hle2; clear h hck hmc hcl hle hle2
      clear hM hE hR hN hc hb
      go_enter Tryd.func40, Tryd.ntmps40
      go_wp2_with (first | ((with_reducible refine iD 47 (.buildSlice 22 1 _) ?_); refine step_buildS1 S 22 44 3 (.tmp 46) (mintL M) _ Tryd.underlying22 infoM2 (by decide) (by decide) (show Value.agg _ = .agg (mintL M).toArray by rw [HMC.out]; rfl) rfl gw ?_; clear S; intro v47 w S; replace S : Has w0 w [rowM v47 [M], rowM _ l] := S) | (at_builtin; refine step_appendM S (.tmp 40) (.tmp 47) _ _ rfl pk _ [M] rfl sL HLE.out gw ?_; clear S; intro v48 w S; obtain ⟨a48, c48, rfl, _, _⟩ := Sl.shape (S.sl (v := v48) pk); rw [HLE2.out]) | (go_at_call 24; (with_reducible refine (HCK.out _ _ sL).mono ?_); rintro e w1 ⟨rfl, T⟩; replace S := S.call T; clear T; (try simp only [z4, z5] at S)) | (go_at_call 48; (with_reducible refine (HCL.out _ _ sL).mono ?_); rintro e w1 ⟨v40, rfl, T⟩; replace S := S.call T; clear T; (try simp only [z4, z5] at S)) | (at_builtin; refine step_appendM S (.tmp 40) (.tmp 47) _ _ rfl pk _ _ rfl sL lE gw ?_; clear S; intro v48 w S; (try simp only [z4] at S)) | fail)
      go_ret3
      refine ⟨_, rfl, ?_⟩
      rw [← HLE2.out]
      exact S.sub (by repeat (first | exact Sub.nil _ | refine Sub.cons pk ?_))
  · obtain ⟨hR, hN⟩ := mint_no l role life now hE
    rw [hR, hN]
    obtain ⟨E, hEe⟩ : ∃ E, E = mintE l role life now := ⟨_, rfl⟩
    rw [← hEe] at hE ⊢
    unfold mintE at hEe
    by_cases hc0 : chkR l = 0
    · rw [if_neg (by omega)] at hEe
      rw [hc0] at hck
      by_cases hb : role < 1 ∨ 3 < role ∨ life = 0 ∨ 4611686018427387904 < life ∨ 4611686018427387904 < now
      · rw [if_pos hb] at hEe
        subst hEe
        have HB := Lib.hid hb
        have H := Lib.hid h; have HCK := Lib.hid hck; clear h hck
        clear hR hN hE hc0 hb
        go_enter Tryd.func40, Tryd.ntmps40
        go_wp2_with (first | (go_at_call 24; (with_reducible refine (HCK.out _ _ sL).mono ?_); rintro e w1 ⟨rfl, T⟩; replace S := S.call T; clear T; (try simp only [z4, z5] at S)) | (at_builtin; refine step_appendM S (.tmp 40) (.tmp 47) _ _ rfl pk _ _ rfl sL lE gw ?_; clear S; intro v48 w S; (try simp only [z4] at S)) | fail)
        all_goals first
          | (go_ret3
             exact ⟨_, rfl, S.nilM⟩)
          | (exfalso; have hb := HB.out; omega)
      · rw [if_neg hb] at hEe
        have h32 : l.length = 32 := by
          apply Classical.byContradiction
          intro h
          rw [if_neg h] at hEe
          exact hE hEe
        rw [if_pos h32] at hEe
        subst hEe
        have i1 : ¬ (role : Int) < 1 := by omega
        have i2 : ¬ 3 < (role : Int) := by omega
        have i3 : ((life : Int) == 0) = false := by rw [beq_eq_false_iff_ne]; omega
        have i4 : ¬ 4611686018427387904 < (life : Int) := by omega
        have i5 : ¬ 4611686018427387904 < (now : Int) := by omega
        have i6 : ((l.length : Int) == 32) = true := by rw [beq_iff_eq]; omega
        have H := Lib.hid h; have HCK := Lib.hid hck; clear h hck
        clear hR hN hE hc0 hb h32
        go_enter Tryd.func40, Tryd.ntmps40
        go_wp2_with (first | (go_at_call 24; (with_reducible refine (HCK.out _ _ sL).mono ?_); rintro e w1 ⟨rfl, T⟩; replace S := S.call T; clear T; (try simp only [z4, z5] at S)) | (at_builtin; refine step_appendM S (.tmp 40) (.tmp 47) _ _ rfl pk _ _ rfl sL lE gw ?_; clear S; intro v48 w S; (try simp only [z4] at S)) | fail)
        go_ret3
        exact ⟨_, rfl, S.nilM⟩
    · rw [if_pos hc0] at hEe
      rw [← hEe] at hck
      have i1 : (E != 0) = true := by simpa using hE
      have H := Lib.hid h; have HCK := Lib.hid hck; clear h hck
      clear hR hN hEe hc0 hE
      go_enter Tryd.func40, Tryd.ntmps40
      go_wp2_with (first | (go_at_call 24; (with_reducible refine (HCK.out _ _ sL).mono ?_); rintro e w1 ⟨rfl, T⟩; replace S := S.call T; clear T; (try simp only [z4, z5] at S)) | (at_builtin; refine step_appendM S (.tmp 40) (.tmp 47) _ _ rfl pk _ _ rfl sL lE gw ?_; clear S; intro v48 w S; (try simp only [z4] at S)) | fail)
      go_ret3
      exact ⟨_, rfl, S.nilM⟩
end Go.Proofs.YtmcefinhmihmnaaDoor
