/- AuthExamples: its walk. No condition but the tables. -/
import Derived.Test.YtioonimpobcglaaDoorAlv
import Derived.Test.YtioonimpobcglaaDoorTokD
import Derived.Test.YtioonimpobcglaaDoorRingF
import Derived.Test.YtioonimpobcglaaDoorFun
import Derived.Test.YtioonimpobcglaaDoorLaidA
set_option linter.unusedSimpArgs false
set_option linter.unusedVariables false
namespace Go.Proofs.YtioonimpobcglaaDoor
open Go.RowKit

def m1 : Mnt := ⟨1, 0, false⟩
/-- A ring of 32 entries of which k are set. -/
def fullK (k : Nat) : List Mnt := (List.range 32).map fun i => if i < k then m1 else mintZ
theorem fullK_len (k : Nat) : (fullK k).length = 32 := by simp [fullK]
theorem fullK_at (k : Nat) (h : k < 32) : (fullK k)[k]? = some mintZ := by simp [fullK, h]
theorem fullK_set : ∀ k : Fin 32, (fullK k.val).set k.val m1 = fullK (k.val + 1) := by decide
theorem fullK_zero : fullK 0 = List.replicate 32 mintZ := by decide
theorem fullK_all : fullK 32 = List.replicate 32 m1 := by decide
theorem fullK_store (k : Nat) (h : k < 32) : ((fullK k).flatMap mintL).set (k * 3) (.int .u8 1) = (fullK (k + 1)).flatMap mintL := by
  have := flat_set mintL 3 mintL_length (fullK k) k 0 mintZ m1 (.int .u8 1) (fullK_at k h) (by decide) rfl
  rw [fullK_set ⟨k, h⟩] at this
  exact this

def tokU : Tok := ⟨tok1.tenant, tok1.role, tok1.expiry, 9, tok1.tag, tok1.len⟩
def tokS : Tok := sgT dock tokU

theorem tag_ne : (tagD dock [1, 2, 0, 0, 0, 0, 0, 0, 0, 15, 0, 0, 0, 9] == tagD dock [1, 2, 0, 0, 0, 0, 0, 0, 0, 15, 0, 0, 0, 1]) = false := by kernel_rfl
theorem sgT_tag (key : List UInt8) (t : Tok) : (sgT key t).tag = tagD key (headT t) := rfl
theorem tokU_tag : tokU.tag = tok1.tag := by unfold tokU; dsimp only
theorem tok1_eq : tok1 = sgT dock (bareT 1 2 15 1) := by unfold tok1 issT; rw [if_pos iss1E]; rfl
theorem tokU_head : headT tokU = [1, 2, 0, 0, 0, 0, 0, 0, 0, 15, 0, 0, 0, 9] := by unfold tokU; rw [tok1_eq]; decide
theorem tok1_tag : tok1.tag = tagD dock [1, 2, 0, 0, 0, 0, 0, 0, 0, 15, 0, 0, 0, 1] := by
  rw [tok1_eq, sgT_tag, show headT (bareT 1 2 15 1) = [1, 2, 0, 0, 0, 0, 0, 0, 0, 15, 0, 0, 0, 1] by decide]
theorem tokU_bad : sgT dock tokU ≠ tokU := by
  intro h
  have h1 : (sgT dock tokU).tag = tokU.tag := by rw [h]
  rw [sgT_tag, tokU_head, tokU_tag, tok1_tag] at h1
  have := tag_ne
  rw [h1] at this
  simp at this

theorem vk_dock : vkB dock = true := by decide
theorem ring1_ok : chkR ring1 = 0 := by decide
theorem auzX1 : auzE ring1 dock 1 tok1 6 10 = 194 := by
  have := auz_issued [] dock 1 2 5 10 6 10 iss1E (by decide) (by decide) (by decide)
  rw [iss1R] at this
  exact this.trans (by decide)
theorem auzX2 : auzE ring1 dock 0 tok1 1 10 = 190 := by
  have := auz_issued_other [] dock 1 0 2 5 10 1 10 iss1E (by decide) (by decide) (by decide) (by decide) (by decide) (by decide)
  rw [iss1R] at this
  exact this
theorem auzX3 : auzE ring1 dock 1 tokU 1 10 = 180 := by
  rw [auzE_eq, if_neg (by rw [ring1_ok]; decide)]
  unfold auzT
  rw [if_neg (by rw [vk_dock]; decide), if_pos tokU_bad]
theorem auzX4 : auzE ring1 dock 1 tokS 1 10 = 191 := by
  rw [auzE_eq, if_neg (by rw [ring1_ok]; decide)]
  unfold auzT
  rw [if_neg (by rw [vk_dock]; decide), if_neg (not_not_intro (show sgT dock tokS = tokS from sgT_idem dock tokU))]
  have ht : (tokS.tenant.toNat : Int) = 1 := tok1_tenant
  rw [if_neg (not_not_intro ht)]
  rfl

def live3 : List Mnt := [⟨1, 15, false⟩, ⟨1, 20, true⟩, ⟨1, 12, false⟩]

set_option maxRecDepth 100000 in
/-- A new ring of entries that are nothing. -/
theorem step_makeM {ops : Array Oper} {rest : List Oper} {a : Act} {w0 w : World} {l : List Res} {Q : Exit → Act → World → Prop} {dst : Option Tmp} {ty : TypeId} {pos : String} {after : Array Edge} {gd : Option (Nat × Bool)} (S : Has w0 w l) (x y : Operand) (n : Nat) (i : Int) (hi : i = (n : Int))
    (hx : a.eval x = .int .i64 i) (hy : a.eval y = .int .i64 i) (hn : n ≤ 1000) (hc0 : madeCells (Value.agg (mintL mintZ).toArray).cells (n * 3) = ((List.replicate n mintZ).flatMap mintL).toArray)
    (hw : Region.wanted ⟨dst, .makeSlice 41 x y, ty, pos, after, gd⟩ (yielded ops a.tmps) = true)
    (h : ∀ v w', Has w0 w' (row v 58 3 n ((List.replicate n mintZ).flatMap mintL) :: l) → wpList Tryd.prog ops Q rest (a.put dst v) w') : wpList Tryd.prog ops Q (⟨dst, .makeSlice 41 x y, ty, pos, after, gd⟩ :: rest) a w := by
  subst hi
  obtain ⟨i, hi, hz, hsize, hby⟩ := info_parts infoM
  have hr := run_make (P := Tryd.prog) w 41 58 i (.agg (mintL mintZ).toArray) Tryd.underlying41 hi hz .i64 .i64 (n : Int) (n : Int) (by omega) (Int.le_refl _) (by rw [hby]; omega) (by omega)
  rw [hsize, Int.toNat_natCast, hc0] at hr
  have hlen : ((List.replicate n mintZ).flatMap mintL).length = n * 3 := by
    clear hc0 h hr hw hx hy hn
    induction n with
    | zero => rfl
    | succ n ih => rw [List.replicate_succ, List.flatMap_cons, List.length_append, ih, mintL_length]; omega
  have ho := World.ownsRow_lit (base := w.heap.size) (e := 58) (size := 3) w ((List.replicate n mintZ).flatMap mintL).toArray n (Nat.le_refl _) (by unfold maxLen; omega) (by simpa using hlen)
  refine step_val (v := .slice (some ⟨w.heap.size, 0, none⟩) n n) (w' := w.alloc (.cells ((List.replicate n mintZ).flatMap mintL).toArray 58)) hw ?_ (h _ _ (S.call (Has.of_own (below1 w _) (by simpa using ho))))
  simp only [execOp, hx, hy, Sem.run_bind, hr, Result.andThen_ok, Sem.run_pure]

theorem made32 : madeCells (Value.agg (mintL mintZ).toArray).cells (32 * 3) = ((List.replicate 32 mintZ).flatMap mintL).toArray := by kernel_rfl
theorem made33 : madeCells (Value.agg (mintL mintZ).toArray).cells (33 * 3) = ((List.replicate 33 mintZ).flatMap mintL).toArray := by kernel_rfl
end Go.Proofs.YtioonimpobcglaaDoor
