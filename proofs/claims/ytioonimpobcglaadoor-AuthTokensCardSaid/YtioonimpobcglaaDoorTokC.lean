/- Tokens: what Encode and the specification's head and Encode return; single operations on tokens. No condition. -/
import Derived.Test.YtioonimpobcglaaDoorTok
set_option linter.unusedSimpArgs false
set_option linter.unusedVariables false
namespace Go.Proofs.YtioonimpobcglaaDoor
open Go.RowKit

section
variable {P : Program} {ops : Array Oper} {rest : List Oper} {a : Act} {w0 w : World} {l F : List Res} {Q : Exit → Act → World → Prop} {dst : Option Tmp} {ty : TypeId} {pos : String} {after : Array Edge} {gd : Option (Nat × Bool)} {Post : Value → World → Prop}

theorem run_storeAt_part (w : World) (g off : Nat) (t t' : TypeId) (old cells : Array Value) (hg : w.heap[g]? = some (.cells old t' (0, 0))) (n : Nat) (hi : (P.info? t).map (·.size) = some n) (hn : cells.size = n) (ho : off + n ≤ old.size) (h1 : cells.all (·.oneCell') = true) (new : Array Value)
    (hnew : (old.toList.take off ++ cells.toList ++ old.toList.drop (off + n)).toArray = new) : (Instr.storeAt t (.pointer (some ⟨g, off, none⟩)) (.agg cells)).run P w = .ok () (w.setRow g new) := by
  subst hn
  subst hnew
  have hst := run_storeCells_at (P := P) g off t' cells.toList 0 old w hg (by simpa using ho) (by
    intro v hv
    exact Array.all_eq_true'.1 h1 v (by simpa using hv))
  cases hq : P.info? t with
  | none => simp [hq] at hi
  | some i =>
    have hsz : i.size = cells.size := by simpa [hq] using hi
    simp only [Nat.add_zero, Array.length_toList] at hst
    simp [Instr.storeAt, Instr.sureAddr, storeVar, sizeOf, typeInfo, hq, hsz, Value.cells, hst]

theorem Has.setRow' {w0 w : World} {F : List Res} {g : Nat} {old new : Array Value} {t : TypeId} (S : Has w0 w (blk g (.cells old t (0, 0)) :: F)) : Has w0 (w.setRow g new) (blk g (.cells new t (0, 0)) :: F) := S.setRow

/-- A part of a block of one's own is stored. -/
theorem step_storeP (S : Has w0 w l) (t : TypeId) (x y : Operand) (g off : Nat) (cells : Array Value) (hx : a.eval x = .pointer (some ⟨g, off, none⟩)) (hy : a.eval y = .agg cells)
    (t' : TypeId) (old : Array Value) (hp : Pick l (blk g (.cells old t' (0, 0))) F) (n : Nat) (hi : (P.info? t).map (·.size) = some n) (hn : cells.size = n) (ho : off + n ≤ old.size) (h1 : cells.all (·.oneCell') = true) (new : Array Value)
    (hnew : (old.toList.take off ++ cells.toList ++ old.toList.drop (off + n)).toArray = new)
    (hw : Region.wanted ⟨dst, .store t x y, ty, pos, after, gd⟩ (yielded ops a.tmps) = true)
    (h : ∀ w', Has w0 w' (blk g (.cells new t' (0, 0)) :: F) → wpList P ops Q rest (a.put dst undef) w') :
    wpList P ops Q (⟨dst, .store t x y, ty, pos, after, gd⟩ :: rest) a w := by
  refine step_unit (w' := w.setRow g new) hw ?_ (h _ (S.pick hp).setRow')
  have := run_storeAt_part (P := P) w g off t t' old cells (S.get hp) n hi hn ho h1 new hnew
  simp only [execOp, hx, hy, Sem.run_bind, this, Result.andThen_ok, Sem.run_pure]

/-- A value of zero. -/
theorem step_buildZ (t : TypeId) (v : Value) (hr : ∀ w, (Instr.build t #[]).run P w = .ok v w)
    (hw : Region.wanted ⟨dst, .build t #[], ty, pos, after, gd⟩ (yielded ops a.tmps) = true)
    (h : wpList P ops Q rest (a.put dst v) w) : wpList P ops Q (⟨dst, .build t #[], ty, pos, after, gd⟩ :: rest) a w := by
  refine step_val (v := v) hw ?_ h
  have := hr w
  simp only [execOp, Array.map_empty, Sem.run_bind, List.map_toArray, List.map_nil, this, Result.andThen_ok, Sem.run_pure]
end

set_option maxRecDepth 100000 in
/-- A new slice of two bytes. -/
theorem step_build82 {ops : Array Oper} {rest : List Oper} {a : Act} {w0 w : World} {l : List Res} {Q : Exit → Act → World → Prop} {dst : Option Tmp} {ty : TypeId} {pos : String} {after : Array Edge} {gd : Option (Nat × Bool)} (S : Has w0 w l) (x y : Operand) (b c : UInt8)
    (hx : a.eval x = by8 b) (hy : a.eval y = by8 c)
    (hw : Region.wanted ⟨dst, .buildSlice 22 2 #[(0, x), (1, y)], ty, pos, after, gd⟩ (yielded ops a.tmps) = true)
    (h : ∀ v w', Has w0 w' (row8 v [b, c] :: l) → wpList Tryd.prog ops Q rest (a.put dst v) w') : wpList Tryd.prog ops Q (⟨dst, .buildSlice 22 2 #[(0, x), (1, y)], ty, pos, after, gd⟩ :: rest) a w :=
  step_build8 S 2 #[(0, x), (1, y)] [b, c] (by simp [hx, hy]) rfl (by decide) hw h

theorem build_tok4 (x y z u : Int) (w : World) : (Instr.build 27 #[(0, .int .u8 x), (1, .int .u8 y), (2, .int .u64 z), (3, .int .u32 u)]).run Tryd.prog w = .ok (.agg ([Value.int .u8 x, .int .u8 y, .int .u64 z, .int .u32 u] ++ zs32.map by8).toArray) w := by kernel_rfl

theorem build_tok5v (x y z u : Int) (d0 d1 d2 d3 d4 d5 d6 d7 d8 d9 d10 d11 d12 d13 d14 d15 d16 d17 d18 d19 d20 d21 d22 d23 d24 d25 d26 d27 d28 d29 d30 d31 : UInt8) (w : World) : (Instr.build 27 #[(0, .int .u8 x), (1, .int .u8 y), (2, .int .u64 z), (3, .int .u32 u), (4, .agg ([d0, d1, d2, d3, d4, d5, d6, d7, d8, d9, d10, d11, d12, d13, d14, d15, d16, d17, d18, d19, d20, d21, d22, d23, d24, d25, d26, d27, d28, d29, d30, d31].map by8).toArray)]).run Tryd.prog w = .ok (.agg ([Value.int .u8 x, .int .u8 y, .int .u64 z, .int .u32 u] ++ [d0, d1, d2, d3, d4, d5, d6, d7, d8, d9, d10, d11, d12, d13, d14, d15, d16, d17, d18, d19, d20, d21, d22, d23, d24, d25, d26, d27, d28, d29, d30, d31].map by8).toArray) w := by kernel_rfl

theorem build_tok5 (x y z u : Int) (D : List UInt8) (hD : D.length = 32) (w : World) : (Instr.build 27 #[(0, .int .u8 x), (1, .int .u8 y), (2, .int .u64 z), (3, .int .u32 u), (4, .agg (D.map by8).toArray)]).run Tryd.prog w = .ok (.agg ([Value.int .u8 x, .int .u8 y, .int .u64 z, .int .u32 u] ++ D.map by8).toArray) w :=
  match D, hD with
  | [d0, d1, d2, d3, d4, d5, d6, d7, d8, d9, d10, d11, d12, d13, d14, d15, d16, d17, d18, d19, d20, d21, d22, d23, d24, d25, d26, d27, d28, d29, d30, d31], _ => build_tok5v x y z u d0 d1 d2 d3 d4 d5 d6 d7 d8 d9 d10 d11 d12 d13 d14 d15 d16 d17 d18 d19 d20 d21 d22 d23 d24 d25 d26 d27 d28 d29 d30 d31 w

set_option maxRecDepth 100000 in
/-- A token without a tag is built. -/
theorem step_buildT4 {ops : Array Oper} {rest : List Oper} {a : Act} {w : World} {Q : Exit → Act → World → Prop} {dst : Option Tmp} {ty : TypeId} {pos : String} {after : Array Edge} {gd : Option (Nat × Bool)} (x0 x1 x2 x3 : Operand) (b c : UInt8) (d : UInt64) (e : UInt32)
    (h0 : a.eval x0 = .int .u8 (b.toNat : Int)) (h1 : a.eval x1 = .int .u8 (c.toNat : Int)) (h2 : a.eval x2 = .int .u64 (d.toNat : Int)) (h3 : a.eval x3 = .int .u32 (e.toNat : Int))
    (hw : Region.wanted ⟨dst, .build 27 #[(0, x0), (1, x1), (2, x2), (3, x3)], ty, pos, after, gd⟩ (yielded ops a.tmps) = true)
    (h : wpList Tryd.prog ops Q rest (a.put dst (.agg (tokL ⟨b, c, d, e, zs32, rfl⟩).toArray)) w) : wpList Tryd.prog ops Q (⟨dst, .build 27 #[(0, x0), (1, x1), (2, x2), (3, x3)], ty, pos, after, gd⟩ :: rest) a w := by
  refine step_val (v := .agg (tokL ⟨b, c, d, e, zs32, rfl⟩).toArray) hw ?_ h
  have hp : (#[(0, x0), (1, x1), (2, x2), (3, x3)].map fun (i, x) => (i, a.eval x)) = #[(0, .int .u8 (b.toNat : Int)), (1, .int .u8 (c.toNat : Int)), (2, .int .u64 (d.toNat : Int)), (3, .int .u32 (e.toNat : Int))] := by simp [h0, h1, h2, h3]
  have := build_tok4 b.toNat c.toNat d.toNat e.toNat w
  simp only [execOp, hp, Sem.run_bind, this, Result.andThen_ok, Sem.run_pure]
  rfl

set_option maxRecDepth 100000 in
theorem does_buildT4 {a : Act} {w : World} {dst : Option Tmp} {ty : TypeId} {pos : String} {after : Array Edge} {gd : Option (Nat × Bool)} {Post : Value → World → Prop} (x0 x1 x2 x3 : Operand) (b c : UInt8) (d : UInt64) (e : UInt32)
    (h0 : a.eval x0 = .int .u8 (b.toNat : Int)) (h1 : a.eval x1 = .int .u8 (c.toNat : Int)) (h2 : a.eval x2 = .int .u64 (d.toNat : Int)) (h3 : a.eval x3 = .int .u32 (e.toNat : Int))
    (h : Post (.agg (tokL ⟨b, c, d, e, zs32, rfl⟩).toArray) w) : does Tryd.prog a.eval ⟨dst, .build 27 #[(0, x0), (1, x1), (2, x2), (3, x3)], ty, pos, after, gd⟩ w Post := by
  refine does_val (v := .agg (tokL ⟨b, c, d, e, zs32, rfl⟩).toArray) ?_ h
  have hp : (#[(0, x0), (1, x1), (2, x2), (3, x3)].map fun (i, x) => (i, a.eval x)) = #[(0, .int .u8 (b.toNat : Int)), (1, .int .u8 (c.toNat : Int)), (2, .int .u64 (d.toNat : Int)), (3, .int .u32 (e.toNat : Int))] := by simp [h0, h1, h2, h3]
  have := build_tok4 b.toNat c.toNat d.toNat e.toNat w
  simp only [execOp, hp, Sem.run_bind, this, Result.andThen_ok, Sem.run_pure]
  rfl

set_option maxRecDepth 100000 in
theorem does_buildT5 {a : Act} {w : World} {dst : Option Tmp} {ty : TypeId} {pos : String} {after : Array Edge} {gd : Option (Nat × Bool)} {Post : Value → World → Prop} (x0 x1 x2 x3 x4 : Operand) (t : Tok)
    (h0 : a.eval x0 = .int .u8 (t.tenant.toNat : Int)) (h1 : a.eval x1 = .int .u8 (t.role.toNat : Int)) (h2 : a.eval x2 = .int .u64 (t.expiry.toNat : Int)) (h3 : a.eval x3 = .int .u32 (t.serial.toNat : Int)) (h4 : a.eval x4 = .agg (arr8 t.tag))
    (h : Post (.agg (tokL t).toArray) w) : does Tryd.prog a.eval ⟨dst, .build 27 #[(0, x0), (1, x1), (2, x2), (3, x3), (4, x4)], ty, pos, after, gd⟩ w Post := by
  refine does_val (v := .agg (tokL t).toArray) ?_ h
  have hp : (#[(0, x0), (1, x1), (2, x2), (3, x3), (4, x4)].map fun (i, x) => (i, a.eval x)) = #[(0, .int .u8 (t.tenant.toNat : Int)), (1, .int .u8 (t.role.toNat : Int)), (2, .int .u64 (t.expiry.toNat : Int)), (3, .int .u32 (t.serial.toNat : Int)), (4, .agg (t.tag.map by8).toArray)] := by simp [h0, h1, h2, h3, h4, arr8]
  have := build_tok5 t.tenant.toNat t.role.toNat t.expiry.toNat t.serial.toNat t.tag t.len w
  simp only [execOp, hp, Sem.run_bind, this, Result.andThen_ok, Sem.run_pure]
  rfl

theorem tokL_store (t : Tok) (D : List UInt8) (h : D.length = 32) : ((tokL t).toArray.toList.take 4 ++ (arr8 D).toList ++ (tokL t).toArray.toList.drop (4 + 32)).toArray = (tokL (t.with D h)).toArray := by
  have : (tokL t).toArray.toList.drop (4 + 32) = [] := List.drop_of_length_le (by simp [tokL_length])
  rw [this, List.append_nil]
  rfl

/-- The tag of a token in memory reads as bytes. -/
theorem Has.bs_tag {w0 w : World} {l F : List Res} {g : Nat} {t : Tok} {ty : TypeId} {fr : Nat × Nat} (S : Has w0 w l) (h : Pick l (blk g (.cells (tokL t).toArray ty fr)) F) : Bs w (.slice (some ⟨g, 4, none⟩) 32 32) t.tag := by
  have hb := Bs.mk (w := w) (xs := t.tag) (b := g) (off := 4) (cap := 32) (by rw [t.len]; exact Nat.le_refl _) (by decide) (fun i hi => S.cell h (tokL_tag t i _ (List.getElem?_eq_getElem hi)))
  rwa [t.len] at hb

set_option maxRecDepth 100000 in
set_option maxHeartbeats 2000000 in
theorem enc_s (t : Tok) (w0 : World) : Calls Tryd.prog 16 #[.agg (tokL t).toArray] w0 (MadeB w0 (encT t)) := by
  have S := Has.start w0
  have he := t.expiry.toNat_lt
  have hs := t.serial.toNat_lt
  have hs2 : (t.serial.toNat : Int) < 4294967296 := by omega
  have p1 := fun v w h => put_go v [t.tenant, t.role] t.expiry.toNat 8 (t.expiry.toNat : Int) 8 rfl rfl w h (by decide) (by decide) (Nat.lt_of_lt_of_eq he (by decide)) (by simp)
  have p2 := fun v w h => put_go v ([t.tenant, t.role] ++ numB t.expiry.toNat 8) t.serial.toNat 4 (t.serial.toNat : Int) 4 rfl rfl w h (by decide) (by decide) (Nat.lt_of_lt_of_eq hs (by decide)) (by simp [numB_length])
  have hl : (([t.tenant, t.role] ++ numB t.expiry.toNat 8) ++ numB t.serial.toNat 4).length + t.tag.length ≤ 140737488355328 := by simp [numB_length, t.len]
  have hE : encT t = (([t.tenant, t.role] ++ numB t.expiry.toNat 8) ++ numB t.serial.toNat 4) ++ t.tag := rfl
  rw [hE]
  obtain ⟨X1, hX1⟩ : ∃ X, X = [t.tenant, t.role] ++ numB t.expiry.toNat 8 := ⟨_, rfl⟩
  rw [← hX1] at p1 p2 hl ⊢
  obtain ⟨X2, hX2⟩ : ∃ X, X = X1 ++ numB t.serial.toNat 4 := ⟨_, rfl⟩
  rw [← hX2] at p2 hl ⊢
  have P1 := Lib.hid p1; have P2 := Lib.hid p2; have HL := Lib.hid hl; clear p1 p2 hl
  clear hX1 hX2 hE he hs
  go_enter Tryd.func16, Tryd.ntmps16
  go_wp2_with (first | ((with_reducible show wpList _ _ _ (⟨some 8, .buildSlice 22 _ _, _, _, _, _⟩ :: _) _ _); refine step_build82 S (.tmp 5) (.tmp 7) t.tenant t.role rfl rfl rfl ?_; clear S; intro v8 w S) | (at_builtin; refine step_append8 S (.tmp 24) (.tmp 26) _ X2 rfl (by (repeat (first | exact Pick.head _ _ | apply Pick.tail)); first | done | fail) _ t.tag rfl (S.bs_tag (by (repeat (first | exact Pick.head _ _ | apply Pick.tail)); first | done | fail)) HL.out rfl ?_; clear S; intro v27 w S) | ((with_reducible show wpList _ _ _ (⟨some 1, .box 27 (.tmp 0), _, _, _, _⟩ :: _) _ _); refine step_boxA (dst := some 1) S 27 (.tmp 0) _ rfl rfl ?_; clear S; intro g1 w S) | ((with_reducible show wpList _ _ _ (⟨some 5, .load 5 (.tmp 4), _, _, _, _⟩ :: _) _ _); first | (refine step_load1 5 (.tmp 4) _ _ rfl (S.cell (by (repeat (first | exact Pick.head _ _ | apply Pick.tail)); first | done | fail) (by (first | assumption | (exact Hid.out (by assumption)) | exact cellsH_t .. | exact cellsH_n .. | exact mintL_0 .. | exact mintL_1 .. | exact mintL_2 .. | exact tokL_0 .. | exact tokL_1 .. | exact tokL_2 .. | exact tokL_3 .. | (simp only [List.setIfInBounds_toArray, List.set_cons_zero, List.set_cons_succ, List.getElem?_toArray, List.getElem?_cons_zero, List.getElem?_cons_succ]; rfl) | rfl))) _ Tryd.underlying5 rfl rfl ?_) | (refine step_load1 5 (.tmp 4) _ _ rfl (S.row_cell (by (repeat (first | exact Pick.head _ _ | apply Pick.tail)); first | done | fail) _ _ (by first | assumption | exact Hid.out (by assumption) | rfl)) _ Tryd.underlying5 rfl rfl ?_) | (refine step_load1 5 (.tmp 4) _ _ rfl (S.row_cellS (by (repeat (first | exact Pick.head _ _ | apply Pick.tail)); first | done | fail) _ _ (by first | assumption | exact Hid.out (by assumption))) _ Tryd.underlying5 rfl rfl ?_) | (refine step_load1 5 (.tmp 4) _ _ rfl (S.old_cell (by first | assumption | exact Hid.out (by assumption))) _ Tryd.underlying5 rfl rfl ?_)) | ((with_reducible show wpList _ _ _ (⟨some 7, .load 5 (.tmp 6), _, _, _, _⟩ :: _) _ _); first | (refine step_load1 5 (.tmp 6) _ _ rfl (S.cell (by (repeat (first | exact Pick.head _ _ | apply Pick.tail)); first | done | fail) (by (first | assumption | (exact Hid.out (by assumption)) | exact cellsH_t .. | exact cellsH_n .. | exact mintL_0 .. | exact mintL_1 .. | exact mintL_2 .. | exact tokL_0 .. | exact tokL_1 .. | exact tokL_2 .. | exact tokL_3 .. | (simp only [List.setIfInBounds_toArray, List.set_cons_zero, List.set_cons_succ, List.getElem?_toArray, List.getElem?_cons_zero, List.getElem?_cons_succ]; rfl) | rfl))) _ Tryd.underlying5 rfl rfl ?_) | (refine step_load1 5 (.tmp 6) _ _ rfl (S.row_cell (by (repeat (first | exact Pick.head _ _ | apply Pick.tail)); first | done | fail) _ _ (by first | assumption | exact Hid.out (by assumption) | rfl)) _ Tryd.underlying5 rfl rfl ?_) | (refine step_load1 5 (.tmp 6) _ _ rfl (S.row_cellS (by (repeat (first | exact Pick.head _ _ | apply Pick.tail)); first | done | fail) _ _ (by first | assumption | exact Hid.out (by assumption))) _ Tryd.underlying5 rfl rfl ?_) | (refine step_load1 5 (.tmp 6) _ _ rfl (S.old_cell (by first | assumption | exact Hid.out (by assumption))) _ Tryd.underlying5 rfl rfl ?_)) | ((with_reducible show wpList _ _ _ (⟨some 12, .load 23 (.tmp 11), _, _, _, _⟩ :: _) _ _); first | (refine step_load1 23 (.tmp 11) _ _ rfl (S.cell (by (repeat (first | exact Pick.head _ _ | apply Pick.tail)); first | done | fail) (by (first | assumption | (exact Hid.out (by assumption)) | exact cellsH_t .. | exact cellsH_n .. | exact mintL_0 .. | exact mintL_1 .. | exact mintL_2 .. | exact tokL_0 .. | exact tokL_1 .. | exact tokL_2 .. | exact tokL_3 .. | (simp only [List.setIfInBounds_toArray, List.set_cons_zero, List.set_cons_succ, List.getElem?_toArray, List.getElem?_cons_zero, List.getElem?_cons_succ]; rfl) | rfl))) _ Tryd.underlying23 rfl rfl ?_) | (refine step_load1 23 (.tmp 11) _ _ rfl (S.row_cell (by (repeat (first | exact Pick.head _ _ | apply Pick.tail)); first | done | fail) _ _ (by first | assumption | exact Hid.out (by assumption) | rfl)) _ Tryd.underlying23 rfl rfl ?_) | (refine step_load1 23 (.tmp 11) _ _ rfl (S.row_cellS (by (repeat (first | exact Pick.head _ _ | apply Pick.tail)); first | done | fail) _ _ (by first | assumption | exact Hid.out (by assumption))) _ Tryd.underlying23 rfl rfl ?_) | (refine step_load1 23 (.tmp 11) _ _ rfl (S.old_cell (by first | assumption | exact Hid.out (by assumption))) _ Tryd.underlying23 rfl rfl ?_)) | (go_at_call 45; (with_reducible refine (P1.out _ _ (by first | assumption | exact S.oldB (Hid.out (by assumption)) | exact Bs.mk0 _ _ | exact S.bs (by (repeat (first | exact Pick.head _ _ | apply Pick.tail)); first | done | fail) | exact S.bsr (by (repeat (first | exact Pick.head _ _ | apply Pick.tail)); first | done | fail))).mono ?_); rintro e w1 ⟨v3, rfl, T⟩; replace S := S.call T; clear T; (try simp only [List.nil_append, List.cons_append] at S); have _t := P1; clear P1) | (go_at_call 45; (with_reducible refine (P2.out _ _ (by first | assumption | exact S.oldB (Hid.out (by assumption)) | exact Bs.mk0 _ _ | exact S.bs (by (repeat (first | exact Pick.head _ _ | apply Pick.tail)); first | done | fail) | exact S.bsr (by (repeat (first | exact Pick.head _ _ | apply Pick.tail)); first | done | fail))).mono ?_); rintro e w1 ⟨v3, rfl, T⟩; replace S := S.call T; clear T; (try simp only [List.nil_append, List.cons_append] at S)) | ((with_reducible show wpList _ _ _ (⟨some 19, .load 24 (.tmp 18), _, _, _, _⟩ :: _) _ _); first | (refine step_load1 24 (.tmp 18) _ _ rfl (S.cell (by (repeat (first | exact Pick.head _ _ | apply Pick.tail)); first | done | fail) (by (first | assumption | (exact Hid.out (by assumption)) | exact cellsH_t .. | exact cellsH_n .. | exact mintL_0 .. | exact mintL_1 .. | exact mintL_2 .. | exact tokL_0 .. | exact tokL_1 .. | exact tokL_2 .. | exact tokL_3 .. | (simp only [List.setIfInBounds_toArray, List.set_cons_zero, List.set_cons_succ, List.getElem?_toArray, List.getElem?_cons_zero, List.getElem?_cons_succ]; rfl) | rfl))) _ Tryd.underlying24 rfl rfl ?_) | (refine step_load1 24 (.tmp 18) _ _ rfl (S.row_cell (by (repeat (first | exact Pick.head _ _ | apply Pick.tail)); first | done | fail) _ _ (by first | assumption | exact Hid.out (by assumption) | rfl)) _ Tryd.underlying24 rfl rfl ?_) | (refine step_load1 24 (.tmp 18) _ _ rfl (S.row_cellS (by (repeat (first | exact Pick.head _ _ | apply Pick.tail)); first | done | fail) _ _ (by first | assumption | exact Hid.out (by assumption))) _ Tryd.underlying24 rfl rfl ?_) | (refine step_load1 24 (.tmp 18) _ _ rfl (S.old_cell (by first | assumption | exact Hid.out (by assumption))) _ Tryd.underlying24 rfl rfl ?_)) | fail)
  go_ret
  exact ⟨_, rfl, S.sub (by repeat (first | exact Sub.nil _ | refine Sub.cons (by (repeat (first | exact Pick.head _ _ | apply Pick.tail)); first | done | fail) ?_))⟩

set_option maxRecDepth 100000 in
set_option maxHeartbeats 2000000 in
theorem head_s (t : Tok) (w0 : World) : Calls Tryd.prog 46 #[.agg (tokL t).toArray] w0 (MadeB w0 (headT t)) := by
  have S := Has.start w0
  have he := t.expiry.toNat_lt
  have hs := t.serial.toNat_lt
  have hs2 : (t.serial.toNat : Int) < 4294967296 := by omega
  have p1 := fun w => number_s t.expiry.toNat 8 (t.expiry.toNat : Int) 8 rfl rfl w (by omega) (by decide)
  have p2 := fun w => number_s t.serial.toNat 4 (t.serial.toNat : Int) 4 rfl rfl w (by omega) (by decide)
  have hn1 := numB_length t.expiry.toNat 8
  have hn2 := numB_length t.serial.toNat 4
  have hE : headT t = ([t.tenant, t.role] ++ numB t.expiry.toNat 8) ++ numB t.serial.toNat 4 := rfl
  rw [hE]
  obtain ⟨N1, hN1⟩ : ∃ X, X = numB t.expiry.toNat 8 := ⟨_, rfl⟩
  obtain ⟨N2, hN2⟩ : ∃ X, X = numB t.serial.toNat 4 := ⟨_, rfl⟩
  rw [← hN1] at p1 hn1 ⊢
  rw [← hN2] at p2 hn2 ⊢
  have hl1 : [t.tenant, t.role].length + N1.length ≤ 140737488355328 := by simp [hn1]
  have hl2 : ([t.tenant, t.role] ++ N1).length + N2.length ≤ 140737488355328 := by simp [hn1, hn2]
  have P1 := Lib.hid p1; have P2 := Lib.hid p2; have HL1 := Lib.hid hl1; have HL2 := Lib.hid hl2; clear p1 p2 hl1 hl2
  clear hN1 hN2 hE he hs hn1 hn2
  go_enter Tryd.func46, Tryd.ntmps46
  go_wp2_with (first | ((with_reducible show wpList _ _ _ (⟨some 8, .buildSlice 22 _ _, _, _, _, _⟩ :: _) _ _); refine step_build82 S (.tmp 5) (.tmp 7) t.tenant t.role rfl rfl rfl ?_; clear S; intro v8 w S) | (at_builtin; refine step_append8 S (.tmp 9) (.tmp 12) _ _ rfl (by (repeat (first | exact Pick.head _ _ | apply Pick.tail)); first | done | fail) _ N1 rfl (by first | assumption | exact S.oldB (Hid.out (by assumption)) | exact Bs.mk0 _ _ | exact S.bs (by (repeat (first | exact Pick.head _ _ | apply Pick.tail)); first | done | fail) | exact S.bsr (by (repeat (first | exact Pick.head _ _ | apply Pick.tail)); first | done | fail)) HL1.out rfl ?_; clear S; intro v13 w S) | (at_builtin; refine step_append8 S (.tmp 14) (.tmp 18) _ ([t.tenant, t.role] ++ N1) rfl (by (repeat (first | exact Pick.head _ _ | apply Pick.tail)); first | done | fail) _ N2 rfl (by first | assumption | exact S.oldB (Hid.out (by assumption)) | exact Bs.mk0 _ _ | exact S.bs (by (repeat (first | exact Pick.head _ _ | apply Pick.tail)); first | done | fail) | exact S.bsr (by (repeat (first | exact Pick.head _ _ | apply Pick.tail)); first | done | fail)) HL2.out rfl ?_; clear S; intro v19 w S) | ((with_reducible show wpList _ _ _ (⟨some 1, .box 27 (.tmp 0), _, _, _, _⟩ :: _) _ _); refine step_boxA (dst := some 1) S 27 (.tmp 0) _ rfl rfl ?_; clear S; intro g1 w S) | ((with_reducible show wpList _ _ _ (⟨some 5, .load 5 (.tmp 4), _, _, _, _⟩ :: _) _ _); first | (refine step_load1 5 (.tmp 4) _ _ rfl (S.cell (by (repeat (first | exact Pick.head _ _ | apply Pick.tail)); first | done | fail) (by (first | assumption | (exact Hid.out (by assumption)) | exact cellsH_t .. | exact cellsH_n .. | exact mintL_0 .. | exact mintL_1 .. | exact mintL_2 .. | exact tokL_0 .. | exact tokL_1 .. | exact tokL_2 .. | exact tokL_3 .. | (simp only [List.setIfInBounds_toArray, List.set_cons_zero, List.set_cons_succ, List.getElem?_toArray, List.getElem?_cons_zero, List.getElem?_cons_succ]; rfl) | rfl))) _ Tryd.underlying5 rfl rfl ?_) | (refine step_load1 5 (.tmp 4) _ _ rfl (S.row_cell (by (repeat (first | exact Pick.head _ _ | apply Pick.tail)); first | done | fail) _ _ (by first | assumption | exact Hid.out (by assumption) | rfl)) _ Tryd.underlying5 rfl rfl ?_) | (refine step_load1 5 (.tmp 4) _ _ rfl (S.row_cellS (by (repeat (first | exact Pick.head _ _ | apply Pick.tail)); first | done | fail) _ _ (by first | assumption | exact Hid.out (by assumption))) _ Tryd.underlying5 rfl rfl ?_) | (refine step_load1 5 (.tmp 4) _ _ rfl (S.old_cell (by first | assumption | exact Hid.out (by assumption))) _ Tryd.underlying5 rfl rfl ?_)) | ((with_reducible show wpList _ _ _ (⟨some 7, .load 5 (.tmp 6), _, _, _, _⟩ :: _) _ _); first | (refine step_load1 5 (.tmp 6) _ _ rfl (S.cell (by (repeat (first | exact Pick.head _ _ | apply Pick.tail)); first | done | fail) (by (first | assumption | (exact Hid.out (by assumption)) | exact cellsH_t .. | exact cellsH_n .. | exact mintL_0 .. | exact mintL_1 .. | exact mintL_2 .. | exact tokL_0 .. | exact tokL_1 .. | exact tokL_2 .. | exact tokL_3 .. | (simp only [List.setIfInBounds_toArray, List.set_cons_zero, List.set_cons_succ, List.getElem?_toArray, List.getElem?_cons_zero, List.getElem?_cons_succ]; rfl) | rfl))) _ Tryd.underlying5 rfl rfl ?_) | (refine step_load1 5 (.tmp 6) _ _ rfl (S.row_cell (by (repeat (first | exact Pick.head _ _ | apply Pick.tail)); first | done | fail) _ _ (by first | assumption | exact Hid.out (by assumption) | rfl)) _ Tryd.underlying5 rfl rfl ?_) | (refine step_load1 5 (.tmp 6) _ _ rfl (S.row_cellS (by (repeat (first | exact Pick.head _ _ | apply Pick.tail)); first | done | fail) _ _ (by first | assumption | exact Hid.out (by assumption))) _ Tryd.underlying5 rfl rfl ?_) | (refine step_load1 5 (.tmp 6) _ _ rfl (S.old_cell (by first | assumption | exact Hid.out (by assumption))) _ Tryd.underlying5 rfl rfl ?_)) | ((with_reducible show wpList _ _ _ (⟨some 11, .load 23 (.tmp 10), _, _, _, _⟩ :: _) _ _); first | (refine step_load1 23 (.tmp 10) _ _ rfl (S.cell (by (repeat (first | exact Pick.head _ _ | apply Pick.tail)); first | done | fail) (by (first | assumption | (exact Hid.out (by assumption)) | exact cellsH_t .. | exact cellsH_n .. | exact mintL_0 .. | exact mintL_1 .. | exact mintL_2 .. | exact tokL_0 .. | exact tokL_1 .. | exact tokL_2 .. | exact tokL_3 .. | (simp only [List.setIfInBounds_toArray, List.set_cons_zero, List.set_cons_succ, List.getElem?_toArray, List.getElem?_cons_zero, List.getElem?_cons_succ]; rfl) | rfl))) _ Tryd.underlying23 rfl rfl ?_) | (refine step_load1 23 (.tmp 10) _ _ rfl (S.row_cell (by (repeat (first | exact Pick.head _ _ | apply Pick.tail)); first | done | fail) _ _ (by first | assumption | exact Hid.out (by assumption) | rfl)) _ Tryd.underlying23 rfl rfl ?_) | (refine step_load1 23 (.tmp 10) _ _ rfl (S.row_cellS (by (repeat (first | exact Pick.head _ _ | apply Pick.tail)); first | done | fail) _ _ (by first | assumption | exact Hid.out (by assumption))) _ Tryd.underlying23 rfl rfl ?_) | (refine step_load1 23 (.tmp 10) _ _ rfl (S.old_cell (by first | assumption | exact Hid.out (by assumption))) _ Tryd.underlying23 rfl rfl ?_)) | (go_at_call 70; (with_reducible refine (P1.out _).mono ?_); rintro e w1 ⟨v12, rfl, T⟩; replace S := S.call T; clear T; (try simp only [List.nil_append, List.cons_append] at S); have _t := P1; clear P1) | (go_at_call 70; (with_reducible refine (P2.out _).mono ?_); rintro e w1 ⟨v18, rfl, T⟩; replace S := S.call T; clear T; (try simp only [List.nil_append, List.cons_append] at S)) | ((with_reducible show wpList _ _ _ (⟨some 16, .load 24 (.tmp 15), _, _, _, _⟩ :: _) _ _); first | (refine step_load1 24 (.tmp 15) _ _ rfl (S.cell (by (repeat (first | exact Pick.head _ _ | apply Pick.tail)); first | done | fail) (by (first | assumption | (exact Hid.out (by assumption)) | exact cellsH_t .. | exact cellsH_n .. | exact mintL_0 .. | exact mintL_1 .. | exact mintL_2 .. | exact tokL_0 .. | exact tokL_1 .. | exact tokL_2 .. | exact tokL_3 .. | (simp only [List.setIfInBounds_toArray, List.set_cons_zero, List.set_cons_succ, List.getElem?_toArray, List.getElem?_cons_zero, List.getElem?_cons_succ]; rfl) | rfl))) _ Tryd.underlying24 rfl rfl ?_) | (refine step_load1 24 (.tmp 15) _ _ rfl (S.row_cell (by (repeat (first | exact Pick.head _ _ | apply Pick.tail)); first | done | fail) _ _ (by first | assumption | exact Hid.out (by assumption) | rfl)) _ Tryd.underlying24 rfl rfl ?_) | (refine step_load1 24 (.tmp 15) _ _ rfl (S.row_cellS (by (repeat (first | exact Pick.head _ _ | apply Pick.tail)); first | done | fail) _ _ (by first | assumption | exact Hid.out (by assumption))) _ Tryd.underlying24 rfl rfl ?_) | (refine step_load1 24 (.tmp 15) _ _ rfl (S.old_cell (by first | assumption | exact Hid.out (by assumption))) _ Tryd.underlying24 rfl rfl ?_)) | fail)
  go_ret
  exact ⟨_, rfl, S.sub (by repeat (first | exact Sub.nil _ | refine Sub.cons (by (repeat (first | exact Pick.head _ _ | apply Pick.tail)); first | done | fail) ?_))⟩

set_option maxRecDepth 100000 in
set_option maxHeartbeats 2000000 in
theorem refEnc_s (t : Tok) (w0 : World) : Calls Tryd.prog 17 #[.agg (tokL t).toArray] w0 (MadeB w0 (encT t)) := by
  have S := Has.start w0
  have p1 := fun w => head_s t w
  have hl : (headT t).length + t.tag.length ≤ 140737488355328 := by simp [headT_length, t.len]
  have hE : encT t = headT t ++ t.tag := rfl
  rw [hE]
  obtain ⟨X, hX⟩ : ∃ X, X = headT t := ⟨_, rfl⟩
  rw [← hX] at p1 hl ⊢
  have P1 := Lib.hid p1; have HL := Lib.hid hl; clear p1 hl
  clear hX hE
  go_enter Tryd.func17, Tryd.ntmps17
  go_wp2_with (first | ((with_reducible show wpList _ _ _ (⟨some 1, .box 27 (.tmp 0), _, _, _, _⟩ :: _) _ _); refine step_boxA (dst := some 1) S 27 (.tmp 0) _ rfl rfl ?_; clear S; intro g1 w S) | ((with_reducible show wpList _ _ _ (⟨some 3, .load 27 (.tmp 1), _, _, _, _⟩ :: _) _ _); first | (refine step_load S 27 (.tmp 1) _ rfl _ _ _ (by (repeat (first | exact Pick.head _ _ | apply Pick.tail)); first | done | fail) _ Tryd.underlying27 rfl 36 (by kernel_rfl) (by first | rfl | (first | rfl | assumption | (exact Hid.out (by assumption)) | (exact tokL_size _) | (rw [arr8_size]; first | rfl | assumption | (exact Hid.out (by assumption)) | exact tokL_size _ | exact List.length_replicate ..) | (simp [arr8_size]; done))) rfl ?_) | (refine step_loadO 27 (.tmp 1) _ rfl _ _ _ (S.old_heap (Hid.out (by assumption))) _ Tryd.underlying27 rfl 36 (by kernel_rfl) (by first | rfl | (first | rfl | assumption | (exact Hid.out (by assumption)) | (exact tokL_size _) | (rw [arr8_size]; first | rfl | assumption | (exact Hid.out (by assumption)) | exact tokL_size _ | exact List.length_replicate ..) | (simp [arr8_size]; done))) rfl ?_) | (refine step_loadR 27 (.tmp 1) _ _ rfl _ (S.old_range (by first | assumption | exact Hid.out (by assumption))) _ Tryd.underlying27 rfl 36 (by kernel_rfl) (by first | rfl | (first | rfl | assumption | (exact Hid.out (by assumption)) | (exact tokL_size _) | (rw [arr8_size]; first | rfl | assumption | (exact Hid.out (by assumption)) | exact tokL_size _ | exact List.length_replicate ..) | (simp [arr8_size]; done))) _ rfl rfl ?_)) | (at_builtin; refine step_append8 S (.tmp 4) (.tmp 6) _ _ rfl (by (repeat (first | exact Pick.head _ _ | apply Pick.tail)); first | done | fail) _ _ rfl (by first | assumption | exact S.oldB (Hid.out (by assumption)) | exact Bs.mk0 _ _ | exact S.bs (by (repeat (first | exact Pick.head _ _ | apply Pick.tail)); first | done | fail) | exact S.bsr (by (repeat (first | exact Pick.head _ _ | apply Pick.tail)); first | done | fail)) (by (first | omega | assumption | (exact Hid.out (by assumption)) | (simp only [List.length_append, List.length_cons, List.length_nil]; omega))) rfl ?_; clear S; intro v7 w S; (try simp only [List.nil_append] at S)) | fail)
  refine wp_rely S [⟨[], [], [], fun _ v => v = .agg (tokL t).toArray, fun _ v => []⟩, ⟨[0], [], [], fun _ v => True, fun _ v => [row8 v X]⟩, ⟨[], [], [], fun _ v => v = .pointer (some ⟨g1, 4, none⟩), fun _ v => []⟩, ⟨[2], [], [], fun _ v => v = .slice (some ⟨g1, 4, none⟩) 32 32, fun _ v => []⟩, ⟨[0, 1, 2, 3], [1], [], fun _ v => True, fun _ v => [row8 v (X ++ t.tag)]⟩, ⟨[0, 1, 2, 3, 4], [], [], fun d v => v = d 4, fun _ v => []⟩] ?A1 ?hA1 (by kernel_rfl) (by kernel_rfl) (by kernel_rfl) [0, 2, 3, 4, 5] (by kernel_rfl) ?hok1 ?fin1
  case hA1 => intro u; simp only [putAll, List.length_cons, List.length_nil, Nat.zero_add, Nat.reduceAdd, dstAt, List.getElem?_toArray, List.getElem?_cons_zero, List.getElem?_cons_succ, Option.bind_some, Act.put, List.setIfInBounds_toArray, List.set_cons_zero, List.set_cons_succ]; rfl
  case hok1 =>
    intro i hi
    obtain rfl | rfl | rfl | rfl | rfl | rfl : i = 0 ∨ i = 1 ∨ i = 2 ∨ i = 3 ∨ i = 4 ∨ i = 5 := by simp only [List.length_cons, List.length_nil, Nat.zero_add, Nat.reduceAdd] at hi; omega
    · clear hi
      refine step_of rfl rfl rfl ?_
      intro u G w hf S
      simp only [resOf, spec, RSpec.resAt, List.getD_cons_zero, List.getD_cons_succ, List.flatMap_cons, List.flatMap_nil, List.nil_append, List.cons_append, List.append_nil, List.append_assoc, ptrBlk] at S ⊢
      refine does_load 27 (.tmp 1) g1 rfl _ _ _ (S.get (r := blk g1 _) (by (repeat (first | exact Pick.head _ _ | apply Pick.tail)); first | done | fail)) _ Tryd.underlying27 rfl 36 (by kernel_rfl) (by first | rfl | (first | rfl | assumption | (exact Hid.out (by assumption)) | (exact tokL_size _) | (rw [arr8_size]; first | rfl | assumption | (exact Hid.out (by assumption)) | exact tokL_size _ | exact List.length_replicate ..) | (simp [arr8_size]; done))) ?_; exact ⟨rfl, S⟩
    · clear hi
      refine step_of rfl rfl rfl ?_
      intro u G w hf S
      have f0 : u 0 = .agg (tokL t).toArray := hf 0 (by simp)
      simp only [resOf, spec, RSpec.resAt, List.getD_cons_zero, List.getD_cons_succ, List.flatMap_cons, List.flatMap_nil, List.nil_append, List.cons_append, List.append_nil, List.append_assoc, ptrBlk] at S ⊢
      simp only [f0]
      refine does_fn (args := [(.agg (tokL t).toArray)]) Tryd.func46 (by kernel_rfl) (by kernel_rfl) (P1.out w) rfl ?_
      rintro e w1 ⟨v, rfl, T⟩
      exact ⟨_, rfl, trivial, S.call T⟩
    · clear hi
      refine step_of rfl rfl rfl ?_
      intro u G w hf S
      simp only [resOf, spec, RSpec.resAt, List.getD_cons_zero, List.getD_cons_succ, List.flatMap_cons, List.flatMap_nil, List.nil_append, List.cons_append, List.append_nil, List.append_assoc, ptrBlk] at S ⊢
      simp only [does]
      go_simp
      try first | exact S | (refine ⟨?_, S⟩; (first | rfl | omega | (rw [IntWalk.i64_in _ (by omega)]; try omega) | (rw [IntKind.wrap_u64]; try omega) | (rw [Int.tmod_eq_emod_of_nonneg (by omega)]; try omega) | (rw [IntKind.wrap_u8]; try omega) | (rw [IntKind.wrap_u32]; try omega))) | (first | rfl | omega | (rw [IntWalk.i64_in _ (by omega)]; try omega) | (rw [IntKind.wrap_u64]; try omega) | (rw [Int.tmod_eq_emod_of_nonneg (by omega)]; try omega) | (rw [IntKind.wrap_u8]; try omega) | (rw [IntKind.wrap_u32]; try omega))
    · clear hi
      refine step_of rfl rfl rfl ?_
      intro u G w hf S
      have f2 : u 2 = .pointer (some ⟨g1, 4, none⟩) := hf 2 (by simp)
      simp only [resOf, spec, RSpec.resAt, List.getD_cons_zero, List.getD_cons_succ, List.flatMap_cons, List.flatMap_nil, List.nil_append, List.cons_append, List.append_nil, List.append_assoc, ptrBlk] at S ⊢
      simp only [f2]
      simp only [does]
      go_simp
      try first | exact S | (refine ⟨?_, S⟩; (first | rfl | omega | (rw [IntWalk.i64_in _ (by omega)]; try omega) | (rw [IntKind.wrap_u64]; try omega) | (rw [Int.tmod_eq_emod_of_nonneg (by omega)]; try omega) | (rw [IntKind.wrap_u8]; try omega) | (rw [IntKind.wrap_u32]; try omega))) | (first | rfl | omega | (rw [IntWalk.i64_in _ (by omega)]; try omega) | (rw [IntKind.wrap_u64]; try omega) | (rw [Int.tmod_eq_emod_of_nonneg (by omega)]; try omega) | (rw [IntKind.wrap_u8]; try omega) | (rw [IntKind.wrap_u32]; try omega))
    · clear hi
      refine step_of rfl rfl rfl ?_
      intro u G w hf S
      have f0 : u 0 = .agg (tokL t).toArray := hf 0 (by simp)
      have f2 : u 2 = .pointer (some ⟨g1, 4, none⟩) := hf 2 (by simp)
      have f3 : u 3 = .slice (some ⟨g1, 4, none⟩) 32 32 := hf 3 (by simp)
      simp only [resOf, spec, RSpec.resAt, List.getD_cons_zero, List.getD_cons_succ, List.flatMap_cons, List.flatMap_nil, List.nil_append, List.cons_append, List.append_nil, List.append_assoc, ptrBlk] at S ⊢
      simp only [f0, f2, f3] at S ⊢
      try simp only [ptrBlk] at S
      refine does_append8 _ _ _ _ rfl S _ t.tag rfl (S.tail.bs_tag (by (repeat (first | exact Pick.head _ _ | apply Pick.tail)); first | done | fail)) HL.out ?_; intro v' w' S; exact ⟨trivial, S⟩
    · clear hi
      refine step_of rfl rfl rfl ?_
      intro u G w hf S
      have f0 : u 0 = .agg (tokL t).toArray := hf 0 (by simp)
      have f2 : u 2 = .pointer (some ⟨g1, 4, none⟩) := hf 2 (by simp)
      have f3 : u 3 = .slice (some ⟨g1, 4, none⟩) 32 32 := hf 3 (by simp)
      have m4 : mask [0, 1, 2, 3, 4] u 4 = u 4 := rfl
      simp only [resOf, spec, RSpec.resAt, List.getD_cons_zero, List.getD_cons_succ, List.flatMap_cons, List.flatMap_nil, List.nil_append, List.cons_append, List.append_nil, List.append_assoc, m4, ptrBlk] at S ⊢
      simp only [m4, f0, f2, f3]
      simp only [does]
      go_simp
      try first | exact S | (refine ⟨?_, S⟩; (first | rfl | omega | (rw [IntWalk.i64_in _ (by omega)]; try omega) | (rw [IntKind.wrap_u64]; try omega) | (rw [Int.tmod_eq_emod_of_nonneg (by omega)]; try omega) | (rw [IntKind.wrap_u8]; try omega) | (rw [IntKind.wrap_u32]; try omega))) | (first | rfl | omega | (rw [IntWalk.i64_in _ (by omega)]; try omega) | (rw [IntKind.wrap_u64]; try omega) | (rw [Int.tmod_eq_emod_of_nonneg (by omega)]; try omega) | (rw [IntKind.wrap_u8]; try omega) | (rw [IntKind.wrap_u32]; try omega))
  case fin1 =>
    intro u w hf S
    have f0 : u 0 = .agg (tokL t).toArray := hf 0 (by simp)
    have f2 : u 2 = .pointer (some ⟨g1, 4, none⟩) := hf 2 (by simp)
    have f3 : u 3 = .slice (some ⟨g1, 4, none⟩) 32 32 := hf 3 (by simp)
    have f5 : u 5 = u 4 := hf 5 (by simp)
    have m5_4 : mask [0, 1, 2, 3, 4] u 4 = u 4 := rfl
    simp only [resOf, spec, RSpec.resAt, List.getD_cons_zero, List.getD_cons_succ, List.flatMap_cons, List.flatMap_nil, List.nil_append, List.cons_append, List.append_nil, List.append_assoc, m5_4, ptrBlk] at S
    clear hf
    simp only [List.length_cons, List.length_nil, Nat.zero_add, Nat.reduceAdd, List.drop_succ_cons, List.drop_zero, f0, f2, f3, f5]
    try simp only [f0, f2, f3, f5, ptrBlk] at S
    clear f0 f2 f3 f5 m5_4
    generalize u 1 = v4 at S ⊢
    generalize u 4 = v7 at S ⊢
    go_wp2_with (first | ((with_reducible show wpList _ _ _ (⟨some 1, .box 27 (.tmp 0), _, _, _, _⟩ :: _) _ _); refine step_boxA (dst := some 1) S 27 (.tmp 0) _ rfl rfl ?_; clear S; intro g1 w S) | ((with_reducible show wpList _ _ _ (⟨some 3, .load 27 (.tmp 1), _, _, _, _⟩ :: _) _ _); first | (refine step_load S 27 (.tmp 1) _ rfl _ _ _ (by (repeat (first | exact Pick.head _ _ | apply Pick.tail)); first | done | fail) _ Tryd.underlying27 rfl 36 (by kernel_rfl) (by first | rfl | (first | rfl | assumption | (exact Hid.out (by assumption)) | (exact tokL_size _) | (rw [arr8_size]; first | rfl | assumption | (exact Hid.out (by assumption)) | exact tokL_size _ | exact List.length_replicate ..) | (simp [arr8_size]; done))) rfl ?_) | (refine step_loadO 27 (.tmp 1) _ rfl _ _ _ (S.old_heap (Hid.out (by assumption))) _ Tryd.underlying27 rfl 36 (by kernel_rfl) (by first | rfl | (first | rfl | assumption | (exact Hid.out (by assumption)) | (exact tokL_size _) | (rw [arr8_size]; first | rfl | assumption | (exact Hid.out (by assumption)) | exact tokL_size _ | exact List.length_replicate ..) | (simp [arr8_size]; done))) rfl ?_) | (refine step_loadR 27 (.tmp 1) _ _ rfl _ (S.old_range (by first | assumption | exact Hid.out (by assumption))) _ Tryd.underlying27 rfl 36 (by kernel_rfl) (by first | rfl | (first | rfl | assumption | (exact Hid.out (by assumption)) | (exact tokL_size _) | (rw [arr8_size]; first | rfl | assumption | (exact Hid.out (by assumption)) | exact tokL_size _ | exact List.length_replicate ..) | (simp [arr8_size]; done))) _ rfl rfl ?_)) | (at_builtin; refine step_append8 S (.tmp 4) (.tmp 6) _ _ rfl (by (repeat (first | exact Pick.head _ _ | apply Pick.tail)); first | done | fail) _ _ rfl (by first | assumption | exact S.oldB (Hid.out (by assumption)) | exact Bs.mk0 _ _ | exact S.bs (by (repeat (first | exact Pick.head _ _ | apply Pick.tail)); first | done | fail) | exact S.bsr (by (repeat (first | exact Pick.head _ _ | apply Pick.tail)); first | done | fail)) (by (first | omega | assumption | (exact Hid.out (by assumption)) | (simp only [List.length_append, List.length_cons, List.length_nil]; omega))) rfl ?_; clear S; intro v7 w S; (try simp only [List.nil_append] at S)) | fail)
    go_ret
    exact ⟨_, rfl, S.sub (by repeat (first | exact Sub.nil _ | refine Sub.cons (by (repeat (first | exact Pick.head _ _ | apply Pick.tail)); first | done | fail) ?_))⟩

set_option maxRecDepth 100000 in
set_option maxHeartbeats 1000000 in
theorem keyed_s (v : Value) (key : List UInt8) (w0 : World) (h : Bs w0 v key) : Calls Tryd.prog 52 #[v] w0 fun e w' => e = .returned (.bool (vkB key)) ∧ Has w0 w' [] := by
  have S := Has.start w0
  obtain ⟨a0, c0, rfl, k1, k2⟩ := Sl.shape h
  unfold maxLen at k2
  by_cases h1 : 1 ≤ key.length
  · by_cases h2 : key.length ≤ 64
    · rw [show vkB key = true from decide_eq_true ⟨h1, h2⟩]
      have i1 : 1 ≤ (key.length : Int) := by omega
      have i2 : (key.length : Int) ≤ 64 := by omega
      have H := Lib.hid h; clear h
      go_enter Tryd.func52, Tryd.ntmps52
      go_wp2_with (first | fail)
      go_ret
      exact ⟨rfl, S.nil⟩
    · rw [show vkB key = false from decide_eq_false (fun h => h2 h.2)]
      have i1 : 1 ≤ (key.length : Int) := by omega
      have i2 : ¬ (key.length : Int) ≤ 64 := by omega
      have H := Lib.hid h; clear h
      go_enter Tryd.func52, Tryd.ntmps52
      go_wp2_with (first | fail)
      go_ret
      exact ⟨rfl, S.nil⟩
  · rw [show vkB key = false from decide_eq_false (fun h => h1 h.1)]
    have i1 : ¬ 1 ≤ (key.length : Int) := by omega
    have H := Lib.hid h; clear h
    go_enter Tryd.func52, Tryd.ntmps52
    go_wp2_with (first | fail)
    go_ret
    exact ⟨rfl, S.nil⟩

set_option maxRecDepth 100000 in
set_option maxHeartbeats 1000000 in
theorem validKey_s (v : Value) (key : List UInt8) (w0 : World) (h : Bs w0 v key) : Calls Tryd.prog 49 #[v] w0 fun e w' => e = .returned (.bool (vkB key)) ∧ Has w0 w' [] := by
  have S := Has.start w0
  obtain ⟨a0, c0, rfl, k1, k2⟩ := Sl.shape h
  unfold maxLen at k2
  by_cases h1 : 1 ≤ key.length
  · by_cases h2 : key.length ≤ 64
    · rw [show vkB key = true from decide_eq_true ⟨h1, h2⟩]
      have i1 : 1 ≤ (key.length : Int) := by omega
      have i2 : (key.length : Int) ≤ 64 := by omega
      have H := Lib.hid h; clear h
      go_enter Tryd.func49, Tryd.ntmps49
      go_wp2_with (first | fail)
      go_ret
      exact ⟨rfl, S.nil⟩
    · rw [show vkB key = false from decide_eq_false (fun h => h2 h.2)]
      have i1 : 1 ≤ (key.length : Int) := by omega
      have i2 : ¬ (key.length : Int) ≤ 64 := by omega
      have H := Lib.hid h; clear h
      go_enter Tryd.func49, Tryd.ntmps49
      go_wp2_with (first | fail)
      go_ret
      exact ⟨rfl, S.nil⟩
  · rw [show vkB key = false from decide_eq_false (fun h => h1 h.1)]
    have i1 : ¬ 1 ≤ (key.length : Int) := by omega
    have H := Lib.hid h; clear h
    go_enter Tryd.func49, Tryd.ntmps49
    go_wp2_with (first | fail)
    go_ret
    exact ⟨rfl, S.nil⟩

end Go.Proofs.YtioonimpobcglaaDoor
