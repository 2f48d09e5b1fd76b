/- Several texts under one header: what the claim needs of Bh. No condition but those that each names. -/
import Derived.Test.YtfhkmmagpnojmaaDoorYE1
import Derived.Test.YtfhkmmagpnojmaaDoorYE5
import Derived.Test.YtfhkmmagpnojmaaDoorYE4
import Derived.Laws.Shifts
import Derived.WalkLawsBesides
set_option linter.unusedSimpArgs false
set_option linter.unusedVariables false

/- Several texts under one header: Wri, Rdr. No condition but those that each names. -/

/- The writer of wire: one number more, the length in front. No condition but the reach. -/
namespace Go.Proofs.YtfhkmmagpnojmaaDoor
open Go.RowKit

section
variable {P : Program} {ops : Array Oper} {rest : List Oper} {a : Act} {w0 w : World} {l F : List Res} {Q : Exit → Act → World → Prop} {dst : Option Tmp} {ty : TypeId} {pos : String} {after : Array Edge} {gd : Option (Nat × Bool)} {Post : Value → World → Prop}

/-- One cell of a block of one's own is stored. -/
theorem does_store1 {g : Nat} {old : Array Value} {t' : TypeId} (S : Has w0 w (blk g (.cells old t' (0, 0)) :: F)) (t : TypeId) (x y : Operand) (off : Nat) (v : Value) (hx : a.eval x = .pointer (some ⟨g, off, none⟩)) (hy : a.eval y = v)
    (hs : (P.info? t).map (·.size) = some 1) (hv : v.cells = #[v]) (h1 : v.oneCell' = true) (hoff : off < old.size)
    (h : ∀ w', Has w0 w' (blk g (.cells (old.setIfInBounds off v) t' (0, 0)) :: F) → Post undef w') : does P a.eval ⟨dst, .store t x y, ty, pos, after, gd⟩ w Post := by
  refine does_unit (w' := w.setRow g (old.setIfInBounds off v)) ?_ (h _ S.setRow)
  have := run_storeAt_cell (P := P) w g off t t' old v (S.holds (blk g (.cells old t' (0, 0))) (by simp)) hoff hs hv h1
  simp only [execOp, hx, hy, Sem.run_bind, this, Result.andThen_ok, Sem.run_pure]
end

set_option maxRecDepth 100000 in
theorem does_build81 {a : Act} {w0 w : World} {l : List Res} {dst : Option Tmp} {ty : TypeId} {pos : String} {after : Array Edge} {gd : Option (Nat × Bool)} {Post : Value → World → Prop} (S : Has w0 w l) (x : Operand) (y : UInt8) (hx : a.eval x = by8 y)
    (h : ∀ v w', Has w0 w' (row8 v [y] :: l) → Post v w') : does Tryd.prog a.eval ⟨dst, .buildSlice 25 1 #[(0, x)], ty, pos, after, gd⟩ w Post :=
  does_build8 S 1 _ [y] (by simp [hx]) rfl (by decide) h
/-- A writer in a block of its own, with its bytes. -/
abbrev wrt (g : Nat) (v : Value) : Res := blk g (.cells #[v] 104 (0, 0))
/-- What a method of the writer leaves. -/
def Wrote (w0 : World) (g : Nat) (xs : List UInt8) (F : List Res) (e : Ending) (w' : World) : Prop := e = .returned (.tuple #[]) ∧ ∃ v, Has w0 w' (wrt g v :: row8 v xs :: F)
theorem pow8 (k : Nat) (h : k ≤ 7) : (2 : Int) ^ (8 * k) = ((256 ^ k : Nat) : Int) := by
  have : ∀ j : Fin 8, (2 : Int) ^ (8 * j.val) = ((256 ^ j.val : Nat) : Int) := by decide
  exact this ⟨k, by omega⟩
theorem numB_drop (n s k : Nat) (h : k + 1 ≤ s) : (numB n s).take (s - k) = (numB n s).take (s - (k + 1)) ++ [UInt8.ofNat (n / 256 ^ k)] := by
  induction s with
  | zero => omega
  | succ s ih =>
    by_cases hk : k = s
    · subst hk
      rw [show k + 1 - k = 0 + 1 by omega, show k + 1 - (k + 1) = 0 by omega]
      show (UInt8.ofNat (n / 256 ^ k) :: numB n k).take (0 + 1) = _
      simp
    · rw [show s + 1 - k = (s - k) + 1 by omega, show s + 1 - (k + 1) = (s - (k + 1)) + 1 by omega]
      show (UInt8.ofNat (n / 256 ^ s) :: numB n s).take ((s - k) + 1) = (UInt8.ofNat (n / 256 ^ s) :: numB n s).take ((s - (k + 1)) + 1) ++ _
      rw [List.take_succ_cons, List.take_succ_cons, ih (by omega)]
      rfl
set_option maxRecDepth 100000 in
set_option maxHeartbeats 2000000 in
theorem wuint_s (g : Nat) (v : Value) (xs : List UInt8) (n s : Nat) (w0 w1 : World) (F : List Res) (S : Has w0 w1 (wrt g v :: row8 v xs :: F)) (hn : n < 18446744073709551616) (hs : s ≤ 8) (hl : xs.length + s ≤ 140737488355328) :
    Calls Tryd.prog 48 #[.pointer (some ⟨g, 0, none⟩), .int .u64 (n : Int), .int .i64 (s : Int)] w1 (Wrote w0 g (xs ++ numB n s) F) := by
  have HN := Lib.hid hn; have HL := Lib.hid hl; clear hn hl
  go_enter Tryd.func48, Tryd.ntmps48
  go_wp2
  go_loopw [6] (fun t wr => ∃ (k : Nat) (vv : Value), k ≤ s ∧ t = .int .i64 ((k : Int) - 1) ∧ Has w0 wr (wrt g vv :: row8 vv (xs ++ (numB n s).take (s - k)) :: F)) (fun t _ => (intOf t + 1).toNat)
  case atStart => exact ⟨s, v, Nat.le_refl _, rfl, by rw [Nat.sub_self, List.take_zero, List.append_nil]; exact S⟩
  case round =>
    clear S
    obtain ⟨k, vv, hk, rfl, S⟩ := hrel
    cases k with
    | zero =>
      rw [Nat.sub_zero, List.take_of_length_le (by rw [numB_length]; exact Nat.le_refl _)] at S
      have i1 : ¬ (0 : Int) ≤ ((0 : Nat) : Int) - 1 := by omega
      go_wp2_with (first | ((with_reducible refine iO _ (.load 25 _) ?_); refine step_load1 25 _ _ _ rfl (cL) _ Tryd.underlying25 rfl rfl ?_) | ((with_reducible refine iD 23 (.buildSlice 25 _ _) ?_); refine step_build81 S (.tmp 22) _ rfl rfl ?_; clear S; intro v23 w S) | (at_builtin; refine step_append8 S (.tmp 17) (.tmp 23) _ _ rfl pk _ _ rfl bS lE rfl ?_; clear S; intro v24 w S; (try simp only [z4] at S)) | ((with_reducible refine iO none (.store 25 (.tmp 26) (.tmp 24)) ?_); first | (refine step_store1 S 25 (.tmp 26) (.tmp 24) _ _ (.slice _ _ _) rfl rfl _ _ pk kR rfl rfl lN rfl ?_; clear S; intro w S; try simp only [List.setIfInBounds_toArray, List.set_cons_zero, List.set_cons_succ] at S) | (refine step_storeR S 25 (.tmp 26) (.tmp 24) _ _ (.slice _ _ _) rfl rfl _ _ _ _ pk lE kR rfl rfl rfl ?_; clear S; intro w S) | (refine step_storeS S 25 (.tmp 26) (.tmp 24) _ _ (.slice _ _ _) rfl rfl _ _ _ _ _ pk lE kR rfl rfl rfl ?_; clear S; intro w S)) | fail)
      go_end0
      exact ⟨rfl, vv, S⟩
    | succ k =>
      rw [show (((k + 1 : Nat) : Int) - 1) = (k : Int) by omega]
      have hd := numB_drop n s k hk
      have h1 : (xs ++ (numB n s).take (s - (k + 1))).length + ([UInt8.ofNat (n / 256 ^ k)] : List UInt8).length ≤ 140737488355328 := by
        have := HL.out
        simp [numB_length]
        omega
      have hq : IntKind.u8.wrap ((n : Int) / 2 ^ (8 * k)) = ((UInt8.ofNat (n / 256 ^ k)).toNat : Int) := by
        rw [IntKind.wrap_u8, UInt8.toNat_ofNat', pow8 k (by omega)]
        omega
      obtain ⟨X, hX⟩ : ∃ X, X = xs ++ (numB n s).take (s - (k + 1)) := ⟨_, rfl⟩
      obtain ⟨c, hc⟩ : ∃ c, c = UInt8.ofNat (n / 256 ^ k) := ⟨_, rfl⟩
      rw [← hX] at S h1
      rw [← hc] at hd h1 hq
      have i1 : (0 : Int) ≤ (k : Int) := by omega
      have i2 : (k : Int) ≤ 7 := by omega
      replace S := S.join
      have HD := Lib.hid hd; have H1 := Lib.hid h1; have HQ := Lib.hid hq; have HX := Lib.hid hX; clear hd h1 hq hX
      clear hc
      go_wp2_with (first | ((with_reducible refine iO _ (.load 25 _) ?_); refine step_load1 25 _ _ _ rfl (cL) _ Tryd.underlying25 rfl rfl ?_) | ((with_reducible refine iD 23 (.buildSlice 25 _ _) ?_); refine step_build81 S (.tmp 22) _ rfl rfl ?_; clear S; intro v23 w S) | (at_builtin; refine step_append8 S (.tmp 17) (.tmp 23) _ _ rfl pk _ _ rfl bS lE rfl ?_; clear S; intro v24 w S; (try simp only [z4] at S)) | ((with_reducible refine iO none (.store 25 (.tmp 26) (.tmp 24)) ?_); first | (refine step_store1 S 25 (.tmp 26) (.tmp 24) _ _ (.slice _ _ _) rfl rfl _ _ pk kR rfl rfl lN rfl ?_; clear S; intro w S; try simp only [List.setIfInBounds_toArray, List.set_cons_zero, List.set_cons_succ] at S) | (refine step_storeR S 25 (.tmp 26) (.tmp 24) _ _ (.slice _ _ _) rfl rfl _ _ _ _ pk lE kR rfl rfl rfl ?_; clear S; intro w S) | (refine step_storeS S 25 (.tmp 26) (.tmp 24) _ _ (.slice _ _ _) rfl rfl _ _ _ _ _ pk lE kR rfl rfl rfl ?_; clear S; intro w S)) | fail)
      refine wp_relyW (e1 := noRes) 4 (S.pick (r := both (wrt g vv) (row8 vv X)) pk) [sv [] ((.pointer (some ⟨g, 0, none⟩))), sv [] ((.pointer (some ⟨g, 0, none⟩))), sv [1] (.pointer (some ⟨g, 0, none⟩)), sv [1, 2] (.pointer (some ⟨g, 0, none⟩)), ⟨[1, 2, 3], [], [], fun _ v => v = vv, fun _ v => [wrt g vv, row8 vv X]⟩, sv [] ((.int .u64 (n : Int))), sv [] ((.int .i64 (k : Int))), sv [6] (.int .i64 (8 * (k : Int))), sv [5, 6, 7] (.int .u64 ((n : Int) / 2 ^ (8 * k))), sv [5, 6, 7, 8] (by8 c), ⟨[5, 6, 7, 8, 9], [], [], fun _ v => True, fun _ v => [row8 v [c]]⟩, ⟨[1, 2, 3, 4, 5, 6, 7, 8, 9, 10], [4, 10], [], fun _ v => True, fun _ v => [wrt g vv, row8 v (X ++ [c])]⟩, sv [0, 1, 2, 3, 4, 5, 6, 7, 8, 9, 10, 11] (.pointer (some ⟨g, 0, none⟩)), sv [0, 1, 2, 3, 4, 5, 6, 7, 8, 9, 10, 11, 12] (.pointer (some ⟨g, 0, none⟩)), ⟨[0, 1, 2, 3, 4, 5, 6, 7, 8, 9, 10, 11, 12, 13], [11], [], fun _ v => True, fun d v => [wrt g (d 11), row8 (d 11) (X ++ [c])]⟩] ?A1 ?hA1 kR kR kR [0, 1, 2, 3, 5, 6, 7, 8, 9, 12, 13, 14] kR (of_decide_eq_true rfl) ?hok1 ?fin1
      case hA1 => intro u; simp only [putAll, List.length_cons, List.length_nil, Nat.zero_add, Nat.reduceAdd, dstAt, List.getElem?_toArray, List.getElem?_cons_zero, List.getElem?_cons_succ, Option.bind_some, Act.put, List.setIfInBounds_toArray, List.set_cons_zero, List.set_cons_succ]; rfl
      case hok1 =>
        intro i hi
        obtain rfl | rfl | rfl | rfl | rfl | rfl | rfl | rfl | rfl | rfl | rfl | rfl | rfl | rfl | rfl : i = 0 ∨ i = 1 ∨ i = 2 ∨ i = 3 ∨ i = 4 ∨ i = 5 ∨ i = 6 ∨ i = 7 ∨ i = 8 ∨ i = 9 ∨ i = 10 ∨ i = 11 ∨ i = 12 ∨ i = 13 ∨ i = 14 := by simp only [List.length_cons, List.length_nil, Nat.zero_add, Nat.reduceAdd] at hi; omega
        · rw [if_neg (by decide)]; intro r0; exact oP []
        · rw [if_neg (by decide)]; intro r0; exact oP []
        · rw [if_neg (by decide)]; intro r0; exact oP [1]
        · rw [if_neg (by decide)]; intro r0; exact oP [2]
        · clear hi
          rw [if_pos rfl]
          refine step_ofW rfl rfl rfl ?_
          intro u G w hf S
          have f3 : u 3 = .pointer (some ⟨g, 0, none⟩) := hf 3 (by simp)
          simp only [fl, z4, z5, z6, z7, ptrBlk] at S ⊢
          simp only [f3]
          refine does_load1 25 (.tmp 16) _ _ rfl (S.taken.cell (g := g) (Pick.head _ _) rfl) _ Tryd.underlying25 rfl ?_; exact ⟨rfl, S.taken⟩
        · rw [if_neg (by decide)]; intro r0; exact oP []
        · rw [if_neg (by decide)]; intro r0; exact oP []
        · clear hi
          rw [if_neg (by decide)]; intro r0
          refine step_of rfl rfl rfl ?_
          intro u G w hf S
          have f6 : u 6 = (.int .i64 (k : Int)) := hf 6 (by simp)
          simp only [fl, z4, z5, z6, z7, ptrBlk] at S ⊢
          simp only [f6]
          simp only [does]; go_simp; first | (refine ⟨?_, S⟩; rw [IntWalk.i64_in _ (by omega)]) | (rw [IntWalk.i64_in _ (by omega)]) | exact S
        · clear hi
          rw [if_neg (by decide)]; intro r0
          refine step_of rfl rfl rfl ?_
          intro u G w hf S
          have f5 : u 5 = (.int .u64 (n : Int)) := hf 5 (by simp)
          have f7 : u 7 = .int .i64 (8 * (k : Int)) := hf 7 (by simp)
          simp only [fl, z4, z5, z6, z7, ptrBlk] at S ⊢
          simp only [f5, f7]
          simp only [does]; go_simp; first | (refine ⟨?_, S⟩; rw [show (8 * (k : Int)).toNat = 8 * k by omega]) | (rw [show (8 * (k : Int)).toNat = 8 * k by omega])
        · clear hi
          rw [if_neg (by decide)]; intro r0
          refine step_of rfl rfl rfl ?_
          intro u G w hf S
          have f8 : u 8 = .int .u64 ((n : Int) / 2 ^ (8 * k)) := hf 8 (by simp)
          simp only [fl, z4, z5, z6, z7, ptrBlk] at S ⊢
          simp only [f8]
          simp only [does]; go_simp; first | (refine ⟨?_, S⟩; rw [HQ.out]) | (rw [HQ.out])
        · clear hi
          rw [if_neg (by decide)]; intro r0
          refine step_of rfl rfl rfl ?_
          intro u G w hf S
          have f9 : u 9 = by8 c := hf 9 (by simp)
          simp only [fl, z4, z5, z6, z7, ptrBlk] at S ⊢
          simp only [f9]
          refine does_build81 S (.tmp 22) c rfl ?_; intro v w1 S; exact ⟨trivial, S⟩
        · clear hi
          rw [if_neg (by decide)]; intro r0
          refine step_of rfl rfl rfl ?_
          intro u G w hf S
          have f4 : u 4 = vv := hf 4 (by simp)
          simp only [fl, z4, z5, z6, z7, ptrBlk] at S ⊢
          simp only [f4] at S ⊢
          try simp only [ptrBlk] at S
          refine does_append8 (.tmp 17) (.tmp 23) vv X rfl (S.pick (r := row8 vv X) pk) _ [c] rfl (S.bs (xs := [c]) pk) H1.out ?_; intro v' w' S; exact ⟨trivial, (S.drop (Pick.tail (Pick.tail (Pick.head _ _)))).perm (List.Perm.swap _ _ _)⟩
        · rw [if_neg (by decide)]; intro r0; exact oP [0]
        · rw [if_neg (by decide)]; intro r0; exact oP [12]
        · clear hi
          rw [if_neg (by decide)]; intro r0
          refine step_of rfl rfl rfl ?_
          intro u G w hf S
          have f13 : u 13 = .pointer (some ⟨g, 0, none⟩) := hf 13 (by simp)
          have m11 : mask [0, 1, 2, 3, 4, 5, 6, 7, 8, 9, 10, 11, 12, 13] u 11 = u 11 := rfl
          simp only [fl, z4, z5, z6, z7, m11, ptrBlk] at S ⊢
          simp only [m11, f13] at S ⊢
          try simp only [ptrBlk] at S
          refine does_store1 S 25 (.tmp 26) (.tmp 24) 0 (u 11) rfl rfl kR (one_sl (S.bs (xs := X ++ [c]) pk)).2 (one_sl (S.bs (xs := X ++ [c]) pk)).1 Nat.one_pos ?_; intro w1 S; exact ⟨trivial, S⟩
      case fin1 =>
        intro u w hf S
        have m14_11 : mask [0, 1, 2, 3, 4, 5, 6, 7, 8, 9, 10, 11, 12, 13] u 11 = u 11 := rfl
        have hvA := allV hf
        simp only [AllV, RSpec.valAt, sv, Nat.zero_add, Nat.reduceAdd, m14_11] at hvA
        simp only [fl, z4, z5, z6, z7, m14_11, ptrBlk] at S
        clear hf
        simp only [List.length_cons, List.length_nil, Nat.zero_add, Nat.reduceAdd, List.drop_succ_cons, List.drop_zero, hvA]
        try simp only [hvA, ptrBlk] at S
        clear hvA m14_11
        generalize u 10 = v23 at S ⊢
        generalize u 11 = v24 at S ⊢
        go_wp2_with (first | ((with_reducible refine iO _ (.load 25 _) ?_); refine step_load1 25 _ _ _ rfl (cL) _ Tryd.underlying25 rfl rfl ?_) | ((with_reducible refine iD 23 (.buildSlice 25 _ _) ?_); refine step_build81 S (.tmp 22) _ rfl rfl ?_; clear S; intro v23 w S) | (at_builtin; refine step_append8 S (.tmp 17) (.tmp 23) _ _ rfl pk _ _ rfl bS lE rfl ?_; clear S; intro v24 w S; (try simp only [z4] at S)) | ((with_reducible refine iO none (.store 25 (.tmp 26) (.tmp 24)) ?_); first | (refine step_store1 S 25 (.tmp 26) (.tmp 24) _ _ (.slice _ _ _) rfl rfl _ _ pk kR rfl rfl lN rfl ?_; clear S; intro w S; try simp only [List.setIfInBounds_toArray, List.set_cons_zero, List.set_cons_succ] at S) | (refine step_storeR S 25 (.tmp 26) (.tmp 24) _ _ (.slice _ _ _) rfl rfl _ _ _ _ pk lE kR rfl rfl rfl ?_; clear S; intro w S) | (refine step_storeS S 25 (.tmp 26) (.tmp 24) _ _ (.slice _ _ _) rfl rfl _ _ _ _ _ pk lE kR rfl rfl rfl ?_; clear S; intro w S)) | fail)
        go_roundw
        case rel => exact ⟨k, _, by omega, by go_num, by rw [HD.out, ← List.append_assoc, ← HX.out]; exact S.drop (Pick.tail (Pick.tail (Pick.head _ _)))⟩
        case measure => simp [intOf]
theorem numB_2 (n : Nat) : numB n 2 = [UInt8.ofNat (n / 256), UInt8.ofNat n] := by simp [numB]
set_option maxRecDepth 100000 in
set_option maxHeartbeats 2000000 in
theorem framed_s (g : Nat) (v : Value) (xs : List UInt8) (w0 : World) (hc : w0.cell? ⟨g, 0, none⟩ = some v) (hv : Bs w0 v xs) (hl : xs.length ≤ 140737488351232) :
    Calls Tryd.prog 58 #[.pointer (some ⟨g, 0, none⟩)] w0 (MadeB w0 (frm xs)) := by
  have S := Has.start w0
  obtain ⟨a0, c0, rfl, k1, k2⟩ := Sl.shape hv
  unfold maxLen at k2
  obtain ⟨n, hn⟩ : ∃ n, n = xs.length := ⟨_, rfl⟩
  have e1 : IntKind.u8.wrap (((n : Int) + 2) / 256) = ((UInt8.ofNat ((n + 2) / 256)).toNat : Int) := by rw [IntKind.wrap_u8, UInt8.toNat_ofNat']; omega
  have e2 : IntKind.u8.wrap ((n : Int) + 2) = ((UInt8.ofNat (n + 2)).toNat : Int) := by rw [IntKind.wrap_u8, UInt8.toNat_ofNat']; omega
  have hf : frm xs = [UInt8.ofNat ((n + 2) / 256), UInt8.ofNat (n + 2)] ++ xs := by unfold frm; rw [← hn, numB_2]
  obtain ⟨b1, hb1⟩ : ∃ b, b = UInt8.ofNat ((n + 2) / 256) := ⟨_, rfl⟩
  obtain ⟨b2, hb2⟩ : ∃ b, b = UInt8.ofNat (n + 2) := ⟨_, rfl⟩
  have h1 : [b1, b2].length + xs.length ≤ 140737488355328 := by simp; omega
  have hn64 : (n : Int) + 2 ≤ 9223372036854775807 := by omega
  rw [← hb1] at e1 hf
  rw [← hb2] at e2 hf
  rw [hf]
  rw [← hn] at k1 hl hc hv
  have HC := Lib.hid hc; have HV := Lib.hid hv; have H1 := Lib.hid h1; have E1 := Lib.hid e1; have E2 := Lib.hid e2; clear hc hv h1 e1 e2
  clear hf hb1 hb2 hn
  go_enter Tryd.func58, Tryd.ntmps58
  go_wp2_with (first | ((with_reducible refine iD 15 (.buildSlice 25 _ _) ?_); refine step_build82 S (.tmp 12) (.tmp 14) b1 b2 (show Value.int IntKind.u8 _ = Value.int IntKind.u8 _ by rw [← E1.out]; rfl) (show Value.int IntKind.u8 _ = Value.int IntKind.u8 _ by rw [← E2.out]; rfl) gw ?_; clear S; intro v15 w S) | (at_builtin; refine step_append8 S (.tmp 15) (.tmp 19) v15 [b1, b2] rfl pk _ xs rfl (S.oldB HV.out) H1.out gw ?_; clear S; intro v20 w S) | ((with_reducible refine iO _ (.load 25 _) ?_); refine step_load1 25 _ _ _ rfl (cL) _ Tryd.underlying25 rfl rfl ?_) | fail)
  go_ret
  exact ⟨_, rfl, S⟩
end Go.Proofs.YtfhkmmagpnojmaaDoor

/- The reader of wire: a number, some bytes, or the panic of one that lacks them. No condition but the reach. -/
namespace Go.Proofs.YtfhkmmagpnojmaaDoor
open Go.RowKit

/-- A reader in a block of its own: its bytes, and where it stands. -/
abbrev rdr (g : Nat) (v : Value) (p : Nat) : Res := blk g (.cells #[v, .int .i64 (p : Int)] 154 (0, 0))
/-- The panic of a reader that lacks bytes. -/
def erl : PanicEntry := { v := .iface 157 (.agg #[]), recovered := false }
theorem takeU_fit (v : Value) (b : List UInt8) (p s : Nat) (w : World) (hv : Bs w v b) (h1 : 1 ≤ s) (h8 : s ≤ 8) (hp : p + s ≤ b.length) (hl : b.length ≤ 140737488355328) :
    Calls Tryd.prog 84 #[v, .int .i64 (p : Int), .int .i64 (s : Int)] w fun e w' => e = .returned (.tuple #[.int .u64 ((val ((b.drop p).take s) : Nat) : Int), .int .i64 ((p : Int) + (s : Int)), .int .i64 0]) ∧ Has w w' [] := by
  have := takeUint_s v b p s w hv hl (by omega) (by omega)
  have e1 : takeE b.length p s = 0 := by
    unfold takeE
    rw [if_neg (by omega), if_neg (by omega)]
  have e2 : tuE b.length p s = 0 := by unfold tuE; rw [if_neg (by omega), e1]
  have e3 : tuN b.length p s = (p : Int) + (s : Int) := by unfold tuN takeN; rw [if_neg (by omega), if_pos e1]
  have e4 : tuV b p s = val ((b.drop p).take s) := by
    unfold tuV takeR
    rw [if_neg (by omega), if_pos e1, Int.toNat_natCast, Int.toNat_natCast]
  rwa [e2, e3, e4] at this
theorem takeU_lack (v : Value) (b : List UInt8) (p s : Nat) (w : World) (hv : Bs w v b) (h1 : 1 ≤ s) (h8 : s ≤ 8) (hp : p ≤ b.length) (hp2 : b.length < p + s) (hl : b.length ≤ 140737488355328) :
    Calls Tryd.prog 84 #[v, .int .i64 (p : Int), .int .i64 (s : Int)] w fun e w' => e = .returned (.tuple #[.int .u64 ((tuV b p s : Nat) : Int), .int .i64 (tuN b.length p s), .int .i64 10]) ∧ Has w w' [] := by
  have := takeUint_s v b p s w hv hl (by omega) (by omega)
  have e2 : tuE b.length p s = 10 := by unfold tuE takeE; rw [if_neg (by omega), if_neg (by omega), if_pos (by omega)]
  rwa [e2] at this
/-- What reading a number leaves. -/
def ReadU (w0 : World) (g : Nat) (bv : Value) (b : List UInt8) (p s : Nat) (F : List Res) (e : Ending) (w' : World) : Prop :=
  (p + s ≤ b.length ∧ e = .returned (.int .u64 ((val ((b.drop p).take s) : Nat) : Int)) ∧ Has w0 w' (rdr g bv (p + s) :: F)) ∨ (b.length < p + s ∧ e = .panicked [erl] ∧ Has w0 w' (rdr g bv p :: F))
set_option maxRecDepth 100000 in
set_option maxHeartbeats 2000000 in
theorem ruint_s (g : Nat) (bv : Value) (b : List UInt8) (p s : Nat) (w0 w1 : World) (F : List Res) (S : Has w0 w1 (rdr g bv p :: F)) (hb : Bs w0 bv b) (h1 : 1 ≤ s) (h8 : s ≤ 8) (hp : p ≤ b.length) (hl : b.length ≤ 140737488355328) :
    Calls Tryd.prog 61 #[.pointer (some ⟨g, 0, none⟩), .int .i64 (s : Int)] w1 (ReadU w0 g bv b p s F) := by
  by_cases hfit : p + s ≤ b.length
  · have p1 := fun v w h => takeU_fit v b p s w h h1 h8 hfit hl
    obtain ⟨n, hn⟩ : ∃ n, n = val ((b.drop p).take s) := ⟨_, rfl⟩
    rw [← hn] at p1
    have HB := Lib.hid hb; have P1 := Lib.hid p1; have H1 := Lib.hid h1; have H8 := Lib.hid h8; have HN := Lib.hid hn; clear hb p1 h1 h8 hn
    go_enter Tryd.func61, Tryd.ntmps61
    go_wp2_with (first | ((with_reducible refine iO _ (.load 25 _) ?_); refine step_load1 25 _ _ _ rfl (cL) _ Tryd.underlying25 rfl rfl ?_) | ((with_reducible refine iO _ (.load 3 _) ?_); refine step_load1 3 _ _ _ rfl (cL) _ Tryd.underlying3 rfl rfl ?_) | (go_at_call 84; (with_reducible refine (takeUint_s _ _ _ _ _ bS lE lE lE).mono ?_); rintro e w1 ⟨rfl, T⟩; replace S := S.call T; clear T; (try simp only [z4, z5] at S)) | ((with_reducible refine iO none (.store 3 (.tmp 29) (.tmp 27)) ?_); refine step_store1 S 3 (.tmp 29) (.tmp 27) _ _ (.int _ _) rfl rfl _ _ pk kR kR rfl lN rfl ?_; clear S; intro w S; try simp only [List.setIfInBounds_toArray, List.set_cons_zero, List.set_cons_succ] at S) | fail)
    refine wp_rely S [sv [] ((.pointer (some ⟨g, 0, none⟩))), sv [0] (.pointer (some ⟨g, 0, none⟩)), sv [0, 1] (.pointer (some ⟨g, 0, none⟩)), sv [0, 1, 2] bv, sv [] ((.pointer (some ⟨g, 0, none⟩))), sv [4] (.pointer (some ⟨g, 0, none⟩)), sv [4, 5] (.pointer (some ⟨g, 1, none⟩)), sv [4, 5, 6] (.int .i64 (p : Int)), sv [] ((.int .i64 (s : Int))), sv [0, 1, 2, 3, 4, 5, 6, 7, 8] (.tuple #[.int .u64 (n : Int), .int .i64 ((p : Int) + (s : Int)), .int .i64 0]), sv [0, 1, 2, 3, 4, 5, 6, 7, 8, 9] ((.tuple #[.int .u64 (n : Int), .int .i64 ((p : Int) + (s : Int)), .int .i64 0])), sv [0, 1, 2, 3, 4, 5, 6, 7, 8, 9, 10] (.int .u64 (n : Int)), sv [0, 1, 2, 3, 4, 5, 6, 7, 8, 9, 10] (.int .i64 ((p : Int) + (s : Int))), sv [0, 1, 2, 3, 4, 5, 6, 7, 8, 9, 10] (.int .i64 0), sv [0, 1, 2, 3, 4, 5, 6, 7, 8, 9, 10, 11] ((.int .u64 (n : Int))), sv [0, 1, 2, 3, 4, 5, 6, 7, 8, 9, 10, 11, 12, 14] ((.int .i64 ((p : Int) + (s : Int)))), sv [0, 1, 2, 3, 4, 5, 6, 7, 8, 9, 10, 11, 12, 13, 14, 15] (.int .i64 0)] ?A1 ?hA1 kR kR kR [0, 1, 2, 3, 4, 5, 6, 7, 8, 9, 10, 11, 12, 13, 14, 15, 16] kR ?hok1 ?fin1
    case hA1 => intro u; simp only [putAll, List.length_cons, List.length_nil, Nat.zero_add, Nat.reduceAdd, dstAt, List.getElem?_toArray, List.getElem?_cons_zero, List.getElem?_cons_succ, Option.bind_some, Act.put, List.setIfInBounds_toArray, List.set_cons_zero, List.set_cons_succ]; rfl
    case hok1 =>
      intro i hi
      obtain rfl | rfl | rfl | rfl | rfl | rfl | rfl | rfl | rfl | rfl | rfl | rfl | rfl | rfl | rfl | rfl | rfl : i = 0 ∨ i = 1 ∨ i = 2 ∨ i = 3 ∨ i = 4 ∨ i = 5 ∨ i = 6 ∨ i = 7 ∨ i = 8 ∨ i = 9 ∨ i = 10 ∨ i = 11 ∨ i = 12 ∨ i = 13 ∨ i = 14 ∨ i = 15 ∨ i = 16 := by simp only [List.length_cons, List.length_nil, Nat.zero_add, Nat.reduceAdd] at hi; omega
      · exact oP []
      · exact oP [0]
      · exact oP [1]
      · clear hi
        refine step_of rfl rfl rfl ?_
        intro u G w hf S
        have f2 : u 2 = .pointer (some ⟨g, 0, none⟩) := hf 2 (by simp)
        simp only [fl, z4, z5, z6, z7, ptrBlk] at S ⊢
        simp only [f2]
        refine does_load1 25 (.tmp 11) _ _ rfl (S.cell (g := g) pk co) _ Tryd.underlying25 rfl ?_; exact ⟨rfl, S⟩
      · exact oP []
      · exact oP [4]
      · exact oP [5]
      · clear hi
        refine step_of rfl rfl rfl ?_
        intro u G w hf S
        have f6 : u 6 = .pointer (some ⟨g, 1, none⟩) := hf 6 (by simp)
        simp only [fl, z4, z5, z6, z7, ptrBlk] at S ⊢
        simp only [f6]
        refine does_load1 3 (.tmp 15) _ _ rfl (S.cell (g := g) pk co) _ Tryd.underlying3 rfl ?_; exact ⟨rfl, S⟩
      · exact oP []
      · clear hi
        refine step_of rfl rfl rfl ?_
        intro u G w hf S
        have f3 : u 3 = bv := hf 3 (by simp)
        have f7 : u 7 = .int .i64 (p : Int) := hf 7 (by simp)
        have f8 : u 8 = (.int .i64 (s : Int)) := hf 8 (by simp)
        simp only [fl, z4, z5, z6, z7, ptrBlk] at S ⊢
        simp only [f3, f7, f8]
        refine does_fn (args := [(bv), (.int .i64 (p : Int)), ((.int .i64 (s : Int)))]) Tryd.func84 kR kR (P1.out _ _ (S.oldB HB.out)) rfl ?_
        rintro e w1 ⟨rfl, T⟩
        exact ⟨_, rfl, rfl, S.call T⟩
      · exact oP [9]
      · exact oP [10]
      · exact oP [10]
      · exact oP [10]
      · exact oP [11]
      · exact oP [12]
      · exact oP [13]
    case fin1 =>
      intro u w hf S
      have hvA := allV hf
      simp only [AllV, RSpec.valAt, sv, Nat.zero_add, Nat.reduceAdd] at hvA
      simp only [fl, z4, z5, z6, z7, ptrBlk] at S
      clear hf
      simp only [List.length_cons, List.length_nil, Nat.zero_add, Nat.reduceAdd, List.drop_succ_cons, List.drop_zero, hvA]
      clear hvA
      go_wp2_with (first | ((with_reducible refine iO _ (.load 25 _) ?_); refine step_load1 25 _ _ _ rfl (cL) _ Tryd.underlying25 rfl rfl ?_) | ((with_reducible refine iO _ (.load 3 _) ?_); refine step_load1 3 _ _ _ rfl (cL) _ Tryd.underlying3 rfl rfl ?_) | (go_at_call 84; (with_reducible refine (takeUint_s _ _ _ _ _ bS lE lE lE).mono ?_); rintro e w1 ⟨rfl, T⟩; replace S := S.call T; clear T; (try simp only [z4, z5] at S)) | ((with_reducible refine iO none (.store 3 (.tmp 29) (.tmp 27)) ?_); refine step_store1 S 3 (.tmp 29) (.tmp 27) _ _ (.int _ _) rfl rfl _ _ pk kR kR rfl lN rfl ?_; clear S; intro w S; try simp only [List.setIfInBounds_toArray, List.set_cons_zero, List.set_cons_succ] at S) | fail)
      go_ret
      refine .inl ⟨hfit, by rw [← HN.out]; rfl, ?_⟩
      rw [rdr, Int.natCast_add]
      exact S
  · have hlt : b.length < p + s := by omega
    have p1 := fun v w h => takeU_lack v b p s w h h1 h8 hp hlt hl
    obtain ⟨n, hn⟩ : ∃ n, n = tuV b p s := ⟨_, rfl⟩
    obtain ⟨m, hm⟩ : ∃ m, m = tuN b.length p s := ⟨_, rfl⟩
    rw [← hn, ← hm] at p1
    have HB := Lib.hid hb; have P1 := Lib.hid p1; have H1 := Lib.hid h1; have H8 := Lib.hid h8; clear hb p1 h1 h8
    clear hn hm
    go_enter Tryd.func61, Tryd.ntmps61
    go_wp2_with (first | ((with_reducible refine iO _ (.load 25 _) ?_); refine step_load1 25 _ _ _ rfl (cL) _ Tryd.underlying25 rfl rfl ?_) | ((with_reducible refine iO _ (.load 3 _) ?_); refine step_load1 3 _ _ _ rfl (cL) _ Tryd.underlying3 rfl rfl ?_) | (go_at_call 84; (with_reducible refine (takeUint_s _ _ _ _ _ bS lE lE lE).mono ?_); rintro e w1 ⟨rfl, T⟩; replace S := S.call T; clear T; (try simp only [z4, z5] at S)) | ((with_reducible refine iO none (.store 3 (.tmp 29) (.tmp 27)) ?_); refine step_store1 S 3 (.tmp 29) (.tmp 27) _ _ (.int _ _) rfl rfl _ _ pk kR kR rfl lN rfl ?_; clear S; intro w S; try simp only [List.setIfInBounds_toArray, List.set_cons_zero, List.set_cons_succ] at S) | fail)
    refine wp_rely S [sv [] ((.pointer (some ⟨g, 0, none⟩))), sv [0] (.pointer (some ⟨g, 0, none⟩)), sv [0, 1] (.pointer (some ⟨g, 0, none⟩)), sv [0, 1, 2] bv, sv [] ((.pointer (some ⟨g, 0, none⟩))), sv [4] (.pointer (some ⟨g, 0, none⟩)), sv [4, 5] (.pointer (some ⟨g, 1, none⟩)), sv [4, 5, 6] (.int .i64 (p : Int)), sv [] ((.int .i64 (s : Int))), sv [0, 1, 2, 3, 4, 5, 6, 7, 8] (.tuple #[.int .u64 (n : Int), .int .i64 m, .int .i64 10]), sv [0, 1, 2, 3, 4, 5, 6, 7, 8, 9] ((.tuple #[.int .u64 (n : Int), .int .i64 m, .int .i64 10])), sv [0, 1, 2, 3, 4, 5, 6, 7, 8, 9, 10] (.int .u64 (n : Int)), sv [0, 1, 2, 3, 4, 5, 6, 7, 8, 9, 10] (.int .i64 m), sv [0, 1, 2, 3, 4, 5, 6, 7, 8, 9, 10] (.int .i64 10), sv [0, 1, 2, 3, 4, 5, 6, 7, 8, 9, 10, 11] ((.int .u64 (n : Int))), sv [0, 1, 2, 3, 4, 5, 6, 7, 8, 9, 10, 11, 12, 14] (.int .i64 m), sv [0, 1, 2, 3, 4, 5, 6, 7, 8, 9, 10, 11, 12, 13, 14, 15] (.int .i64 10)] ?A2 ?hA2 kR kR kR [0, 1, 2, 3, 4, 5, 6, 7, 8, 9, 10, 11, 12, 13, 14, 15, 16] kR ?hok2 ?fin2
    case hA2 => intro u; simp only [putAll, List.length_cons, List.length_nil, Nat.zero_add, Nat.reduceAdd, dstAt, List.getElem?_toArray, List.getElem?_cons_zero, List.getElem?_cons_succ, Option.bind_some, Act.put, List.setIfInBounds_toArray, List.set_cons_zero, List.set_cons_succ]; rfl
    case hok2 =>
      intro i hi
      obtain rfl | rfl | rfl | rfl | rfl | rfl | rfl | rfl | rfl | rfl | rfl | rfl | rfl | rfl | rfl | rfl | rfl : i = 0 ∨ i = 1 ∨ i = 2 ∨ i = 3 ∨ i = 4 ∨ i = 5 ∨ i = 6 ∨ i = 7 ∨ i = 8 ∨ i = 9 ∨ i = 10 ∨ i = 11 ∨ i = 12 ∨ i = 13 ∨ i = 14 ∨ i = 15 ∨ i = 16 := by simp only [List.length_cons, List.length_nil, Nat.zero_add, Nat.reduceAdd] at hi; omega
      · exact oP []
      · exact oP [0]
      · exact oP [1]
      · clear hi
        refine step_of rfl rfl rfl ?_
        intro u G w hf S
        have f2 : u 2 = .pointer (some ⟨g, 0, none⟩) := hf 2 (by simp)
        simp only [fl, z4, z5, z6, z7, ptrBlk] at S ⊢
        simp only [f2]
        refine does_load1 25 (.tmp 11) _ _ rfl (S.cell (g := g) pk co) _ Tryd.underlying25 rfl ?_; exact ⟨rfl, S⟩
      · exact oP []
      · exact oP [4]
      · exact oP [5]
      · clear hi
        refine step_of rfl rfl rfl ?_
        intro u G w hf S
        have f6 : u 6 = .pointer (some ⟨g, 1, none⟩) := hf 6 (by simp)
        simp only [fl, z4, z5, z6, z7, ptrBlk] at S ⊢
        simp only [f6]
        refine does_load1 3 (.tmp 15) _ _ rfl (S.cell (g := g) pk co) _ Tryd.underlying3 rfl ?_; exact ⟨rfl, S⟩
      · exact oP []
      · clear hi
        refine step_of rfl rfl rfl ?_
        intro u G w hf S
        have f3 : u 3 = bv := hf 3 (by simp)
        have f7 : u 7 = .int .i64 (p : Int) := hf 7 (by simp)
        have f8 : u 8 = (.int .i64 (s : Int)) := hf 8 (by simp)
        simp only [fl, z4, z5, z6, z7, ptrBlk] at S ⊢
        simp only [f3, f7, f8]
        refine does_fn (args := [(bv), (.int .i64 (p : Int)), ((.int .i64 (s : Int)))]) Tryd.func84 kR kR (P1.out _ _ (S.oldB HB.out)) rfl ?_
        rintro e w1 ⟨rfl, T⟩
        exact ⟨_, rfl, rfl, S.call T⟩
      · exact oP [9]
      · exact oP [10]
      · exact oP [10]
      · exact oP [10]
      · exact oP [11]
      · exact oP [12]
      · exact oP [13]
    case fin2 =>
      intro u w hf S
      have hvA := allV hf
      simp only [AllV, RSpec.valAt, sv, Nat.zero_add, Nat.reduceAdd] at hvA
      simp only [fl, z4, z5, z6, z7, ptrBlk] at S
      clear hf
      simp only [List.length_cons, List.length_nil, Nat.zero_add, Nat.reduceAdd, List.drop_succ_cons, List.drop_zero, hvA]
      clear hvA
      go_wp2_with (first | ((with_reducible refine iO _ (.load 25 _) ?_); refine step_load1 25 _ _ _ rfl (cL) _ Tryd.underlying25 rfl rfl ?_) | ((with_reducible refine iO _ (.load 3 _) ?_); refine step_load1 3 _ _ _ rfl (cL) _ Tryd.underlying3 rfl rfl ?_) | (go_at_call 84; (with_reducible refine (takeUint_s _ _ _ _ _ bS lE lE lE).mono ?_); rintro e w1 ⟨rfl, T⟩; replace S := S.call T; clear T; (try simp only [z4, z5] at S)) | ((with_reducible refine iO none (.store 3 (.tmp 29) (.tmp 27)) ?_); refine step_store1 S 3 (.tmp 29) (.tmp 27) _ _ (.int _ _) rfl rfl _ _ pk kR kR rfl lN rfl ?_; clear S; intro w S; try simp only [List.setIfInBounds_toArray, List.set_cons_zero, List.set_cons_succ] at S) | fail)
      exact ⟨rfl, .inr ⟨hlt, rfl, S⟩⟩
theorem takeB_fit (v : Value) (b : List UInt8) (p s : Nat) (w : World) (hv : Bs w v b) (hp : p + s ≤ b.length) (hl : b.length ≤ 140737488355328) :
    Calls Tryd.prog 85 #[v, .int .i64 (p : Int), .int .i64 (s : Int)] w (MadeNE w ((b.drop p).take s) ((p : Int) + (s : Int)) 0) := by
  have := takeBytes_s v b p s w hv hl (by omega) (by omega)
  have e1 : takeE b.length p s = 0 := by
    unfold takeE
    rw [if_neg (by omega), if_neg (by omega)]
  have e3 : takeN b.length p s = (p : Int) + (s : Int) := by unfold takeN; rw [if_pos e1]
  have e4 : takeR b p s = (b.drop p).take s := by unfold takeR; rw [if_pos e1, Int.toNat_natCast, Int.toNat_natCast]
  rwa [e1, e3, e4] at this
theorem takeB_lack (v : Value) (b : List UInt8) (p s : Nat) (w : World) (hv : Bs w v b) (hp : p ≤ b.length) (hp2 : b.length < p + s) (hl : b.length ≤ 140737488355328) (hs : s ≤ 64) :
    Calls Tryd.prog 85 #[v, .int .i64 (p : Int), .int .i64 (s : Int)] w (MadeNE w [] (takeN b.length p s) 10) := by
  have := takeBytes_s v b p s w hv hl (by omega) (by omega)
  have e2 : takeE b.length p s = 10 := by unfold takeE; rw [if_neg (by omega), if_pos (by omega)]
  have e4 : takeR b p s = [] := by unfold takeR; rw [if_neg (by omega)]
  rwa [e2, e4] at this
/-- What reading bytes leaves. -/
def ReadB (w0 : World) (g : Nat) (bv : Value) (b : List UInt8) (p s : Nat) (F : List Res) (e : Ending) (w' : World) : Prop :=
  (p + s ≤ b.length ∧ ∃ v, e = .returned v ∧ Has w0 w' (rdr g bv (p + s) :: row8 v ((b.drop p).take s) :: F)) ∨ (b.length < p + s ∧ e = .panicked [erl] ∧ Has w0 w' (rdr g bv p :: F))
set_option maxRecDepth 100000 in
set_option maxHeartbeats 2000000 in
theorem rbytes_s (g : Nat) (bv : Value) (b : List UInt8) (p s : Nat) (w0 w1 : World) (F : List Res) (S : Has w0 w1 (rdr g bv p :: F)) (hb : Bs w0 bv b) (h8 : s ≤ 64) (hp : p ≤ b.length) (hl : b.length ≤ 140737488355328) :
    Calls Tryd.prog 63 #[.pointer (some ⟨g, 0, none⟩), .int .i64 (s : Int)] w1 (ReadB w0 g bv b p s F) := by
  by_cases hfit : p + s ≤ b.length
  · have p1 := fun v w h => takeB_fit v b p s w h hfit hl
    obtain ⟨X, hn⟩ : ∃ X, X = (b.drop p).take s := ⟨_, rfl⟩
    rw [← hn] at p1
    have HB := Lib.hid hb; have P1 := Lib.hid p1; have H8 := Lib.hid h8; have HN := Lib.hid hn; clear hb p1 h8 hn
    go_enter Tryd.func63, Tryd.ntmps63
    go_wp2_with (first | ((with_reducible refine iO _ (.load 25 _) ?_); refine step_load1 25 _ _ _ rfl (cL) _ Tryd.underlying25 rfl rfl ?_) | ((with_reducible refine iO _ (.load 3 _) ?_); refine step_load1 3 _ _ _ rfl (cL) _ Tryd.underlying3 rfl rfl ?_) | (go_at_call 85; (with_reducible refine (takeBytes_s _ _ _ _ _ bS lE lE lE).mono ?_); rintro e w1 ⟨v, rfl, T⟩; replace S := S.call T; clear T; (try simp only [z4, z5] at S)) | ((with_reducible refine iO none (.store 3 (.tmp 29) (.tmp 27)) ?_); refine step_store1 S 3 (.tmp 29) (.tmp 27) _ _ (.int _ _) rfl rfl _ _ pk kR kR rfl lN rfl ?_; clear S; intro w S; try simp only [List.setIfInBounds_toArray, List.set_cons_zero, List.set_cons_succ] at S) | fail)
    refine wp_rely S [sv [] ((.pointer (some ⟨g, 0, none⟩))), sv [0] (.pointer (some ⟨g, 0, none⟩)), sv [0, 1] (.pointer (some ⟨g, 0, none⟩)), sv [0, 1, 2] bv, sv [] ((.pointer (some ⟨g, 0, none⟩))), sv [4] (.pointer (some ⟨g, 0, none⟩)), sv [4, 5] (.pointer (some ⟨g, 1, none⟩)), sv [4, 5, 6] (.int .i64 (p : Int)), sv [] ((.int .i64 (s : Int))), ⟨[0, 1, 2, 3, 4, 5, 6, 7, 8], [], [], fun _ v => ∃ x, v = .tuple #[x, .int .i64 ((p : Int) + (s : Int)), .int .i64 0], fun _ v => [row8 (tupAt v 0) X]⟩, ⟨[0, 1, 2, 3, 4, 5, 6, 7, 8, 9], [], [], fun d v => v = d 9, fun _ v => []⟩, ⟨[0, 1, 2, 3, 4, 5, 6, 7, 8, 9, 10], [], [], fun d v => v = tupAt (d 9) 0, fun _ v => []⟩, ⟨[0, 1, 2, 3, 4, 5, 6, 7, 8, 9, 10], [], [], fun d v => v = tupAt (d 9) 1, fun _ v => []⟩, ⟨[0, 1, 2, 3, 4, 5, 6, 7, 8, 9, 10], [], [], fun d v => v = tupAt (d 9) 2, fun _ v => []⟩, ⟨[0, 1, 2, 3, 4, 5, 6, 7, 8, 9, 10, 11], [], [], fun d v => v = (tupAt (d 9) 0), fun _ v => []⟩, ⟨[0, 1, 2, 3, 4, 5, 6, 7, 8, 9, 10, 11, 12, 14], [], [], fun d v => v = (tupAt (d 9) 1), fun _ v => []⟩, ⟨[0, 1, 2, 3, 4, 5, 6, 7, 8, 9, 10, 11, 12, 13, 14, 15], [], [], fun d v => v = (tupAt (d 9) 2), fun _ v => []⟩] ?A3 ?hA3 kR kR kR [0, 1, 2, 3, 4, 5, 6, 7, 8, 9, 10, 11, 12, 13, 14, 15, 16] kR ?hok3 ?fin3
    case hA3 => intro u; simp only [putAll, List.length_cons, List.length_nil, Nat.zero_add, Nat.reduceAdd, dstAt, List.getElem?_toArray, List.getElem?_cons_zero, List.getElem?_cons_succ, Option.bind_some, Act.put, List.setIfInBounds_toArray, List.set_cons_zero, List.set_cons_succ]; rfl
    case hok3 =>
      intro i hi
      obtain rfl | rfl | rfl | rfl | rfl | rfl | rfl | rfl | rfl | rfl | rfl | rfl | rfl | rfl | rfl | rfl | rfl : i = 0 ∨ i = 1 ∨ i = 2 ∨ i = 3 ∨ i = 4 ∨ i = 5 ∨ i = 6 ∨ i = 7 ∨ i = 8 ∨ i = 9 ∨ i = 10 ∨ i = 11 ∨ i = 12 ∨ i = 13 ∨ i = 14 ∨ i = 15 ∨ i = 16 := by simp only [List.length_cons, List.length_nil, Nat.zero_add, Nat.reduceAdd] at hi; omega
      · exact oP []
      · exact oP [0]
      · exact oP [1]
      · clear hi
        refine step_of rfl rfl rfl ?_
        intro u G w hf S
        have f2 : u 2 = .pointer (some ⟨g, 0, none⟩) := hf 2 (by simp)
        simp only [fl, z4, z5, z6, z7, ptrBlk, tupAt20, tupAt21, tupAt30, tupAt31, tupAt32] at S ⊢
        simp only [f2, tupAt20, tupAt21, tupAt30, tupAt31, tupAt32]
        refine does_load1 25 (.tmp 11) _ _ rfl (S.cell (g := g) pk co) _ Tryd.underlying25 rfl ?_; exact ⟨rfl, S⟩
      · exact oP []
      · exact oP [4]
      · exact oP [5]
      · clear hi
        refine step_of rfl rfl rfl ?_
        intro u G w hf S
        have f6 : u 6 = .pointer (some ⟨g, 1, none⟩) := hf 6 (by simp)
        simp only [fl, z4, z5, z6, z7, ptrBlk, tupAt20, tupAt21, tupAt30, tupAt31, tupAt32] at S ⊢
        simp only [f6, tupAt20, tupAt21, tupAt30, tupAt31, tupAt32]
        refine does_load1 3 (.tmp 15) _ _ rfl (S.cell (g := g) pk co) _ Tryd.underlying3 rfl ?_; exact ⟨rfl, S⟩
      · exact oP []
      · clear hi
        refine step_of rfl rfl rfl ?_
        intro u G w hf S
        have f3 : u 3 = bv := hf 3 (by simp)
        have f7 : u 7 = .int .i64 (p : Int) := hf 7 (by simp)
        have f8 : u 8 = (.int .i64 (s : Int)) := hf 8 (by simp)
        simp only [fl, z4, z5, z6, z7, ptrBlk, tupAt20, tupAt21, tupAt30, tupAt31, tupAt32] at S ⊢
        simp only [f3, f7, f8, tupAt20, tupAt21, tupAt30, tupAt31, tupAt32]
        refine does_fn (args := [(bv), (.int .i64 (p : Int)), ((.int .i64 (s : Int)))]) Tryd.func85 kR kR (P1.out _ _ (S.oldB HB.out)) rfl ?_
        rintro e w1 ⟨x, rfl, T⟩
        exact ⟨_, rfl, ⟨_, rfl⟩, S.call T⟩
      · clear hi
        refine step_of rfl rfl rfl ?_
        intro u G w hf S
        have f9 : ∃ x, u 9 = .tuple #[x, .int .i64 ((p : Int) + (s : Int)), .int .i64 0] := hf 9 (by simp)
        obtain ⟨x18, f9⟩ := f9
        have m9 : mask [0, 1, 2, 3, 4, 5, 6, 7, 8, 9] u 9 = u 9 := rfl
        simp only [fl, z4, z5, z6, z7, m9, ptrBlk, tupAt20, tupAt21, tupAt30, tupAt31, tupAt32] at S ⊢
        simp only [m9, f9, tupAt20, tupAt21, tupAt30, tupAt31, tupAt32]
        simp only [does]
        go_simp
        try first | exact S | exact ⟨vv, S⟩ | exact vv
      · clear hi
        refine step_of rfl rfl rfl ?_
        intro u G w hf S
        have f9 : ∃ x, u 9 = .tuple #[x, .int .i64 ((p : Int) + (s : Int)), .int .i64 0] := hf 9 (by simp)
        obtain ⟨x18, f9⟩ := f9
        have f10 : u 10 = u 9 := hf 10 (by simp)
        have m9 : mask [0, 1, 2, 3, 4, 5, 6, 7, 8, 9, 10] u 9 = u 9 := rfl
        simp only [fl, z4, z5, z6, z7, m9, ptrBlk, tupAt20, tupAt21, tupAt30, tupAt31, tupAt32] at S ⊢
        simp only [m9, f9, f10, tupAt20, tupAt21, tupAt30, tupAt31, tupAt32]
        simp only [does]
        go_simp
        try first | exact S | exact ⟨vv, S⟩ | exact vv
      · clear hi
        refine step_of rfl rfl rfl ?_
        intro u G w hf S
        have f9 : ∃ x, u 9 = .tuple #[x, .int .i64 ((p : Int) + (s : Int)), .int .i64 0] := hf 9 (by simp)
        obtain ⟨x18, f9⟩ := f9
        have f10 : u 10 = u 9 := hf 10 (by simp)
        have m9 : mask [0, 1, 2, 3, 4, 5, 6, 7, 8, 9, 10] u 9 = u 9 := rfl
        simp only [fl, z4, z5, z6, z7, m9, ptrBlk, tupAt20, tupAt21, tupAt30, tupAt31, tupAt32] at S ⊢
        simp only [m9, f9, f10, tupAt20, tupAt21, tupAt30, tupAt31, tupAt32]
        simp only [does]
        go_simp
        try first | exact S | exact ⟨vv, S⟩ | exact vv
      · clear hi
        refine step_of rfl rfl rfl ?_
        intro u G w hf S
        have f9 : ∃ x, u 9 = .tuple #[x, .int .i64 ((p : Int) + (s : Int)), .int .i64 0] := hf 9 (by simp)
        obtain ⟨x18, f9⟩ := f9
        have f10 : u 10 = u 9 := hf 10 (by simp)
        have m9 : mask [0, 1, 2, 3, 4, 5, 6, 7, 8, 9, 10] u 9 = u 9 := rfl
        simp only [fl, z4, z5, z6, z7, m9, ptrBlk, tupAt20, tupAt21, tupAt30, tupAt31, tupAt32] at S ⊢
        simp only [m9, f9, f10, tupAt20, tupAt21, tupAt30, tupAt31, tupAt32]
        simp only [does]
        go_simp
        try first | exact S | exact ⟨vv, S⟩ | exact vv
      · clear hi
        refine step_of rfl rfl rfl ?_
        intro u G w hf S
        have f9 : ∃ x, u 9 = .tuple #[x, .int .i64 ((p : Int) + (s : Int)), .int .i64 0] := hf 9 (by simp)
        obtain ⟨x18, f9⟩ := f9
        have f11 : u 11 = tupAt (u 9) 0 := hf 11 (by simp)
        have m9 : mask [0, 1, 2, 3, 4, 5, 6, 7, 8, 9, 10, 11] u 9 = u 9 := rfl
        simp only [fl, z4, z5, z6, z7, m9, ptrBlk, tupAt20, tupAt21, tupAt30, tupAt31, tupAt32] at S ⊢
        simp only [m9, f9, f11, tupAt20, tupAt21, tupAt30, tupAt31, tupAt32]
        simp only [does]
        go_simp
        try first | exact S | exact ⟨vv, S⟩ | exact vv
      · clear hi
        refine step_of rfl rfl rfl ?_
        intro u G w hf S
        have f9 : ∃ x, u 9 = .tuple #[x, .int .i64 ((p : Int) + (s : Int)), .int .i64 0] := hf 9 (by simp)
        obtain ⟨x18, f9⟩ := f9
        have f12 : u 12 = tupAt (u 9) 1 := hf 12 (by simp)
        have m9 : mask [0, 1, 2, 3, 4, 5, 6, 7, 8, 9, 10, 11, 12, 14] u 9 = u 9 := rfl
        simp only [fl, z4, z5, z6, z7, m9, ptrBlk, tupAt20, tupAt21, tupAt30, tupAt31, tupAt32] at S ⊢
        simp only [m9, f9, f12, tupAt20, tupAt21, tupAt30, tupAt31, tupAt32]
        simp only [does]
        go_simp
        try first | exact S | exact ⟨vv, S⟩ | exact vv
      · clear hi
        refine step_of rfl rfl rfl ?_
        intro u G w hf S
        have f9 : ∃ x, u 9 = .tuple #[x, .int .i64 ((p : Int) + (s : Int)), .int .i64 0] := hf 9 (by simp)
        obtain ⟨x18, f9⟩ := f9
        have f13 : u 13 = tupAt (u 9) 2 := hf 13 (by simp)
        have m9 : mask [0, 1, 2, 3, 4, 5, 6, 7, 8, 9, 10, 11, 12, 13, 14, 15] u 9 = u 9 := rfl
        simp only [fl, z4, z5, z6, z7, m9, ptrBlk, tupAt20, tupAt21, tupAt30, tupAt31, tupAt32] at S ⊢
        simp only [m9, f9, f13, tupAt20, tupAt21, tupAt30, tupAt31, tupAt32]
        simp only [does]
        go_simp
        try first | exact S | exact ⟨vv, S⟩ | exact vv
    case fin3 =>
      intro u w hf S
      have f9 : ∃ x, u 9 = .tuple #[x, .int .i64 ((p : Int) + (s : Int)), .int .i64 0] := hf 9 (by simp)
      obtain ⟨x18, f9⟩ := f9
      have m10_9 : mask [0, 1, 2, 3, 4, 5, 6, 7, 8, 9] u 9 = u 9 := rfl
      have m11_9 : mask [0, 1, 2, 3, 4, 5, 6, 7, 8, 9, 10] u 9 = u 9 := rfl
      have m12_9 : mask [0, 1, 2, 3, 4, 5, 6, 7, 8, 9, 10] u 9 = u 9 := rfl
      have m13_9 : mask [0, 1, 2, 3, 4, 5, 6, 7, 8, 9, 10] u 9 = u 9 := rfl
      have m14_9 : mask [0, 1, 2, 3, 4, 5, 6, 7, 8, 9, 10, 11] u 9 = u 9 := rfl
      have m15_9 : mask [0, 1, 2, 3, 4, 5, 6, 7, 8, 9, 10, 11, 12, 14] u 9 = u 9 := rfl
      have m16_9 : mask [0, 1, 2, 3, 4, 5, 6, 7, 8, 9, 10, 11, 12, 13, 14, 15] u 9 = u 9 := rfl
      have hvA := allV hf
      simp only [AllV, RSpec.valAt, sv, Nat.zero_add, Nat.reduceAdd, m10_9, m11_9, m12_9, m13_9, m14_9, m15_9, m16_9] at hvA
      simp only [fl, z4, z5, z6, z7, m10_9, m11_9, m12_9, m13_9, m14_9, m15_9, m16_9, ptrBlk, tupAt20, tupAt21, tupAt30, tupAt31, tupAt32] at S
      clear hf
      simp only [List.length_cons, List.length_nil, Nat.zero_add, Nat.reduceAdd, List.drop_succ_cons, List.drop_zero, f9, hvA, tupAt20, tupAt21, tupAt30, tupAt31, tupAt32]
      try simp only [f9, hvA, tupAt20, tupAt21, tupAt30, tupAt31, tupAt32, ptrBlk] at S
      clear f9 hvA m10_9 m11_9 m12_9 m13_9 m14_9 m15_9 m16_9
      go_wp2_with (first | ((with_reducible refine iO _ (.load 25 _) ?_); refine step_load1 25 _ _ _ rfl (cL) _ Tryd.underlying25 rfl rfl ?_) | ((with_reducible refine iO _ (.load 3 _) ?_); refine step_load1 3 _ _ _ rfl (cL) _ Tryd.underlying3 rfl rfl ?_) | (go_at_call 85; (with_reducible refine (takeBytes_s _ _ _ _ _ bS lE lE lE).mono ?_); rintro e w1 ⟨v, rfl, T⟩; replace S := S.call T; clear T; (try simp only [z4, z5] at S)) | ((with_reducible refine iO none (.store 3 (.tmp 29) (.tmp 27)) ?_); refine step_store1 S 3 (.tmp 29) (.tmp 27) _ _ (.int _ _) rfl rfl _ _ pk kR kR rfl lN rfl ?_; clear S; intro w S; try simp only [List.setIfInBounds_toArray, List.set_cons_zero, List.set_cons_succ] at S) | fail)
      go_ret
      refine .inl ⟨hfit, _, rfl, ?_⟩
      rw [← HN.out, rdr, Int.natCast_add]
      exact S
  · have hlt : b.length < p + s := by omega
    have p1 := fun v w h => takeB_lack v b p s w h hp hlt hl h8
    obtain ⟨m, hm⟩ : ∃ m, m = takeN b.length p s := ⟨_, rfl⟩
    rw [← hm] at p1
    have HB := Lib.hid hb; have P1 := Lib.hid p1; have H8 := Lib.hid h8; clear hb p1 h8
    clear hm
    go_enter Tryd.func63, Tryd.ntmps63
    go_wp2_with (first | ((with_reducible refine iO _ (.load 25 _) ?_); refine step_load1 25 _ _ _ rfl (cL) _ Tryd.underlying25 rfl rfl ?_) | ((with_reducible refine iO _ (.load 3 _) ?_); refine step_load1 3 _ _ _ rfl (cL) _ Tryd.underlying3 rfl rfl ?_) | (go_at_call 85; (with_reducible refine (takeBytes_s _ _ _ _ _ bS lE lE lE).mono ?_); rintro e w1 ⟨v, rfl, T⟩; replace S := S.call T; clear T; (try simp only [z4, z5] at S)) | ((with_reducible refine iO none (.store 3 (.tmp 29) (.tmp 27)) ?_); refine step_store1 S 3 (.tmp 29) (.tmp 27) _ _ (.int _ _) rfl rfl _ _ pk kR kR rfl lN rfl ?_; clear S; intro w S; try simp only [List.setIfInBounds_toArray, List.set_cons_zero, List.set_cons_succ] at S) | fail)
    refine wp_rely S [sv [] ((.pointer (some ⟨g, 0, none⟩))), sv [0] (.pointer (some ⟨g, 0, none⟩)), sv [0, 1] (.pointer (some ⟨g, 0, none⟩)), sv [0, 1, 2] bv, sv [] ((.pointer (some ⟨g, 0, none⟩))), sv [4] (.pointer (some ⟨g, 0, none⟩)), sv [4, 5] (.pointer (some ⟨g, 1, none⟩)), sv [4, 5, 6] (.int .i64 (p : Int)), sv [] ((.int .i64 (s : Int))), ⟨[0, 1, 2, 3, 4, 5, 6, 7, 8], [], [], fun _ v => ∃ x, v = .tuple #[x, .int .i64 m, .int .i64 10], fun _ v => [row8 (tupAt v 0) []]⟩, ⟨[0, 1, 2, 3, 4, 5, 6, 7, 8, 9], [], [], fun d v => v = d 9, fun _ v => []⟩, ⟨[0, 1, 2, 3, 4, 5, 6, 7, 8, 9, 10], [], [], fun d v => v = tupAt (d 9) 0, fun _ v => []⟩, ⟨[0, 1, 2, 3, 4, 5, 6, 7, 8, 9, 10], [], [], fun d v => v = tupAt (d 9) 1, fun _ v => []⟩, ⟨[0, 1, 2, 3, 4, 5, 6, 7, 8, 9, 10], [], [], fun d v => v = tupAt (d 9) 2, fun _ v => []⟩, ⟨[0, 1, 2, 3, 4, 5, 6, 7, 8, 9, 10, 11], [], [], fun d v => v = (tupAt (d 9) 0), fun _ v => []⟩, ⟨[0, 1, 2, 3, 4, 5, 6, 7, 8, 9, 10, 11, 12, 14], [], [], fun d v => v = (tupAt (d 9) 1), fun _ v => []⟩, ⟨[0, 1, 2, 3, 4, 5, 6, 7, 8, 9, 10, 11, 12, 13, 14, 15], [], [], fun d v => v = (tupAt (d 9) 2), fun _ v => []⟩] ?A4 ?hA4 kR kR kR [0, 1, 2, 3, 4, 5, 6, 7, 8, 9, 10, 11, 12, 13, 14, 15, 16] kR ?hok4 ?fin4
    case hA4 => intro u; simp only [putAll, List.length_cons, List.length_nil, Nat.zero_add, Nat.reduceAdd, dstAt, List.getElem?_toArray, List.getElem?_cons_zero, List.getElem?_cons_succ, Option.bind_some, Act.put, List.setIfInBounds_toArray, List.set_cons_zero, List.set_cons_succ]; rfl
    case hok4 =>
      intro i hi
      obtain rfl | rfl | rfl | rfl | rfl | rfl | rfl | rfl | rfl | rfl | rfl | rfl | rfl | rfl | rfl | rfl | rfl : i = 0 ∨ i = 1 ∨ i = 2 ∨ i = 3 ∨ i = 4 ∨ i = 5 ∨ i = 6 ∨ i = 7 ∨ i = 8 ∨ i = 9 ∨ i = 10 ∨ i = 11 ∨ i = 12 ∨ i = 13 ∨ i = 14 ∨ i = 15 ∨ i = 16 := by simp only [List.length_cons, List.length_nil, Nat.zero_add, Nat.reduceAdd] at hi; omega
      · exact oP []
      · exact oP [0]
      · exact oP [1]
      · clear hi
        refine step_of rfl rfl rfl ?_
        intro u G w hf S
        have f2 : u 2 = .pointer (some ⟨g, 0, none⟩) := hf 2 (by simp)
        simp only [fl, z4, z5, z6, z7, ptrBlk, tupAt20, tupAt21, tupAt30, tupAt31, tupAt32] at S ⊢
        simp only [f2, tupAt20, tupAt21, tupAt30, tupAt31, tupAt32]
        refine does_load1 25 (.tmp 11) _ _ rfl (S.cell (g := g) pk co) _ Tryd.underlying25 rfl ?_; exact ⟨rfl, S⟩
      · exact oP []
      · exact oP [4]
      · exact oP [5]
      · clear hi
        refine step_of rfl rfl rfl ?_
        intro u G w hf S
        have f6 : u 6 = .pointer (some ⟨g, 1, none⟩) := hf 6 (by simp)
        simp only [fl, z4, z5, z6, z7, ptrBlk, tupAt20, tupAt21, tupAt30, tupAt31, tupAt32] at S ⊢
        simp only [f6, tupAt20, tupAt21, tupAt30, tupAt31, tupAt32]
        refine does_load1 3 (.tmp 15) _ _ rfl (S.cell (g := g) pk co) _ Tryd.underlying3 rfl ?_; exact ⟨rfl, S⟩
      · exact oP []
      · clear hi
        refine step_of rfl rfl rfl ?_
        intro u G w hf S
        have f3 : u 3 = bv := hf 3 (by simp)
        have f7 : u 7 = .int .i64 (p : Int) := hf 7 (by simp)
        have f8 : u 8 = (.int .i64 (s : Int)) := hf 8 (by simp)
        simp only [fl, z4, z5, z6, z7, ptrBlk, tupAt20, tupAt21, tupAt30, tupAt31, tupAt32] at S ⊢
        simp only [f3, f7, f8, tupAt20, tupAt21, tupAt30, tupAt31, tupAt32]
        refine does_fn (args := [(bv), (.int .i64 (p : Int)), ((.int .i64 (s : Int)))]) Tryd.func85 kR kR (P1.out _ _ (S.oldB HB.out)) rfl ?_
        rintro e w1 ⟨x, rfl, T⟩
        exact ⟨_, rfl, ⟨_, rfl⟩, S.call T⟩
      · clear hi
        refine step_of rfl rfl rfl ?_
        intro u G w hf S
        have f9 : ∃ x, u 9 = .tuple #[x, .int .i64 m, .int .i64 10] := hf 9 (by simp)
        obtain ⟨x18, f9⟩ := f9
        have m9 : mask [0, 1, 2, 3, 4, 5, 6, 7, 8, 9] u 9 = u 9 := rfl
        simp only [fl, z4, z5, z6, z7, m9, ptrBlk, tupAt20, tupAt21, tupAt30, tupAt31, tupAt32] at S ⊢
        simp only [m9, f9, tupAt20, tupAt21, tupAt30, tupAt31, tupAt32]
        simp only [does]
        go_simp
        try first | exact S | exact ⟨vv, S⟩ | exact vv
      · clear hi
        refine step_of rfl rfl rfl ?_
        intro u G w hf S
        have f9 : ∃ x, u 9 = .tuple #[x, .int .i64 m, .int .i64 10] := hf 9 (by simp)
        obtain ⟨x18, f9⟩ := f9
        have f10 : u 10 = u 9 := hf 10 (by simp)
        have m9 : mask [0, 1, 2, 3, 4, 5, 6, 7, 8, 9, 10] u 9 = u 9 := rfl
        simp only [fl, z4, z5, z6, z7, m9, ptrBlk, tupAt20, tupAt21, tupAt30, tupAt31, tupAt32] at S ⊢
        simp only [m9, f9, f10, tupAt20, tupAt21, tupAt30, tupAt31, tupAt32]
        simp only [does]
        go_simp
        try first | exact S | exact ⟨vv, S⟩ | exact vv
      · clear hi
        refine step_of rfl rfl rfl ?_
        intro u G w hf S
        have f9 : ∃ x, u 9 = .tuple #[x, .int .i64 m, .int .i64 10] := hf 9 (by simp)
        obtain ⟨x18, f9⟩ := f9
        have f10 : u 10 = u 9 := hf 10 (by simp)
        have m9 : mask [0, 1, 2, 3, 4, 5, 6, 7, 8, 9, 10] u 9 = u 9 := rfl
        simp only [fl, z4, z5, z6, z7, m9, ptrBlk, tupAt20, tupAt21, tupAt30, tupAt31, tupAt32] at S ⊢
        simp only [m9, f9, f10, tupAt20, tupAt21, tupAt30, tupAt31, tupAt32]
        simp only [does]
        go_simp
        try first | exact S | exact ⟨vv, S⟩ | exact vv
      · clear hi
        refine step_of rfl rfl rfl ?_
        intro u G w hf S
        have f9 : ∃ x, u 9 = .tuple #[x, .int .i64 m, .int .i64 10] := hf 9 (by simp)
        obtain ⟨x18, f9⟩ := f9
        have f10 : u 10 = u 9 := hf 10 (by simp)
        have m9 : mask [0, 1, 2, 3, 4, 5, 6, 7, 8, 9, 10] u 9 = u 9 := rfl
        simp only [fl, z4, z5, z6, z7, m9, ptrBlk, tupAt20, tupAt21, tupAt30, tupAt31, tupAt32] at S ⊢
        simp only [m9, f9, f10, tupAt20, tupAt21, tupAt30, tupAt31, tupAt32]
        simp only [does]
        go_simp
        try first | exact S | exact ⟨vv, S⟩ | exact vv
      · clear hi
        refine step_of rfl rfl rfl ?_
        intro u G w hf S
        have f9 : ∃ x, u 9 = .tuple #[x, .int .i64 m, .int .i64 10] := hf 9 (by simp)
        obtain ⟨x18, f9⟩ := f9
        have f11 : u 11 = tupAt (u 9) 0 := hf 11 (by simp)
        have m9 : mask [0, 1, 2, 3, 4, 5, 6, 7, 8, 9, 10, 11] u 9 = u 9 := rfl
        simp only [fl, z4, z5, z6, z7, m9, ptrBlk, tupAt20, tupAt21, tupAt30, tupAt31, tupAt32] at S ⊢
        simp only [m9, f9, f11, tupAt20, tupAt21, tupAt30, tupAt31, tupAt32]
        simp only [does]
        go_simp
        try first | exact S | exact ⟨vv, S⟩ | exact vv
      · clear hi
        refine step_of rfl rfl rfl ?_
        intro u G w hf S
        have f9 : ∃ x, u 9 = .tuple #[x, .int .i64 m, .int .i64 10] := hf 9 (by simp)
        obtain ⟨x18, f9⟩ := f9
        have f12 : u 12 = tupAt (u 9) 1 := hf 12 (by simp)
        have m9 : mask [0, 1, 2, 3, 4, 5, 6, 7, 8, 9, 10, 11, 12, 14] u 9 = u 9 := rfl
        simp only [fl, z4, z5, z6, z7, m9, ptrBlk, tupAt20, tupAt21, tupAt30, tupAt31, tupAt32] at S ⊢
        simp only [m9, f9, f12, tupAt20, tupAt21, tupAt30, tupAt31, tupAt32]
        simp only [does]
        go_simp
        try first | exact S | exact ⟨vv, S⟩ | exact vv
      · clear hi
        refine step_of rfl rfl rfl ?_
        intro u G w hf S
        have f9 : ∃ x, u 9 = .tuple #[x, .int .i64 m, .int .i64 10] := hf 9 (by simp)
        obtain ⟨x18, f9⟩ := f9
        have f13 : u 13 = tupAt (u 9) 2 := hf 13 (by simp)
        have m9 : mask [0, 1, 2, 3, 4, 5, 6, 7, 8, 9, 10, 11, 12, 13, 14, 15] u 9 = u 9 := rfl
        simp only [fl, z4, z5, z6, z7, m9, ptrBlk, tupAt20, tupAt21, tupAt30, tupAt31, tupAt32] at S ⊢
        simp only [m9, f9, f13, tupAt20, tupAt21, tupAt30, tupAt31, tupAt32]
        simp only [does]
        go_simp
        try first | exact S | exact ⟨vv, S⟩ | exact vv
    case fin4 =>
      intro u w hf S
      have f9 : ∃ x, u 9 = .tuple #[x, .int .i64 m, .int .i64 10] := hf 9 (by simp)
      obtain ⟨x18, f9⟩ := f9
      have m10_9 : mask [0, 1, 2, 3, 4, 5, 6, 7, 8, 9] u 9 = u 9 := rfl
      have m11_9 : mask [0, 1, 2, 3, 4, 5, 6, 7, 8, 9, 10] u 9 = u 9 := rfl
      have m12_9 : mask [0, 1, 2, 3, 4, 5, 6, 7, 8, 9, 10] u 9 = u 9 := rfl
      have m13_9 : mask [0, 1, 2, 3, 4, 5, 6, 7, 8, 9, 10] u 9 = u 9 := rfl
      have m14_9 : mask [0, 1, 2, 3, 4, 5, 6, 7, 8, 9, 10, 11] u 9 = u 9 := rfl
      have m15_9 : mask [0, 1, 2, 3, 4, 5, 6, 7, 8, 9, 10, 11, 12, 14] u 9 = u 9 := rfl
      have m16_9 : mask [0, 1, 2, 3, 4, 5, 6, 7, 8, 9, 10, 11, 12, 13, 14, 15] u 9 = u 9 := rfl
      have hvA := allV hf
      simp only [AllV, RSpec.valAt, sv, Nat.zero_add, Nat.reduceAdd, m10_9, m11_9, m12_9, m13_9, m14_9, m15_9, m16_9] at hvA
      simp only [fl, z4, z5, z6, z7, m10_9, m11_9, m12_9, m13_9, m14_9, m15_9, m16_9, ptrBlk, tupAt20, tupAt21, tupAt30, tupAt31, tupAt32] at S
      clear hf
      simp only [List.length_cons, List.length_nil, Nat.zero_add, Nat.reduceAdd, List.drop_succ_cons, List.drop_zero, f9, hvA, tupAt20, tupAt21, tupAt30, tupAt31, tupAt32]
      try simp only [f9, hvA, tupAt20, tupAt21, tupAt30, tupAt31, tupAt32, ptrBlk] at S
      clear f9 hvA m10_9 m11_9 m12_9 m13_9 m14_9 m15_9 m16_9
      go_wp2_with (first | ((with_reducible refine iO _ (.load 25 _) ?_); refine step_load1 25 _ _ _ rfl (cL) _ Tryd.underlying25 rfl rfl ?_) | ((with_reducible refine iO _ (.load 3 _) ?_); refine step_load1 3 _ _ _ rfl (cL) _ Tryd.underlying3 rfl rfl ?_) | (go_at_call 85; (with_reducible refine (takeBytes_s _ _ _ _ _ bS lE lE lE).mono ?_); rintro e w1 ⟨v, rfl, T⟩; replace S := S.call T; clear T; (try simp only [z4, z5] at S)) | ((with_reducible refine iO none (.store 3 (.tmp 29) (.tmp 27)) ?_); refine step_store1 S 3 (.tmp 29) (.tmp 27) _ _ (.int _ _) rfl rfl _ _ pk kR kR rfl lN rfl ?_; clear S; intro w S; try simp only [List.setIfInBounds_toArray, List.set_cons_zero, List.set_cons_succ] at S) | fail)
      first | exact ⟨rfl, .inr ⟨hlt, rfl, S.tail⟩⟩ | exact ⟨rfl, .inr ⟨hlt, rfl, S.drop (Pick.tail (Pick.head _ _))⟩⟩
end Go.Proofs.YtfhkmmagpnojmaaDoor
