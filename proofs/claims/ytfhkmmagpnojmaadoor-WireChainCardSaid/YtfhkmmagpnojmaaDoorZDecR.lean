/- The request of some bytes: what the program's DecodeRequest returns; its closure. No condition but the reach. -/
import Derived.Test.YtfhkmmagpnojmaaDoorZBd
import Derived.Test.YtfhkmmagpnojmaaDoorZEncR
import Derived.Test.YtfhkmmagpnojmaaDoorZFun
set_option linter.unusedSimpArgs false
set_option linter.unusedVariables false
namespace Go.Proofs.YtfhkmmagpnojmaaDoor
open Go.RowKit

/-- The body that the kind of some bytes asks for; what is read as far as there are bytes. -/
def bdK (b : List UInt8) : Bdy := bdyR ⟨b.getD 2 0, decT ((b.drop 3).take 46), 0, 0, 0⟩
def rqX (b : List UInt8) : Rq := ofB (b.getD 2 0) (decT ((b.drop 3).take 46)) (rdOf b 49 (bdK b))
theorem bdK_Z (b : List UInt8) : bdyZ (bdK b) = bsz (b.getD 2 0) := by
  unfold bdK bdyR bsz
  dsimp only
  generalize b.getD 2 0 = k
  rcases kcase k with rfl | rfl | rfl | rfl | rfl | rfl | ⟨h1, h2, h3, h4, h5, h6⟩
  case inr.inr.inr.inr.inr.inr =>
    rw [if_neg (by rintro rfl; exact h1 rfl), if_neg (by rintro (rfl | rfl); exact h2 rfl; exact h3 rfl), if_neg (by rintro (rfl | rfl); exact h5 rfl; exact h6 rfl), if_neg (by rintro (rfl | rfl | rfl); exact h1 rfl; exact h2 rfl; exact h3 rfl), if_neg (by rintro (rfl | rfl); exact h5 rfl; exact h6 rfl)]
    rfl
  all_goals rfl
theorem getD_at (b : List UInt8) (i : Nat) : UInt8.ofNat (atB b i 1) = b.getD i 0 := by
  unfold atB
  by_cases h : i + 1 ≤ b.length
  · rw [if_pos h]
    have hi : i < b.length := by omega
    have e : (b.drop i).take 1 = [b[i]] := by rw [← List.getElem_cons_drop hi]; rfl
    rw [e]
    simp [val, List.getD, hi]
  · rw [if_neg h]
    have hi : ¬ i < b.length := by omega
    simp [List.getD, hi]
theorem rqX_rqP (b : List UInt8) (h : b.length = 49 + bsz (b.getD 2 0)) : rqX b = rqP b := by
  have hle := bsz_le (b.getD 2 0)
  have hm : (b.drop 49).length = bsz (b.getD 2 0) := by rw [List.length_drop]; omega
  have hat : ∀ n, bsz (b.getD 2 0) = n → atB b 49 n = val (b.drop 49) := fun n hn => by
    rw [atB_fit b 49 n (by omega), List.take_of_length_le (by omega)]
  have hg : ∀ i, (b.drop 49).getD i 0 = b.getD (49 + i) 0 := fun i => by simp [List.getD]
  have h0 := getD_at b (49 + 0)
  have h1' := getD_at b (49 + 1)
  unfold rqX rqP bdK bdyR
  rw [hg 0, hg 1, ← h0, ← h1']
  dsimp only
  clear h0 h1' hg hm h hle
  generalize b.getD 2 0 = k at *
  rcases kcase k with rfl | rfl | rfl | rfl | rfl | rfl | ⟨h1, h2, h3, h4, h5, h6⟩
  case inr.inr.inr.inr.inr.inr =>
    rw [if_neg (by rintro rfl; exact h1 rfl), if_neg (by rintro (rfl | rfl); exact h2 rfl; exact h3 rfl), if_neg (by rintro (rfl | rfl); exact h5 rfl; exact h6 rfl), if_neg (by rintro rfl; exact h1 rfl), if_neg (by rintro rfl; exact h1 rfl), if_neg (by rintro (rfl | rfl | rfl | rfl); exact h2 rfl; exact h3 rfl; exact h5 rfl; exact h6 rfl)]
    rfl
  · rfl
  · show Rq.mk _ _ 0 0 (UInt32.ofNat (atB b 49 2)) = Rq.mk _ _ 0 0 (UInt32.ofNat (val (b.drop 49)))
    rw [hat 2 rfl]
  · show Rq.mk _ _ 0 0 (UInt32.ofNat (atB b 49 2)) = Rq.mk _ _ 0 0 (UInt32.ofNat (val (b.drop 49)))
    rw [hat 2 rfl]
  · rfl
  · show Rq.mk _ _ 0 0 (UInt32.ofNat (atB b 49 4)) = Rq.mk _ _ 0 0 (UInt32.ofNat (val (b.drop 49)))
    rw [hat 4 rfl]
  · show Rq.mk _ _ 0 0 (UInt32.ofNat (atB b 49 4)) = Rq.mk _ _ 0 0 (UInt32.ofNat (val (b.drop 49)))
    rw [hat 4 rfl]
theorem rbytes_i (si : Int) (s : Nat) (hsi : si = (s : Int)) (g : Nat) (bv : Value) (b : List UInt8) (p : Nat) (w0 w1 : World) (F : List Res) (S : Has w0 w1 (rdr g bv p :: F)) (hb : Bs w0 bv b) (h8 : s ≤ 64) (hp : p ≤ b.length) (hl : b.length ≤ 140737488355328) :
    Calls Tryd.prog 63 #[.pointer (some ⟨g, 0, none⟩), .int .i64 si] w1 fun e w' =>
      (p + s ≤ b.length ∧ ∃ v, e = .returned v ∧ Has w0 w' (rdr g bv (p + s) :: row8 v ((b.drop p).take s) :: F)) ∨ (b.length < p + s ∧ e = .panicked [erl] ∧ Has w0 w' (rdr g bv p :: F)) := by
  subst hsi
  exact rbytes_s g bv b p s w0 w1 F S hb h8 hp hl
theorem rqL_setTok (k : UInt8) (t u : Tok) (p d : UInt8) (n : UInt32) : ((rqL ⟨k, t, p, d, n⟩).toArray.toList.take 1 ++ (tokL u).toArray.toList ++ (rqL ⟨k, t, p, d, n⟩).toArray.toList.drop (1 + 36)).toArray = (rqL ⟨k, u, p, d, n⟩).toArray := by
  have e1 : (rqL ⟨k, t, p, d, n⟩).toArray.toList.take 1 = [Value.int .u8 (k.toNat : Int)] := rfl
  have e2 : (rqL ⟨k, t, p, d, n⟩).toArray.toList.drop (1 + 36) = [Value.int .u8 (p.toNat : Int), .int .u8 (d.toNat : Int), .int .u32 (n.toNat : Int)] := by
    show ([Value.int .u8 (k.toNat : Int)] ++ tokL t ++ [Value.int .u8 (p.toNat : Int), .int .u8 (d.toNat : Int), .int .u32 (n.toNat : Int)]).drop (1 + 36) = _
    exact List.drop_left' (by simp [tokL_length])
  rw [e1, e2]
  rfl
theorem Has.front {w0 w : World} {l G : List Res} (S : Has w0 w (l ++ G)) : Has w0 w l :=
  ⟨S.below, fun r hr => S.holds r (List.mem_append_left _ hr), fun r hr => S.base r (List.mem_append_left _ hr), (List.pairwise_append.1 S.apart).1⟩
/-- What the closure leaves. -/
def ReadR (w0 : World) (g go : Nat) (bv : Value) (b : List UInt8) (F : List Res) (e : Ending) (w' : World) : Prop :=
  (49 + bsz (b.getD 2 0) ≤ b.length ∧ e = .returned (.tuple #[]) ∧ Has w0 w' (rdr g bv (49 + bsz (b.getD 2 0)) :: blk go (.cells (rqL (rqX b)).toArray 69 (0, 0)) :: F)) ∨
  (b.length < 49 + bsz (b.getD 2 0) ∧ e = .panicked [erl] ∧ ∃ q cs, Has w0 w' (rdr g bv q :: blk go (.cells cs 69 (0, 0)) :: F))
set_option maxRecDepth 100000 in
set_option maxHeartbeats 8000000 in
theorem decClos_s (g go : Nat) (bv : Value) (b : List UInt8) (w0 w1 : World) (F : List Res) (S : Has w0 w1 (rdr g bv 2 :: blk go (.cells (rqL ⟨0, tokZ, 0, 0, 0⟩).toArray 69 (0, 0)) :: F)) (hb : Bs w0 bv b) (h3 : 3 ≤ b.length) (hl : b.length ≤ 140737488355328) :
    Calls Tryd.prog 60 #[.pointer (some ⟨g, 0, none⟩), .pointer (some ⟨go, 0, none⟩)] w1 (ReadR w0 g go bv b F) := by
  have p1 := fun w F S => ruint_i 1 1 rfl g bv b 2 w0 w F S hb (by decide) (by decide) (by omega) hl
  have p2 := fun w F S => rbytes_i 46 46 rfl g bv b 3 w0 w F S hb (by decide) (by omega) hl
  have e1 : (atB b 2 1 : Int) % 256 = ((b.getD 2 0).toNat : Int) := by rw [← IntKind.wrap_u8, wrap8 _ (atB_lt b 2 1), getD_at]
  obtain ⟨k, hk⟩ : ∃ k, k = b.getD 2 0 := ⟨_, rfl⟩
  obtain ⟨T46, hT⟩ : ∃ T, T = (b.drop 3).take 46 := ⟨_, rfl⟩
  have p3 := fun v w h => dec_s v T46 w h
  have hX : rqX b = ofB k (decT T46) (rdOf b 49 (bdK b)) := by unfold rqX; rw [← hk, ← hT]
  have hZ := bdK_Z b
  have hKd : bdK b = bdyR ⟨k, decT T46, 0, 0, 0⟩ := by unfold bdK; rw [← hk, ← hT]
  rw [← hk] at e1 hZ
  rw [← hT] at p2
  obtain ⟨tok, htok⟩ : ∃ t, t = decT T46 := ⟨_, rfl⟩
  rw [← htok] at p3 hX hKd
  have p4 := fun w => requestBody_s ⟨k, tok, 0, 0, 0⟩ w
  rw [← hKd] at p4
  obtain ⟨B, hB⟩ : ∃ B, B = bdK b := ⟨_, rfl⟩
  rw [← hB] at p4 hX hZ
  have p5 := fun w F S h => bdyRead_s B g bv b 49 w0 w F S hb h hl
  have p6 := fun w => requestOf_s k tok (rdOf b 49 B) w
  rw [← hX] at p6
  obtain ⟨X, hXe⟩ : ∃ X, X = rqX b := ⟨_, rfl⟩
  rw [← hXe] at p6
  unfold ReadR
  rw [← hk, ← hXe, ← hZ]
  have P1 := Lib.hid p1; have P2 := Lib.hid p2; have P3 := Lib.hid p3; have P4 := Lib.hid p4; have P5 := Lib.hid p5; have P6 := Lib.hid p6; have E1 := Lib.hid e1; clear p1 p2 p3 p4 p5 p6 e1
  clear hk hT hX hZ hKd htok hB hXe hb
  go_enter Tryd.func60, Tryd.ntmps60
  go_wp2_with (first | (go_at_call 61; (with_reducible refine (P1.out _ _ S).mono ?_); rintro e w1 (⟨hf, rfl, S1⟩ | ⟨hf, rfl, S1⟩); rotate_left; exact (by omega : False).elim; clear S; have S := S1; clear S1) | ((with_reducible refine iO none (.store 5 (.tmp 6) (.tmp 5)) ?_); refine step_store1 S 5 (.tmp 6) (.tmp 5) go 0 (by8 k) rfl (show Value.int .u8 _ = Value.int .u8 _ by rw [E1.out]) _ _ pk kR rfl rfl (by rw [rqL_size]; decide) gw ?_; clear S; intro w S; rw [rqL_set0] at S) | (go_at_call 63; (with_reducible refine (P2.out _ _ (S.pick (r := rdr g bv 3) pk)).mono ?_); rintro e w1 (⟨hf2, v9, rfl, S1⟩ | ⟨hf2, rfl, S1⟩); rotate_left; exact ⟨rfl, .inr ⟨by omega, rfl, _, _, S1⟩⟩; clear S; have S := S1; clear S1) | ((with_reducible refine iO none (.store 67 (.tmp 13) (.tmp 11)) ?_); refine step_storeP S 67 (.tmp 13) (.tmp 11) go 1 (tokL tok).toArray rfl rfl _ _ pk 36 kR (tokL_size _) (by rw [rqL_size]; decide) (tokL_one _) _ (rqL_setTok ..) gw ?_; clear S; intro w S) | ((with_reducible refine iO none (.store 5 (.tmp 6) (.tmp 5)) ?_); first | (refine step_store1 S 5 (.tmp 6) (.tmp 5) _ _ (.int _ _) rfl rfl _ _ pk kR rfl rfl lN rfl ?_; clear S; intro w S; try simp only [List.setIfInBounds_toArray, List.set_cons_zero, List.set_cons_succ] at S) | (refine step_storeR S 5 (.tmp 6) (.tmp 5) _ _ (.int _ _) rfl rfl _ _ _ _ pk lE kR rfl rfl rfl ?_; clear S; intro w S) | (refine step_storeS S 5 (.tmp 6) (.tmp 5) _ _ (.int _ _) rfl rfl _ _ _ _ _ pk lE kR rfl rfl rfl ?_; clear S; intro w S)) | (go_at_call 62; (with_reducible refine (P3.out _ _ (S.bs (xs := T46) pk)).mono ?_); rintro e w1 ⟨rfl, T⟩; replace S := S.call T; clear T; (try simp only [z4, z5] at S)) | ((with_reducible refine iO none (.store 67 (.tmp 13) (.tmp 11)) ?_); refine step_store S 67 (.tmp 13) (.tmp 11) _ _ rfl rfl _ _ pk 36 kR lN lN on1 rfl ?_; clear S; intro w S) | ((with_reducible refine iO _ (.load 5 _) ?_); refine step_load1 5 _ _ _ rfl (cL) _ Tryd.underlying5 rfl rfl ?_) | ((with_reducible refine iO _ (.load 67 _) ?_); first | (refine step_loadR 67 _ _ _ rfl _ (S.old_range hy) _ Tryd.underlying67 rfl 36 kR lN _ rfl rfl ?_) | (refine step_loadP S 67 _ _ _ rfl _ _ _ pk 36 _ pT lN _ Tryd.underlying67 rfl kR rfl ?_)) | ((with_reducible refine iO _ (.load 69 _) ?_); first | (refine step_load S 69 _ _ rfl _ _ _ pk _ Tryd.underlying69 rfl 40 kR lN rfl ?_) | (refine step_loadO 69 _ _ rfl _ _ _ (S.old_heap (Hid.out (by assumption))) _ Tryd.underlying69 rfl 40 kR lN rfl ?_) | (refine step_loadR 69 _ _ _ rfl _ (S.old_range hy) _ Tryd.underlying69 rfl 40 kR lN _ rfl rfl ?_)) | ((with_reducible refine iO none (.store 69 (.tmp 1) (.tmp 22)) ?_); refine step_store S 69 (.tmp 1) (.tmp 22) _ _ rfl rfl _ _ pk 40 kR lN lN on1 rfl ?_; clear S; intro w S) | fail)
  replace S : Has w0 w (blk go (.cells (rqL ⟨k, tok, 0, 0, 0⟩).toArray 69 (0, 0)) :: rdr g bv 49 :: row8 v9 T46 :: F) := S
  refine wp_relyBW (Bad := fun c w' => b.length < 49 + bdyZ B ∧ c = [erl] ∧ ∃ q cs, Has w0 w' (rdr g bv q :: blk go (.cells cs 69 (0, 0)) :: F)) (e1 := noRes) 7 ?hbad1 (S.pick (r := rdr g bv 49) pk) [⟨[], [], [], fun _ v => v = .pointer (some ⟨go, 0, none⟩), fun _ v => []⟩, ⟨[0], [], [], fun _ v => v = by8 k, fun _ v => []⟩, ⟨[], [], [], fun _ v => v = .pointer (some ⟨go, 1, none⟩), fun _ v => []⟩, ⟨[2], [], [], fun _ v => v = .agg (tokL tok).toArray, fun _ v => []⟩, ⟨[], [], [], fun _ v => v = .agg (rqL ⟨k, tok, 0, 0, 0⟩).toArray, fun _ v => []⟩, ⟨[4], [], [], fun _ v => v = bdyV B, fun _ v => []⟩, ⟨[], [], [], fun _ v => v = (.pointer (some ⟨g, 0, none⟩)), fun _ v => []⟩, ⟨[4, 5, 6], [], [], fun _ v => 49 + bdyZ B ≤ b.length ∧ v = bdyV (rdOf b 49 B), fun _ v => [rdr g bv (49 + bdyZ B)]⟩, ⟨[0, 1, 2, 3, 4, 5, 6, 7], [], [], fun _ v => v = .agg (rqL X).toArray, fun _ v => []⟩] ?A1 ?hA1 kR kR kR [0, 1, 2, 3, 4, 5, 6, 7, 8] kR (of_decide_eq_true rfl) ?hok1 ?fin1
  case hA1 => intro u; simp only [putAll, List.length_cons, List.length_nil, Nat.zero_add, Nat.reduceAdd, dstAt, List.getElem?_toArray, List.getElem?_cons_zero, List.getElem?_cons_succ, Option.bind_some, Act.put, List.setIfInBounds_toArray, List.set_cons_zero, List.set_cons_succ]; rfl
  case hbad1 => intro c a2 w2 hd hb; obtain ⟨hlt, rfl, q, cs, hS⟩ := hb; exact ⟨hd, .inr ⟨hlt, rfl, q, cs, hS⟩⟩
  case hok1 =>
    intro i hi
    obtain rfl | rfl | rfl | rfl | rfl | rfl | rfl | rfl | rfl : i = 0 ∨ i = 1 ∨ i = 2 ∨ i = 3 ∨ i = 4 ∨ i = 5 ∨ i = 6 ∨ i = 7 ∨ i = 8 := by simp only [List.length_cons, List.length_nil, Nat.zero_add, Nat.reduceAdd] at hi; omega
    · clear hi
      rw [if_neg (by decide)]; intro r0
      refine step_ofB rfl rfl rfl ?_
      intro u G w hf S
      simp only [resOf, spec, RSpec.resAt, z0, z1, z2, z3, z4, z5, z6, z7, ptrBlk] at S ⊢
      refine does.bad ?_
      simp only [does]
      go_simp
      try first | exact S | exact ⟨vv, S⟩ | exact vv
    · clear hi
      rw [if_neg (by decide)]; intro r0
      refine step_ofB rfl rfl rfl ?_
      intro u G w hf S
      have f0 : u 0 = .pointer (some ⟨go, 0, none⟩) := hf 0 (by simp)
      simp only [resOf, spec, RSpec.resAt, z0, z1, z2, z3, z4, z5, z6, z7, ptrBlk] at S ⊢
      simp only [f0]
      refine does.bad ?_
      refine does_load1 5 (.tmp 14) _ _ rfl (S.cell (g := go) pk co) _ Tryd.underlying5 rfl ?_; exact ⟨rfl, S⟩
    · clear hi
      rw [if_neg (by decide)]; intro r0
      refine step_ofB rfl rfl rfl ?_
      intro u G w hf S
      simp only [resOf, spec, RSpec.resAt, z0, z1, z2, z3, z4, z5, z6, z7, ptrBlk] at S ⊢
      refine does.bad ?_
      simp only [does]
      go_simp
      try first | exact S | exact ⟨vv, S⟩ | exact vv
    · clear hi
      rw [if_neg (by decide)]; intro r0
      refine step_ofB rfl rfl rfl ?_
      intro u G w hf S
      have f2 : u 2 = .pointer (some ⟨go, 1, none⟩) := hf 2 (by simp)
      simp only [resOf, spec, RSpec.resAt, z0, z1, z2, z3, z4, z5, z6, z7, ptrBlk] at S ⊢
      simp only [f2]
      refine does.bad ?_
      refine does_loadP S 67 (.tmp 16) _ _ rfl _ _ _ pk 36 _ pT lN _ Tryd.underlying67 rfl kR ?_; exact ⟨rfl, S⟩
    · clear hi
      rw [if_neg (by decide)]; intro r0
      refine step_ofB rfl rfl rfl ?_
      intro u G w hf S
      simp only [resOf, spec, RSpec.resAt, z0, z1, z2, z3, z4, z5, z6, z7, ptrBlk] at S ⊢
      refine does.bad ?_
      refine does_load 69 (.tmp 1) go rfl _ _ _ (S.get (r := blk go _) pk) _ Tryd.underlying69 rfl 40 kR lN ?_; exact ⟨rfl, S⟩
    · clear hi
      rw [if_neg (by decide)]; intro r0
      refine step_ofB rfl rfl rfl ?_
      intro u G w hf S
      have f4 : u 4 = .agg (rqL ⟨k, tok, 0, 0, 0⟩).toArray := hf 4 (by simp)
      simp only [resOf, spec, RSpec.resAt, z0, z1, z2, z3, z4, z5, z6, z7, ptrBlk] at S ⊢
      simp only [f4]
      refine does.bad ?_
      refine does_fn (args := [(.agg (rqL ⟨k, tok, 0, 0, 0⟩).toArray)]) Tryd.func57 kR kR (P4.out w) rfl ?_
      rintro e w1 ⟨rfl, T⟩
      exact ⟨_, rfl, rfl, S.call T⟩
    · clear hi
      rw [if_neg (by decide)]; intro r0
      refine step_ofB rfl rfl rfl ?_
      intro u G w hf S
      simp only [resOf, spec, RSpec.resAt, z0, z1, z2, z3, z4, z5, z6, z7, ptrBlk] at S ⊢
      refine does.bad ?_
      simp only [does]
      go_simp
      try first | exact S | exact ⟨vv, S⟩ | exact vv
    · clear hi
      rw [if_pos rfl]
      refine step_ofB rfl rfl rfl ?_
      intro u G w hf S
      have f5 : u 5 = bdyV B := hf 5 (by simp)
      have f6 : u 6 = (.pointer (some ⟨g, 0, none⟩)) := hf 6 (by simp)
      simp only [resOf, spec, RSpec.resAt, z0, z1, z2, z3, z4, z5, z6, z7, ptrBlk] at S ⊢
      simp only [f5, f6]
      obtain ⟨f, rv, hr, hc⟩ := P5.out w _ S hf2; refine doesB_inv (.tmp 19) "dunnage/wire.read" [.tmp 20] _ _ [.pointer (some ⟨g, 0, none⟩)] f _ rfl rfl hr hc ?_; rintro e w1 (⟨h1, rfl, S1⟩ | ⟨h1, rfl, q, S1⟩)
      · exact .inl ⟨_, rfl, ⟨h1, rfl⟩, S1.taken1⟩
      · exact .inr ⟨_, rfl, h1, rfl, q, _, (Has.front (l := rdr g bv q :: blk go _ :: row8 v9 T46 :: F) (G := G) S1).drop (Pick.tail (Pick.tail (Pick.head _ _)))⟩
    · clear hi
      rw [if_neg (by decide)]; intro r0
      refine step_ofB rfl rfl rfl ?_
      intro u G w hf S
      have f1 : u 1 = by8 k := hf 1 (by simp)
      have f3 : u 3 = .agg (tokL tok).toArray := hf 3 (by simp)
      have f7 : 49 + bdyZ B ≤ b.length ∧ u 7 = bdyV (rdOf b 49 B) := hf 7 (by simp)
      obtain ⟨q7, f7⟩ := f7
      simp only [resOf, spec, RSpec.resAt, z0, z1, z2, z3, z4, z5, z6, z7, ptrBlk] at S ⊢
      simp only [f1, f3, f7]
      refine does.bad ?_
      refine does_fn (args := [(by8 k), (.agg (tokL tok).toArray), (bdyV (rdOf b 49 B))]) Tryd.func64 kR kR (P6.out w) rfl ?_
      rintro e w1 ⟨rfl, T⟩
      exact ⟨_, rfl, rfl, S.call T⟩
  case fin1 =>
    intro u w hf S
    have f0 : u 0 = .pointer (some ⟨go, 0, none⟩) := hf 0 (by simp)
    have f1 : u 1 = by8 k := hf 1 (by simp)
    have f2 : u 2 = .pointer (some ⟨go, 1, none⟩) := hf 2 (by simp)
    have f3 : u 3 = .agg (tokL tok).toArray := hf 3 (by simp)
    have f4 : u 4 = .agg (rqL ⟨k, tok, 0, 0, 0⟩).toArray := hf 4 (by simp)
    have f5 : u 5 = bdyV B := hf 5 (by simp)
    have f6 : u 6 = (.pointer (some ⟨g, 0, none⟩)) := hf 6 (by simp)
    have f7 : 49 + bdyZ B ≤ b.length ∧ u 7 = bdyV (rdOf b 49 B) := hf 7 (by simp)
    obtain ⟨q7, f7⟩ := f7
    have f8 : u 8 = .agg (rqL X).toArray := hf 8 (by simp)
    simp only [resOf, spec, RSpec.resAt, z0, z1, z2, z3, z4, z5, z6, z7, ptrBlk] at S
    clear hf
    simp only [List.length_cons, List.length_nil, Nat.zero_add, Nat.reduceAdd, List.drop_succ_cons, List.drop_zero, f0, f1, f2, f3, f4, f5, f6, f7, f8]
    try simp only [f0, f1, f2, f3, f4, f5, f6, f7, f8, ptrBlk] at S
    clear f0 f1 f2 f3 f4 f5 f6 f7 f8
    go_wp2_with (first | ((with_reducible refine iO none (.store 5 (.tmp 6) (.tmp 5)) ?_); first | (refine step_store1 S 5 (.tmp 6) (.tmp 5) _ _ (.int _ _) rfl rfl _ _ pk kR rfl rfl lN rfl ?_; clear S; intro w S; try simp only [List.setIfInBounds_toArray, List.set_cons_zero, List.set_cons_succ] at S) | (refine step_storeR S 5 (.tmp 6) (.tmp 5) _ _ (.int _ _) rfl rfl _ _ _ _ pk lE kR rfl rfl rfl ?_; clear S; intro w S) | (refine step_storeS S 5 (.tmp 6) (.tmp 5) _ _ (.int _ _) rfl rfl _ _ _ _ _ pk lE kR rfl rfl rfl ?_; clear S; intro w S)) | ((with_reducible refine iO none (.store 67 (.tmp 13) (.tmp 11)) ?_); refine step_store S 67 (.tmp 13) (.tmp 11) _ _ rfl rfl _ _ pk 36 kR lN lN on1 rfl ?_; clear S; intro w S) | ((with_reducible refine iO _ (.load 5 _) ?_); refine step_load1 5 _ _ _ rfl (cL) _ Tryd.underlying5 rfl rfl ?_) | ((with_reducible refine iO _ (.load 67 _) ?_); first | (refine step_loadR 67 _ _ _ rfl _ (S.old_range hy) _ Tryd.underlying67 rfl 36 kR lN _ rfl rfl ?_) | (refine step_loadP S 67 _ _ _ rfl _ _ _ pk 36 _ pT lN _ Tryd.underlying67 rfl kR rfl ?_)) | ((with_reducible refine iO _ (.load 69 _) ?_); first | (refine step_load S 69 _ _ rfl _ _ _ pk _ Tryd.underlying69 rfl 40 kR lN rfl ?_) | (refine step_loadO 69 _ _ rfl _ _ _ (S.old_heap (Hid.out (by assumption))) _ Tryd.underlying69 rfl 40 kR lN rfl ?_) | (refine step_loadR 69 _ _ _ rfl _ (S.old_range hy) _ Tryd.underlying69 rfl 40 kR lN _ rfl rfl ?_)) | ((with_reducible refine iO none (.store 69 (.tmp 1) (.tmp 22)) ?_); refine step_store S 69 (.tmp 1) (.tmp 22) _ _ rfl rfl _ _ pk 40 kR lN lN on1 rfl ?_; clear S; intro w S) | fail)
    go_end0
    exact .inl ⟨q7, rfl, ((S.drop (Pick.tail (Pick.tail (Pick.head _ _)))).drop (Pick.tail (Pick.tail (Pick.head _ _)))).perm (List.Perm.swap _ _ _)⟩
end Go.Proofs.YtfhkmmagpnojmaaDoor
