/- The link of a record after a previous link: the program's Link. No condition but the table of constants and the reach. -/
import Derived.Test.YtfhkmmagpnojmaaDoorZBd
import Derived.Test.YtfhkmmagpnojmaaDoorZRcV
import Derived.Test.YtfhkmmagpnojmaaDoorZBdy
set_option linter.unusedSimpArgs false
set_option linter.unusedVariables false
namespace Go.Proofs.YtfhkmmagpnojmaaDoor
open Go.RowKit

/-- The bytes that a link is the sum of. -/
def lnkB (prev : List UInt8) (t : UInt64) (k : UInt8) (c : I64) (b : List UInt8) : List UInt8 := ((prev ++ numB t.toNat 8) ++ numB k.toNat 1) ++ numB c.v.toNat 2 ++ sumD b
def lnkD (prev : List UInt8) (t : UInt64) (k : UInt8) (c : I64) (b : List UInt8) : List UInt8 := sumD (lnkB prev t k c b)
/-- Whether a tick, a kind and a code are those of a valid record. -/
def lkV (t : UInt64) (k : UInt8) (c : I64) : Bool := rcdV ⟨t, k, c, zs32, rfl⟩
def lnkE (t : UInt64) (k : UInt8) (c : I64) (n : Nat) : Int := if lkV t k c = false then 2 else if 64 < n then 4 else 0
def lnkR (prev : List UInt8) (t : UInt64) (k : UInt8) (c : I64) (b : List UInt8) : List UInt8 := if lnkE t k c b.length = 0 then lnkD prev t k c b else zs32
theorem lnkR_length (prev : List UInt8) (t : UInt64) (k : UInt8) (c : I64) (b : List UInt8) : (lnkR prev t k c b).length = 32 := by
  unfold lnkR
  split
  · exact sumD_length _
  · rfl
theorem sum_go (v : Value) (xs : List UInt8) (w : World) (h : xs.length ≤ 8192) (hv : Bs w v xs) (hK : KT w) :
    Calls Tryd.prog 42 #[v] w fun e w' => e = .returned (.tuple #[.agg (arr8 (sumD xs)), .int .i64 0]) ∧ Has w w' [] := by
  have := sum_s v xs w hv hK
  rwa [smD_eq xs h, show smE xs.length = 0 from if_pos h] at this
theorem build_wr (a : Option Addr) (n c : Nat) (w : World) : (Instr.build 104 #[(0, .slice a n c)]).run Tryd.prog w = .ok (.agg #[.slice a n c]) w := by kernel_rfl
set_option maxRecDepth 100000 in
set_option maxHeartbeats 8000000 in
theorem link_s (prev : List UInt8) (t : UInt64) (k : UInt8) (c : I64) (bv : Value) (b : List UInt8) (w0 : World) (hp : prev.length = 32) (hb : Bs w0 bv b) (hK : KT w0) (hl : b.length ≤ 140737488351232) :
    Calls Tryd.prog 16 #[.agg (arr8 prev), .int .u64 (t.toNat : Int), by8 k, .int .i64 c.v, bv] w0 fun e w' => e = .returned (.tuple #[.agg (arr8 (lnkR prev t k c b)), .int .i64 (lnkE t k c b.length)]) ∧ Has w0 w' [] := by
  have S := Has.start w0
  obtain ⟨a0, c0, rfl, k1, k2⟩ := Sl.shape hb
  unfold maxLen at k2
  have pv := fun w => validRecord_s ⟨t, k, c, zs32, rfl⟩ w
  rw [show rcdV ⟨t, k, c, zs32, rfl⟩ = lkV t k c from rfl] at pv
  cases hv : lkV t k c
  · have hE : lnkE t k c b.length = 2 := if_pos hv
    have hR : lnkR prev t k c b = zs32 := if_neg (by rw [hE]; decide)
    rw [hE, hR]
    rw [hv] at pv
    have PV := Lib.hid pv; have HB := Lib.hid hb; have HK := Lib.hid hK; have HP := Lib.hid hp; clear pv hb hK hp
    clear hE hR hv
    go_enter Tryd.func16, Tryd.ntmps16
    go_wp2_with (first | ((with_reducible refine iD 18 (.build 50 _) ?_); refine step_buildRc3 (.tmp 15) (.tmp 16) (.tmp 17) t k c rfl rfl rfl gw ?_) | ((with_reducible refine iD 5 (.box 22 (.tmp 0)) ?_); refine step_boxA (dst := some 5) S 22 (.tmp 0) _ rfl rfl ?_; clear S; intro g5 w S) | ((with_reducible refine iD 10 (.alloc 22) ?_); refine step_alloc (dst := some 10) S 22 (.agg (arr8 (List.replicate 32 0))) (arr8 (List.replicate 32 0)) kR rfl rfl ?_; clear S; intro g10 w S) | (go_at_call 46; (with_reducible refine (PV.out _).mono ?_); rintro e w1 ⟨rfl, T⟩; replace S := S.call T; clear T; (try simp only [z4, z5] at S)) | ((with_reducible refine iD 21 (.build 22 _) ?_); refine step_buildZ 22 (.agg (arr8 (List.replicate 32 0))) (fun w => by kernel_rfl) rfl ?_) | ((with_reducible refine iO none (.store 22 (.tmp 10) (.tmp 21)) ?_); refine step_store S 22 (.tmp 10) (.tmp 21) _ _ rfl rfl _ _ pk 32 kR lN lN on1 rfl ?_; clear S; intro w S) | ((with_reducible refine iD 25 (.build 22 _) ?_); refine step_buildZ 22 (.agg (arr8 (List.replicate 32 0))) (fun w => by kernel_rfl) rfl ?_) | ((with_reducible refine iO none (.store 22 (.tmp 10) (.tmp 25)) ?_); refine step_store S 22 (.tmp 10) (.tmp 25) _ _ rfl rfl _ _ pk 32 kR lN lN on1 rfl ?_; clear S; intro w S) | (go_at_call 42; (with_reducible refine (sum_s _ _ _ bS kT).mono ?_); rintro e w1 ⟨rfl, T⟩; replace S := S.call T; clear T; (try simp only [z4, z5] at S)) | ((with_reducible refine iD 12 (.alloc 22) ?_); refine step_alloc (dst := some 12) S 22 (.agg (arr8 (List.replicate 32 0))) (arr8 (List.replicate 32 0)) kR rfl rfl ?_; clear S; intro g12 w S) | ((with_reducible refine iO none (.store 22 (.tmp 12) (.tmp 29)) ?_); refine step_store S 22 (.tmp 12) (.tmp 29) _ _ rfl rfl _ _ pk 32 kR lN lN on1 rfl ?_; clear S; intro w S) | ((with_reducible refine iD 33 (.build 22 _) ?_); refine step_buildZ 22 (.agg (arr8 (List.replicate 32 0))) (fun w => by kernel_rfl) rfl ?_) | ((with_reducible refine iO none (.store 22 (.tmp 10) (.tmp 33)) ?_); refine step_store S 22 (.tmp 10) (.tmp 33) _ _ rfl rfl _ _ pk 32 kR lN lN on1 rfl ?_; clear S; intro w S) | ((with_reducible refine iD 38 (.box 104 (.tmp 37)) ?_); refine step_boxA (dst := some 38) S 104 (.tmp 37) _ rfl rfl ?_; clear S; intro g38 w S) | ((with_reducible refine iO _ (.load 25 _) ?_); refine step_load1 25 _ _ _ rfl (cL) _ Tryd.underlying25 rfl rfl ?_) | (at_builtin; refine step_append8 S (.tmp 53) (.tmp 54) _ _ rfl pk _ _ rfl bS lE rfl ?_; clear S; intro v55 w S; (try simp only [z4] at S)) | ((with_reducible refine iO none (.store 22 (.tmp 10) (.tmp 57)) ?_); refine step_store S 22 (.tmp 10) (.tmp 57) _ _ rfl rfl _ _ pk 32 kR lN lN on1 rfl ?_; clear S; intro w S) | fail)
    refine ret_row_tmp rfl g10 22 _ (S.get pk) _ Tryd.underlying22 32 kR lN rfl rfl rfl ?_
    exact ⟨rfl, S.nil⟩
  rw [hv] at pv
  by_cases h64 : 64 < b.length
  · have hE : lnkE t k c b.length = 4 := by unfold lnkE; rw [hv]; exact if_pos h64
    have hR : lnkR prev t k c b = zs32 := if_neg (by rw [hE]; decide)
    rw [hE, hR]
    have i1 : 64 < (b.length : Int) := by omega
    have PV := Lib.hid pv; have HB := Lib.hid hb; have HK := Lib.hid hK; have HP := Lib.hid hp; clear pv hb hK hp
    clear hE hR hv
    go_enter Tryd.func16, Tryd.ntmps16
    go_wp2_with (first | ((with_reducible refine iD 18 (.build 50 _) ?_); refine step_buildRc3 (.tmp 15) (.tmp 16) (.tmp 17) t k c rfl rfl rfl gw ?_) | ((with_reducible refine iD 5 (.box 22 (.tmp 0)) ?_); refine step_boxA (dst := some 5) S 22 (.tmp 0) _ rfl rfl ?_; clear S; intro g5 w S) | ((with_reducible refine iD 10 (.alloc 22) ?_); refine step_alloc (dst := some 10) S 22 (.agg (arr8 (List.replicate 32 0))) (arr8 (List.replicate 32 0)) kR rfl rfl ?_; clear S; intro g10 w S) | (go_at_call 46; (with_reducible refine (PV.out _).mono ?_); rintro e w1 ⟨rfl, T⟩; replace S := S.call T; clear T; (try simp only [z4, z5] at S)) | ((with_reducible refine iD 21 (.build 22 _) ?_); refine step_buildZ 22 (.agg (arr8 (List.replicate 32 0))) (fun w => by kernel_rfl) rfl ?_) | ((with_reducible refine iO none (.store 22 (.tmp 10) (.tmp 21)) ?_); refine step_store S 22 (.tmp 10) (.tmp 21) _ _ rfl rfl _ _ pk 32 kR lN lN on1 rfl ?_; clear S; intro w S) | ((with_reducible refine iD 25 (.build 22 _) ?_); refine step_buildZ 22 (.agg (arr8 (List.replicate 32 0))) (fun w => by kernel_rfl) rfl ?_) | ((with_reducible refine iO none (.store 22 (.tmp 10) (.tmp 25)) ?_); refine step_store S 22 (.tmp 10) (.tmp 25) _ _ rfl rfl _ _ pk 32 kR lN lN on1 rfl ?_; clear S; intro w S) | (go_at_call 42; (with_reducible refine (sum_s _ _ _ bS kT).mono ?_); rintro e w1 ⟨rfl, T⟩; replace S := S.call T; clear T; (try simp only [z4, z5] at S)) | ((with_reducible refine iD 12 (.alloc 22) ?_); refine step_alloc (dst := some 12) S 22 (.agg (arr8 (List.replicate 32 0))) (arr8 (List.replicate 32 0)) kR rfl rfl ?_; clear S; intro g12 w S) | ((with_reducible refine iO none (.store 22 (.tmp 12) (.tmp 29)) ?_); refine step_store S 22 (.tmp 12) (.tmp 29) _ _ rfl rfl _ _ pk 32 kR lN lN on1 rfl ?_; clear S; intro w S) | ((with_reducible refine iD 33 (.build 22 _) ?_); refine step_buildZ 22 (.agg (arr8 (List.replicate 32 0))) (fun w => by kernel_rfl) rfl ?_) | ((with_reducible refine iO none (.store 22 (.tmp 10) (.tmp 33)) ?_); refine step_store S 22 (.tmp 10) (.tmp 33) _ _ rfl rfl _ _ pk 32 kR lN lN on1 rfl ?_; clear S; intro w S) | ((with_reducible refine iD 38 (.box 104 (.tmp 37)) ?_); refine step_boxA (dst := some 38) S 104 (.tmp 37) _ rfl rfl ?_; clear S; intro g38 w S) | ((with_reducible refine iO _ (.load 25 _) ?_); refine step_load1 25 _ _ _ rfl (cL) _ Tryd.underlying25 rfl rfl ?_) | (at_builtin; refine step_append8 S (.tmp 53) (.tmp 54) _ _ rfl pk _ _ rfl bS lE rfl ?_; clear S; intro v55 w S; (try simp only [z4] at S)) | ((with_reducible refine iO none (.store 22 (.tmp 10) (.tmp 57)) ?_); refine step_store S 22 (.tmp 10) (.tmp 57) _ _ rfl rfl _ _ pk 32 kR lN lN on1 rfl ?_; clear S; intro w S) | fail)
    refine ret_row_tmp rfl g10 22 _ (S.get pk) _ Tryd.underlying22 32 kR lN rfl rfl rfl ?_
    exact ⟨rfl, S.nil⟩
  have hE : lnkE t k c b.length = 0 := by unfold lnkE; rw [hv]; exact if_neg h64
  have hR : lnkR prev t k c b = lnkD prev t k c b := if_pos hE
  rw [hE, hR]
  have i1 : ¬ 64 < (b.length : Int) := by omega
  have hcv : 0 ≤ c.v ∧ c.v ≤ 65535 := by
    have : decide (t.toNat ≤ 4611686018427387904 ∧ k.toNat ≤ 6 ∧ 0 ≤ c.v ∧ c.v ≤ 65535) = true := hv
    exact (of_decide_eq_true this).2.2
  obtain ⟨hc0, hc1⟩ := hcv
  have ht := t.toNat_lt
  have hk := k.toNat_lt
  have pcl := fun v w h => clone8_s v prev w h (by omega)
  have ps := fun v w h1 h2 => sum_go v b w (by omega) h1 h2
  obtain ⟨D1, hD1⟩ : ∃ D, D = sumD b := ⟨_, rfl⟩
  have hD1l : D1.length = 32 := by rw [hD1]; exact sumD_length _
  have hbw := build_wr
  have p1 := fun g v w F S => wuint_i (t.toNat : Int) t.toNat rfl 8 8 rfl g v prev w0 w F S (by omega) (by decide) (by omega)
  have l1 : (prev ++ numB t.toNat 8).length = 40 := by simp [numB_length, hp]
  obtain ⟨X1, hX1⟩ : ∃ X, X = prev ++ numB t.toNat 8 := ⟨_, rfl⟩
  rw [← hX1] at p1 l1
  have p2 := fun g v w F S => wuint_i (k.toNat : Int) k.toNat rfl 1 1 rfl g v X1 w0 w F S (by omega) (by decide) (by omega)
  have l2 : (X1 ++ numB k.toNat 1).length = 41 := by simp [numB_length, l1]
  obtain ⟨X2, hX2⟩ : ∃ X, X = X1 ++ numB k.toNat 1 := ⟨_, rfl⟩
  rw [← hX2] at p2 l2
  have p3 := fun g v w F S => wuint_i c.v c.v.toNat (by omega) 2 2 rfl g v X2 w0 w F S (by omega) (by decide) (by omega)
  have l3 : (X2 ++ numB c.v.toNat 2).length = 43 := by simp [numB_length, l2]
  obtain ⟨X3, hX3⟩ : ∃ X, X = X2 ++ numB c.v.toNat 2 := ⟨_, rfl⟩
  rw [← hX3] at p3 l3
  have hL : lnkB prev t k c b = X3 ++ D1 := by unfold lnkB; rw [← hX1, ← hX2, ← hX3, ← hD1]
  have h4 : X3.length + D1.length ≤ 140737488355328 := by omega
  have p4 := fun v w h1 h2 => sum_go v (X3 ++ D1) w (by rw [List.length_append]; omega) h1 h2
  obtain ⟨D2, hD2⟩ : ∃ D, D = sumD (X3 ++ D1) := ⟨_, rfl⟩
  have hLD : lnkD prev t k c b = D2 := by unfold lnkD; rw [hL, hD2]
  have hD2l : D2.length = 32 := by rw [hD2]; exact sumD_length _
  rw [← hD1] at ps
  rw [← hD2] at p4
  rw [hLD]
  have PV := Lib.hid pv; have HB := Lib.hid hb; have HK := Lib.hid hK; have HP := Lib.hid hp; have PCL := Lib.hid pcl; have PS := Lib.hid ps; have P1 := Lib.hid p1; have P2 := Lib.hid p2; have P3 := Lib.hid p3; have P4 := Lib.hid p4; have H4 := Lib.hid h4; have HD1L := Lib.hid hD1l; have HD2L := Lib.hid hD2l; clear pv hb hK hp pcl ps p1 p2 p3 p4 h4 hD1l hD2l
  clear hE hR hv hX1 hX2 hX3 hL hLD hD1 hD2 l1 l2 l3
  go_enter Tryd.func16, Tryd.ntmps16
  go_wp2_with (first | ((with_reducible refine iD 18 (.build 50 _) ?_); refine step_buildRc3 (.tmp 15) (.tmp 16) (.tmp 17) t k c rfl rfl rfl gw ?_) | (go_at_call 48; (with_reducible refine (P1.out g38 (.slice a36 prev.length c36) _ _ (S.pick2 (r := wrt g38 _) (s := row8 _ prev) pk pk)).mono ?_); rintro e w1 ⟨rfl, v1, S1⟩; clear S; have S := S1; clear S1; have _t := P1; clear P1) | (go_at_call 48; (with_reducible refine (P2.out g38 v1 _ _ S).mono ?_); rintro e w1 ⟨rfl, v2, S1⟩; clear S; have S := S1; clear S1; have _t2 := P2; clear P2) | (go_at_call 48; (with_reducible refine (P3.out g38 v2 _ _ S).mono ?_); rintro e w1 ⟨rfl, v3, S1⟩; clear S; have S := S1; clear S1) | ((with_reducible refine iD 5 (.box 22 (.tmp 0)) ?_); refine step_boxA (dst := some 5) S 22 (.tmp 0) _ rfl rfl ?_; clear S; intro g5 w S) | ((with_reducible refine iD 10 (.alloc 22) ?_); refine step_alloc (dst := some 10) S 22 (.agg (arr8 (List.replicate 32 0))) (arr8 (List.replicate 32 0)) kR rfl rfl ?_; clear S; intro g10 w S) | (go_at_call 46; (with_reducible refine (PV.out _).mono ?_); rintro e w1 ⟨rfl, T⟩; replace S := S.call T; clear T; (try simp only [z4, z5] at S)) | ((with_reducible refine iD 21 (.build 22 _) ?_); refine step_buildZ 22 (.agg (arr8 (List.replicate 32 0))) (fun w => by kernel_rfl) rfl ?_) | ((with_reducible refine iO none (.store 22 (.tmp 10) (.tmp 21)) ?_); refine step_store S 22 (.tmp 10) (.tmp 21) _ _ rfl rfl _ _ pk 32 kR lN lN on1 rfl ?_; clear S; intro w S) | ((with_reducible refine iD 25 (.build 22 _) ?_); refine step_buildZ 22 (.agg (arr8 (List.replicate 32 0))) (fun w => by kernel_rfl) rfl ?_) | ((with_reducible refine iO none (.store 22 (.tmp 10) (.tmp 25)) ?_); refine step_store S 22 (.tmp 10) (.tmp 25) _ _ rfl rfl _ _ pk 32 kR lN lN on1 rfl ?_; clear S; intro w S) | (go_at_call 42; (with_reducible refine (PS.out _ _ (S.oldB HB.out) kT).mono ?_); rintro e w1 ⟨rfl, T⟩; replace S := S.call T; clear T; (try simp only [z4, z5] at S)) | ((with_reducible refine iD 12 (.alloc 22) ?_); refine step_alloc (dst := some 12) S 22 (.agg (arr8 (List.replicate 32 0))) (arr8 (List.replicate 32 0)) kR rfl rfl ?_; clear S; intro g12 w S) | ((with_reducible refine iO none (.store 22 (.tmp 12) (.tmp 29)) ?_); refine step_store S 22 (.tmp 12) (.tmp 29) _ _ rfl rfl _ _ pk 32 kR lN lN on1 rfl ?_; clear S; intro w S) | ((with_reducible refine iD 33 (.build 22 _) ?_); refine step_buildZ 22 (.agg (arr8 (List.replicate 32 0))) (fun w => by kernel_rfl) rfl ?_) | ((with_reducible refine iO none (.store 22 (.tmp 10) (.tmp 33)) ?_); refine step_store S 22 (.tmp 10) (.tmp 33) _ _ rfl rfl _ _ pk 32 kR lN lN on1 rfl ?_; clear S; intro w S) | (go_at_call 47; (with_reducible refine (PCL.out _ _ (S.bs_blkN (g := g5) pk HP.out (by decide))).mono ?_); rintro e w1 ⟨v36, rfl, T⟩; replace S := S.call T; clear T; (try simp only [z4, z5] at S); obtain ⟨a36, c36, rfl, _, _⟩ := Sl.shape (S.bs (v := v36) (xs := prev) pk)) | ((with_reducible refine iD 38 (.box 104 (.tmp 37)) ?_); refine step_boxA (dst := some 38) S 104 (.tmp 37) _ rfl rfl ?_; clear S; intro g38 w S) | ((with_reducible refine iO _ (.load 25 _) ?_); refine step_load1 25 _ _ _ rfl (cL) _ Tryd.underlying25 rfl rfl ?_) | (at_builtin; refine step_append8 S (.tmp 53) (.tmp 54) _ _ rfl pk _ _ rfl bS lE rfl ?_; clear S; intro v55 w S; (try simp only [z4] at S)) | ((with_reducible refine iO none (.store 22 (.tmp 10) (.tmp 57)) ?_); refine step_store S 22 (.tmp 10) (.tmp 57) _ _ rfl rfl _ _ pk 32 kR lN lN on1 rfl ?_; clear S; intro w S) | fail)
  refine wp_relyW (e1 := noRes) 5 (S.pick (r := row8 v3 X3) pk) [⟨[], [], [], fun _ v => v = (.pointer (some ⟨g38, 0, none⟩)), fun _ v => []⟩, ⟨[0], [], [], fun _ v => v = .pointer (some ⟨g38, 0, none⟩), fun _ v => []⟩, ⟨[0, 1], [], [], fun _ v => v = .pointer (some ⟨g38, 0, none⟩), fun _ v => []⟩, ⟨[0, 1, 2], [], [], fun _ v => v = v3, fun _ v => []⟩, ⟨[], [], [], fun _ v => v = .slice (some ⟨g12, 0, none⟩) 32 32, fun _ v => []⟩, ⟨[0, 1, 2, 3, 4], [], [], fun _ v => True, fun _ v => [row8 v (X3 ++ D1)]⟩, ⟨[0, 1, 2, 3, 4, 5], [], [5], fun _ v => v = .tuple #[.agg (arr8 D2), .int .i64 0], fun _ v => []⟩, ⟨[0, 1, 2, 3, 4, 5, 6], [], [], fun _ v => v = .agg (arr8 D2), fun _ v => []⟩, ⟨[0, 1, 2, 3, 4, 5, 6], [], [], fun _ v => v = .int .i64 0, fun _ v => []⟩] ?A1 ?hA1 kR kR kR [0, 1, 2, 3, 4, 5, 6, 7, 8] kR (of_decide_eq_true rfl) ?hok1 ?fin1
  case hA1 => intro u; simp only [putAll, List.length_cons, List.length_nil, Nat.zero_add, Nat.reduceAdd, dstAt, List.getElem?_toArray, List.getElem?_cons_zero, List.getElem?_cons_succ, Option.bind_some, Act.put, List.setIfInBounds_toArray, List.set_cons_zero, List.set_cons_succ]; rfl
  case hok1 =>
    intro i hi
    obtain rfl | rfl | rfl | rfl | rfl | rfl | rfl | rfl | rfl : i = 0 ∨ i = 1 ∨ i = 2 ∨ i = 3 ∨ i = 4 ∨ i = 5 ∨ i = 6 ∨ i = 7 ∨ i = 8 := by simp only [List.length_cons, List.length_nil, Nat.zero_add, Nat.reduceAdd] at hi; omega
    · clear hi
      rw [if_neg (by decide)]; intro r0
      refine step_of rfl rfl rfl ?_
      intro u G w hf S
      simp only [resOf, spec, RSpec.resAt, z0, z1, z2, z3, z4, z5, z6, z7, ptrBlk] at S ⊢
      simp only [does]
      go_simp
      try first | exact S | exact ⟨vv, S⟩ | exact vv
    · clear hi
      rw [if_neg (by decide)]; intro r0
      refine step_of rfl rfl rfl ?_
      intro u G w hf S
      have f0 : u 0 = (.pointer (some ⟨g38, 0, none⟩)) := hf 0 (by simp)
      simp only [resOf, spec, RSpec.resAt, z0, z1, z2, z3, z4, z5, z6, z7, ptrBlk] at S ⊢
      simp only [f0]
      simp only [does]
      go_simp
      try first | exact S | exact ⟨vv, S⟩ | exact vv
    · clear hi
      rw [if_neg (by decide)]; intro r0
      refine step_of rfl rfl rfl ?_
      intro u G w hf S
      have f1 : u 1 = .pointer (some ⟨g38, 0, none⟩) := hf 1 (by simp)
      simp only [resOf, spec, RSpec.resAt, z0, z1, z2, z3, z4, z5, z6, z7, ptrBlk] at S ⊢
      simp only [f1]
      simp only [does]
      go_simp
      try first | exact S | exact ⟨vv, S⟩ | exact vv
    · clear hi
      rw [if_neg (by decide)]; intro r0
      refine step_of rfl rfl rfl ?_
      intro u G w hf S
      have f2 : u 2 = .pointer (some ⟨g38, 0, none⟩) := hf 2 (by simp)
      simp only [resOf, spec, RSpec.resAt, z0, z1, z2, z3, z4, z5, z6, z7, ptrBlk] at S ⊢
      simp only [f2]
      refine does_load1 25 (.tmp 52) _ _ rfl (S.cell (g := g38) pk rfl) _ Tryd.underlying25 rfl ?_; exact ⟨rfl, S⟩
    · clear hi
      rw [if_neg (by decide)]; intro r0
      refine step_of rfl rfl rfl ?_
      intro u G w hf S
      simp only [resOf, spec, RSpec.resAt, z0, z1, z2, z3, z4, z5, z6, z7, ptrBlk] at S ⊢
      simp only [does]
      go_simp
      try first | exact S | exact ⟨vv, S⟩ | exact vv
    · clear hi
      rw [if_pos rfl]
      refine step_ofW rfl rfl rfl ?_
      intro u G w hf S
      have f3 : u 3 = v3 := hf 3 (by simp)
      have f4 : u 4 = .slice (some ⟨g12, 0, none⟩) 32 32 := hf 4 (by simp)
      simp only [resOf, spec, RSpec.resAt, z0, z1, z2, z3, z4, z5, z6, z7, ptrBlk] at S ⊢
      simp only [f3, f4]
      refine does_append8 (.tmp 53) (.tmp 54) v3 X3 rfl S _ D1 rfl (S.bs_blkN (g := g12) pk HD1L.out (by decide)) H4.out ?_; intro v' w' S; exact ⟨trivial, S.taken1⟩
    · clear hi
      rw [if_neg (by decide)]; intro r0
      refine step_of rfl rfl rfl ?_
      intro u G w hf S
      simp only [resOf, spec, RSpec.resAt, z0, z1, z2, z3, z4, z5, z6, z7, ptrBlk] at S ⊢
      refine does_fn (args := [u 5]) Tryd.func42 kR kR (P4.out _ _ (S.bs (xs := X3 ++ D1) pk) kT) rfl ?_
      rintro e w1 ⟨rfl, T⟩
      exact ⟨_, rfl, rfl, S.call T⟩
    · clear hi
      rw [if_neg (by decide)]; intro r0
      refine step_of rfl rfl rfl ?_
      intro u G w hf S
      have f6 : u 6 = .tuple #[.agg (arr8 D2), .int .i64 0] := hf 6 (by simp)
      simp only [resOf, spec, RSpec.resAt, z0, z1, z2, z3, z4, z5, z6, z7, ptrBlk] at S ⊢
      simp only [f6]
      simp only [does]
      go_simp
      try first | exact S | exact ⟨vv, S⟩ | exact vv
    · clear hi
      rw [if_neg (by decide)]; intro r0
      refine step_of rfl rfl rfl ?_
      intro u G w hf S
      have f6 : u 6 = .tuple #[.agg (arr8 D2), .int .i64 0] := hf 6 (by simp)
      simp only [resOf, spec, RSpec.resAt, z0, z1, z2, z3, z4, z5, z6, z7, ptrBlk] at S ⊢
      simp only [f6]
      simp only [does]
      go_simp
      try first | exact S | exact ⟨vv, S⟩ | exact vv
  case fin1 =>
    intro u w hf S
    have f0 : u 0 = (.pointer (some ⟨g38, 0, none⟩)) := hf 0 (by simp)
    have f1 : u 1 = .pointer (some ⟨g38, 0, none⟩) := hf 1 (by simp)
    have f2 : u 2 = .pointer (some ⟨g38, 0, none⟩) := hf 2 (by simp)
    have f3 : u 3 = v3 := hf 3 (by simp)
    have f4 : u 4 = .slice (some ⟨g12, 0, none⟩) 32 32 := hf 4 (by simp)
    have f6 : u 6 = .tuple #[.agg (arr8 D2), .int .i64 0] := hf 6 (by simp)
    have f7 : u 7 = .agg (arr8 D2) := hf 7 (by simp)
    have f8 : u 8 = .int .i64 0 := hf 8 (by simp)
    simp only [resOf, spec, RSpec.resAt, z0, z1, z2, z3, z4, z5, z6, z7, ptrBlk] at S
    clear hf
    simp only [List.length_cons, List.length_nil, Nat.zero_add, Nat.reduceAdd, List.drop_succ_cons, List.drop_zero, f0, f1, f2, f3, f4, f6, f7, f8]
    try simp only [f0, f1, f2, f3, f4, f6, f7, f8, ptrBlk] at S
    clear f0 f1 f2 f3 f4 f6 f7 f8
    generalize u 5 = v55 at S ⊢
    go_wp2_with (first | ((with_reducible refine iD 5 (.box 22 (.tmp 0)) ?_); refine step_boxA (dst := some 5) S 22 (.tmp 0) _ rfl rfl ?_; clear S; intro g5 w S) | ((with_reducible refine iD 10 (.alloc 22) ?_); refine step_alloc (dst := some 10) S 22 (.agg (arr8 (List.replicate 32 0))) (arr8 (List.replicate 32 0)) kR rfl rfl ?_; clear S; intro g10 w S) | ((with_reducible refine iD 21 (.build 22 _) ?_); refine step_buildZ 22 (.agg (arr8 (List.replicate 32 0))) (fun w => by kernel_rfl) rfl ?_) | ((with_reducible refine iO none (.store 22 (.tmp 10) (.tmp 21)) ?_); refine step_store S 22 (.tmp 10) (.tmp 21) _ _ rfl rfl _ _ pk 32 kR lN lN on1 rfl ?_; clear S; intro w S) | ((with_reducible refine iD 25 (.build 22 _) ?_); refine step_buildZ 22 (.agg (arr8 (List.replicate 32 0))) (fun w => by kernel_rfl) rfl ?_) | ((with_reducible refine iO none (.store 22 (.tmp 10) (.tmp 25)) ?_); refine step_store S 22 (.tmp 10) (.tmp 25) _ _ rfl rfl _ _ pk 32 kR lN lN on1 rfl ?_; clear S; intro w S) | (go_at_call 42; (with_reducible refine (sum_s _ _ _ bS kT).mono ?_); rintro e w1 ⟨rfl, T⟩; replace S := S.call T; clear T; (try simp only [z4, z5] at S)) | ((with_reducible refine iD 12 (.alloc 22) ?_); refine step_alloc (dst := some 12) S 22 (.agg (arr8 (List.replicate 32 0))) (arr8 (List.replicate 32 0)) kR rfl rfl ?_; clear S; intro g12 w S) | ((with_reducible refine iO none (.store 22 (.tmp 12) (.tmp 29)) ?_); refine step_store S 22 (.tmp 12) (.tmp 29) _ _ rfl rfl _ _ pk 32 kR lN lN on1 rfl ?_; clear S; intro w S) | ((with_reducible refine iD 33 (.build 22 _) ?_); refine step_buildZ 22 (.agg (arr8 (List.replicate 32 0))) (fun w => by kernel_rfl) rfl ?_) | ((with_reducible refine iO none (.store 22 (.tmp 10) (.tmp 33)) ?_); refine step_store S 22 (.tmp 10) (.tmp 33) _ _ rfl rfl _ _ pk 32 kR lN lN on1 rfl ?_; clear S; intro w S) | ((with_reducible refine iD 38 (.box 104 (.tmp 37)) ?_); refine step_boxA (dst := some 38) S 104 (.tmp 37) _ rfl rfl ?_; clear S; intro g38 w S) | ((with_reducible refine iO _ (.load 25 _) ?_); refine step_load1 25 _ _ _ rfl (cL) _ Tryd.underlying25 rfl rfl ?_) | (at_builtin; refine step_append8 S (.tmp 53) (.tmp 54) _ _ rfl pk _ _ rfl bS lE rfl ?_; clear S; intro v55 w S; (try simp only [z4] at S)) | ((with_reducible refine iO none (.store 22 (.tmp 10) (.tmp 57)) ?_); refine step_store S 22 (.tmp 10) (.tmp 57) _ _ rfl rfl _ _ pk 32 kR lN lN on1 rfl ?_; clear S; intro w S) | fail)
    refine ret_row_tmp rfl g10 22 _ (S.get pk) _ Tryd.underlying22 32 kR lN rfl rfl rfl ?_
    exact ⟨rfl, S.nil⟩
end Go.Proofs.YtfhkmmagpnojmaaDoor
