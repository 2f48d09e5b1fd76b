/- Streams cut into pieces: Split of the program and of the specification. No condition but the reach. -/
import Derived.Test.YtfhkmmagpnojmaaBd
import Derived.Test.YtfhkmmagpnojmaaFrm
import Derived.Test.YtfhkmmagpnojmaaSpl
import Derived.Laws.BitsAllLaws
set_option linter.unusedSimpArgs false
set_option linter.unusedVariables false
namespace Go.Proofs.Ytfhkmmagpnojmaa
open Go.RowKit

/-- Pieces and a rest. -/
def MadeF2 (w : World) (X : List (List UInt8) × List UInt8) (e : Ending) (w' : World) : Prop := ∃ v1 v2 ps, e = .returned (.tuple #[v1, v2]) ∧ ps.map (·.2) = X.1 ∧ Has w w' (rowF v1 ps :: row8 v2 X.2 :: frs ps)
/-- .. and an error. -/
def MadeF3 (w : World) (X : List (List UInt8) × List UInt8) (E : Int) (e : Ending) (w' : World) : Prop := ∃ v1 v2 ps, e = .returned (.tuple #[v1, v2, .int .i64 E]) ∧ ps.map (·.2) = X.1 ∧ Has w w' (rowF v1 ps :: row8 v2 X.2 :: frs ps)

def spX (b : List UInt8) : List (List UInt8) × List UInt8 := if b.length ≤ 4160 then splitB b else ([], [])
def spE (n : Nat) : Int := if n ≤ 4160 then 0 else 4

theorem cutA0 (b off c s : Nat) : cutA (some ⟨b, off, none⟩) c 0 s = some ⟨b, off, none⟩ := by
  unfold cutA
  split
  · rfl
  · simp [Addr.add]

def lenOf : Value → Nat | .slice _ n _ => n | _ => 0

theorem wrapI (n : Int) (h0 : 0 ≤ n) (h : n ≤ 9223372036854775807) : IntKind.i64.wrap n = n := by rw [IntKind.wrap_i64]; omega

theorem i64_or_nat (a b : Nat) (ha : a < 9223372036854775808) (hb : b < 9223372036854775808) : bits .or .i64 (a : Int) (b : Int) = ((a ||| b : Nat) : Int) := by
  have h1 : a ||| b < 2 ^ 63 := Nat.or_lt_two_pow (by omega) (by omega)
  have e1 : ((a : Int) % 18446744073709551616).toNat = a := by omega
  have e2 : ((b : Int) % 18446744073709551616).toNat = b := by omega
  have e3 : (BitVec.ofNat 64 a ||| BitVec.ofNat 64 b).toNat = a ||| b := by
    rw [BitVec.toNat_or, BitVec.toNat_ofNat, BitVec.toNat_ofNat, Nat.mod_eq_of_lt (by omega), Nat.mod_eq_of_lt (by omega)]
  unfold bits
  simp only [IntKind.wrap_i64, IntKind.bits]
  simp [e1, e2]
  change (((BitVec.ofNat 64 a ||| BitVec.ofNat 64 b).toNat : Int) + 9223372036854775808) % 18446744073709551616 - 9223372036854775808 = _
  rw [e3]
  clear e3 e1 e2
  generalize a ||| b = c at *
  omega

theorem or_i64 (x y : Nat) (hx : x < 256) (hy : y < 256) : bits .or .i64 ((x : Int) * 256) (y : Int) = ((256 * x + y : Nat) : Int) := by
  have hj : x * 256 ||| y = 256 * x + y := (nat_join 8 (x * 256) y (by omega) (by omega)).trans (by omega)
  have h := i64_or_nat (x * 256) y (by omega) (by omega)
  rw [hj] at h
  rw [← h, Int.natCast_mul]
  rfl

set_option maxRecDepth 100000 in
set_option maxHeartbeats 4000000 in
theorem split_s (v : Value) (b : List UInt8) (w0 : World) (h : Bs w0 v b) :
    Calls Try.prog 6 #[v] w0 (MadeF3 w0 (spX b) (spE b.length)) := by
  have S := Has.start w0
  obtain ⟨a0, c0, rfl, k1, k2⟩ := Sl.shape h
  unfold maxLen at k2
  by_cases hbig : 4160 < b.length
  · rw [show spX b = ([], []) from if_neg (by omega), show spE b.length = 4 from if_neg (by omega)]
    have i1 : 4160 < (b.length : Int) := by omega
    have H := Lib.hid h; clear h
    go_enter Try.func6, Try.ntmps6
    go_wp2
    go_ret3
    exact ⟨_, _, [], rfl, rfl, (S.nil_row 5 1).nilF⟩
  rw [show spX b = splitB b from if_pos (by omega), show spE b.length = 0 from if_pos (by omega)]
  have i1 : ¬ 4160 < (b.length : Int) := by omega
  have i0 : b.length ≤ 4160 := by omega
  have H := Lib.hid h; have I0 := Lib.hid i0; clear h i0
  go_enter Try.func6, Try.ntmps6
  go_wp2
  go_loopw [0, 2] (fun vb vf wr => ∃ (bs : List UInt8) (a : Option Addr) (c : Nat) (ps : List (Value × List UInt8)), vb = .slice a bs.length c ∧ Bs w0 (.slice a bs.length c) bs ∧ (ps.map (·.2) ++ (splitB bs).1, (splitB bs).2) = splitB b ∧ ps.length + bs.length ≤ b.length ∧ Has w0 wr (rowF vf ps :: frs ps)) (fun vb _ _ => lenOf vb)
  case atStart => exact ⟨b, a0, c0, [], rfl, H.out, by simp, by simp, S.nilF⟩
  case round =>
    obtain ⟨bs, a, c, ps, rfl, hbs, hsp, hle, S⟩ := hrel
    have hi0 := I0.out
    have hcl := fun v w h => clone8_s v bs w h (by omega)
    obtain ⟨hc1, hc2⟩ : bs.length ≤ c ∧ c ≤ 9223372036854775807 := by
      obtain ⟨a', c', e, q1, q⟩ := Sl.shape hbs
      simp only [Value.slice.injEq, true_and] at e
      unfold maxLen at q
      omega
    by_cases hlt : bs.length < 2
    · have j1 : ¬ 2 ≤ (bs.length : Int) := by omega
      rw [split_stop bs (.inl hlt)] at hsp
      have hsp2 : ps.map (·.2) = (splitB b).1 ∧ bs = (splitB b).2 := by rw [← hsp]; simp
      have HBS := Lib.hid hbs; have HCL := Lib.hid hcl; have HSP2 := Lib.hid hsp2; clear hbs hcl hsp2
      clear hsp
      go_wp2_with (first | ((with_reducible show wpList _ _ _ (⟨_, .load 5 _, _, _, _, _⟩ :: _) _ _); first | (refine step_load1 5 _ _ _ rfl (S.cell pk co) _ Try.underlying5 rfl gw ?_) | (refine step_load1 5 _ _ _ rfl (S.row_cell pk _ _ hyr) _ Try.underlying5 rfl gw ?_) | (refine step_load1 5 _ _ _ rfl (S.row_cellS pk _ _ hy) _ Try.underlying5 rfl gw ?_) | (refine step_load1 5 _ _ _ rfl (S.old_cell hy) _ Try.underlying5 rfl gw ?_)) | ((with_reducible show wpList _ _ _ (⟨_, .slice 22 _ _ _ _, _, _, _, _⟩ :: _) _ _); refine step_cutH 22 5 1 _ _ _ _ _ _ _ _ rfl rfl (by first | rfl | omega) (by first | (first | omega | assumption | (exact Hid.out (by assumption)) | (simp only [List.length_append, List.length_cons, List.length_nil]; omega)) | decide) Try.underlying22 (by kernel_rfl) gw ?_) | (go_at_call 24; (with_reducible refine (HCL.out _ _ (S.oldB HBS.out)).mono ?_); rintro e w1 ⟨v44, rfl, T⟩; replace S := S.call T; clear T; (try simp only [List.nil_append, List.cons_append] at S)) | ((with_reducible show wpList _ _ _ (⟨_, .slice 22 _ _ _ _, _, _, _, _⟩ :: _) _ _); refine step_cutL 22 5 1 _ _ _ _ _ _ _ _ rfl rfl (by first | rfl | omega) (by first | (first | omega | assumption | (exact Hid.out (by assumption)) | (simp only [List.length_append, List.length_cons, List.length_nil]; omega)) | decide) Try.underlying22 (by kernel_rfl) gw ?_) | fail)
      go_ret3
      refine ⟨_, _, ps, rfl, HSP2.out.1, ?_⟩
      rw [← HSP2.out.2]
      exact S.perm (List.Perm.swap _ _ _)
    obtain ⟨bk, off, rfl, hcell⟩ := hbs.atA (by omega)
    have h1 : 1 < bs.length := by omega
    have h0 : 0 < bs.length := by omega
    obtain ⟨x, hxe⟩ : ∃ x, x = bs.getD 0 0 := ⟨_, rfl⟩
    obtain ⟨y, hye⟩ : ∃ y, y = bs.getD 1 0 := ⟨_, rfl⟩
    have hx := hcell 0 (by8 x) (by simp [hxe, List.getD, h0])
    have hy := hcell 1 (by8 y) (by simp [hye, List.getD, h1])
    have x256 := x.toNat_lt
    have y256 := y.toNat_lt
    obtain ⟨N, hN⟩ : ∃ N, N = 256 * x.toNat + y.toNat := ⟨_, rfl⟩
    have hfr : frN bs = if N < 2 ∨ 64 < N then 2 else N := by unfold frN; rw [← hxe, ← hye, ← hN]
    have hor := or_i64 x.toNat y.toNat x256 y256
    rw [← hN] at hor
    have j1 : 2 ≤ (bs.length : Int) := by omega
    have j2 : (0 : Int) < (bs.length : Int) := by omega
    have j3 : (1 : Int) < (bs.length : Int) := by omega
    have HBS := Lib.hid hbs; have HCL := Lib.hid hcl; have HSP := Lib.hid hsp; have HX := Lib.hid hx; have HY := Lib.hid hy; have HOR := Lib.hid hor; have HFR := Lib.hid hfr; have HN := Lib.hid hN; clear hbs hcl hsp hx hy hor hfr hN
    clear hxe hye hcell
    go_wp2_with (first | ((with_reducible show wpList _ _ _ (⟨_, .load 5 _, _, _, _, _⟩ :: _) _ _); first | (refine step_load1 5 _ _ _ rfl (S.cell pk co) _ Try.underlying5 rfl gw ?_) | (refine step_load1 5 _ _ _ rfl (S.row_cell pk _ _ hyr) _ Try.underlying5 rfl gw ?_) | (refine step_load1 5 _ _ _ rfl (S.row_cellS pk _ _ hy) _ Try.underlying5 rfl gw ?_) | (refine step_load1 5 _ _ _ rfl (S.old_cell hy) _ Try.underlying5 rfl gw ?_)) | ((with_reducible show wpList _ _ _ (⟨_, .slice 22 _ _ _ _, _, _, _, _⟩ :: _) _ _); refine step_cutH 22 5 1 _ _ _ _ _ _ _ _ rfl rfl (by first | rfl | omega) (by first | (first | omega | assumption | (exact Hid.out (by assumption)) | (simp only [List.length_append, List.length_cons, List.length_nil]; omega)) | decide) Try.underlying22 (by kernel_rfl) gw ?_) | ((with_reducible show wpList _ _ _ (⟨_, .slice 22 _ _ _ _, _, _, _, _⟩ :: _) _ _); refine step_cutL 22 5 1 _ _ _ _ _ _ _ _ rfl rfl (by first | rfl | omega) (by first | (first | omega | assumption | (exact Hid.out (by assumption)) | (simp only [List.length_append, List.length_cons, List.length_nil]; omega)) | decide) Try.underlying22 (by kernel_rfl) gw ?_) | fail)
    refine wp_rely S [⟨[], [], [], fun _ v => v = (.slice (some ⟨bk, off, none⟩) bs.length c), fun _ v => []⟩, ⟨[0], [], [], fun _ v => v = .pointer (some ⟨bk, off + 0, none⟩), fun _ v => []⟩, ⟨[0, 1], [], [], fun _ v => v = by8 x, fun _ v => []⟩, ⟨[0, 1, 2], [], [], fun _ v => v = .int .i64 (x.toNat : Int), fun _ v => []⟩, ⟨[0, 1, 2, 3], [], [], fun _ v => v = .int .i64 ((x.toNat : Int) * 256), fun _ v => []⟩, ⟨[], [], [], fun _ v => v = (.slice (some ⟨bk, off, none⟩) bs.length c), fun _ v => []⟩, ⟨[5], [], [], fun _ v => v = .pointer (some ⟨bk, off + 1, none⟩), fun _ v => []⟩, ⟨[5, 6], [], [], fun _ v => v = by8 y, fun _ v => []⟩, ⟨[5, 6, 7], [], [], fun _ v => v = .int .i64 (y.toNat : Int), fun _ v => []⟩, ⟨[0, 1, 2, 3, 4, 5, 6, 7, 8], [], [], fun _ v => v = .int .i64 (N : Int), fun _ v => []⟩, ⟨[0, 1, 2, 3, 4, 5, 6, 7, 8, 9], [], [], fun _ v => v = (.int .i64 (N : Int)), fun _ v => []⟩] ?A1 ?hA1 (by kernel_rfl) (by kernel_rfl) (by kernel_rfl) [0, 1, 2, 3, 4, 5, 6, 7, 8, 9, 10] (by kernel_rfl) ?hok1 ?fin1
    case hA1 => intro u; simp only [putAll, List.length_cons, List.length_nil, Nat.zero_add, Nat.reduceAdd, dstAt, List.getElem?_toArray, List.getElem?_cons_zero, List.getElem?_cons_succ, Option.bind_some, Act.put, List.setIfInBounds_toArray, List.set_cons_zero, List.set_cons_succ]; rfl
    case hok1 =>
      intro i hi
      obtain rfl | rfl | rfl | rfl | rfl | rfl | rfl | rfl | rfl | rfl | rfl : i = 0 ∨ i = 1 ∨ i = 2 ∨ i = 3 ∨ i = 4 ∨ i = 5 ∨ i = 6 ∨ i = 7 ∨ i = 8 ∨ i = 9 ∨ i = 10 := by simp only [List.length_cons, List.length_nil, Nat.zero_add, Nat.reduceAdd] at hi; omega
      · clear hi
        refine step_of rfl rfl rfl ?_
        intro u G w hf S
        simp only [resOf, spec, RSpec.resAt, z0, z1, z2, z3, z4, z5, z6, z7, ptrBlk] at S ⊢
        simp only [does]
        go_simp
        try first | exact S | exact ⟨vv, S⟩ | exact vv
      · clear hi
        refine step_of rfl rfl rfl ?_
        intro u G w hf S
        have f0 : u 0 = (.slice (some ⟨bk, off, none⟩) bs.length c) := hf 0 (by simp)
        simp only [resOf, spec, RSpec.resAt, z0, z1, z2, z3, z4, z5, z6, z7, ptrBlk] at S ⊢
        simp only [f0]
        simp only [does]
        go_simp
        try first | exact S | exact ⟨vv, S⟩ | exact vv
      · clear hi
        refine step_of rfl rfl rfl ?_
        intro u G w hf S
        have f0 : u 0 = (.slice (some ⟨bk, off, none⟩) bs.length c) := hf 0 (by simp)
        have f1 : u 1 = .pointer (some ⟨bk, off + 0, none⟩) := hf 1 (by simp)
        simp only [resOf, spec, RSpec.resAt, z0, z1, z2, z3, z4, z5, z6, z7, ptrBlk] at S ⊢
        simp only [f0, f1]
        refine does_load1 5 (.tmp 13) _ _ rfl (S.old_cell hy) _ Try.underlying5 rfl ?_; exact ⟨rfl, S⟩
      · clear hi
        refine step_of rfl rfl rfl ?_
        intro u G w hf S
        have f0 : u 0 = (.slice (some ⟨bk, off, none⟩) bs.length c) := hf 0 (by simp)
        have f1 : u 1 = .pointer (some ⟨bk, off + 0, none⟩) := hf 1 (by simp)
        have f2 : u 2 = by8 x := hf 2 (by simp)
        simp only [resOf, spec, RSpec.resAt, z0, z1, z2, z3, z4, z5, z6, z7, ptrBlk] at S ⊢
        simp only [f0, f1, f2]
        simp only [does]
        go_simp
        try first | exact S | exact ⟨vv, S⟩ | exact vv
      · clear hi
        refine step_of rfl rfl rfl ?_
        intro u G w hf S
        have f0 : u 0 = (.slice (some ⟨bk, off, none⟩) bs.length c) := hf 0 (by simp)
        have f1 : u 1 = .pointer (some ⟨bk, off + 0, none⟩) := hf 1 (by simp)
        have f2 : u 2 = by8 x := hf 2 (by simp)
        have f3 : u 3 = .int .i64 (x.toNat : Int) := hf 3 (by simp)
        simp only [resOf, spec, RSpec.resAt, z0, z1, z2, z3, z4, z5, z6, z7, ptrBlk] at S ⊢
        simp only [f0, f1, f2, f3]
        simp only [does]
        go_simp
        try first | exact S | exact ⟨vv, S⟩ | exact vv
      · clear hi
        refine step_of rfl rfl rfl ?_
        intro u G w hf S
        simp only [resOf, spec, RSpec.resAt, z0, z1, z2, z3, z4, z5, z6, z7, ptrBlk] at S ⊢
        simp only [does]
        go_simp
        try first | exact S | exact ⟨vv, S⟩ | exact vv
      · clear hi
        refine step_of rfl rfl rfl ?_
        intro u G w hf S
        have f5 : u 5 = (.slice (some ⟨bk, off, none⟩) bs.length c) := hf 5 (by simp)
        simp only [resOf, spec, RSpec.resAt, z0, z1, z2, z3, z4, z5, z6, z7, ptrBlk] at S ⊢
        simp only [f5]
        simp only [does]
        go_simp
        try first | exact S | exact ⟨vv, S⟩ | exact vv
      · clear hi
        refine step_of rfl rfl rfl ?_
        intro u G w hf S
        have f5 : u 5 = (.slice (some ⟨bk, off, none⟩) bs.length c) := hf 5 (by simp)
        have f6 : u 6 = .pointer (some ⟨bk, off + 1, none⟩) := hf 6 (by simp)
        simp only [resOf, spec, RSpec.resAt, z0, z1, z2, z3, z4, z5, z6, z7, ptrBlk] at S ⊢
        simp only [f5, f6]
        refine does_load1 5 (.tmp 18) _ _ rfl (S.old_cell hy) _ Try.underlying5 rfl ?_; exact ⟨rfl, S⟩
      · clear hi
        refine step_of rfl rfl rfl ?_
        intro u G w hf S
        have f5 : u 5 = (.slice (some ⟨bk, off, none⟩) bs.length c) := hf 5 (by simp)
        have f6 : u 6 = .pointer (some ⟨bk, off + 1, none⟩) := hf 6 (by simp)
        have f7 : u 7 = by8 y := hf 7 (by simp)
        simp only [resOf, spec, RSpec.resAt, z0, z1, z2, z3, z4, z5, z6, z7, ptrBlk] at S ⊢
        simp only [f5, f6, f7]
        simp only [does]
        go_simp
        try first | exact S | exact ⟨vv, S⟩ | exact vv
      · clear hi
        refine step_of rfl rfl rfl ?_
        intro u G w hf S
        have f0 : u 0 = (.slice (some ⟨bk, off, none⟩) bs.length c) := hf 0 (by simp)
        have f1 : u 1 = .pointer (some ⟨bk, off + 0, none⟩) := hf 1 (by simp)
        have f2 : u 2 = by8 x := hf 2 (by simp)
        have f3 : u 3 = .int .i64 (x.toNat : Int) := hf 3 (by simp)
        have f4 : u 4 = .int .i64 ((x.toNat : Int) * 256) := hf 4 (by simp)
        have f5 : u 5 = (.slice (some ⟨bk, off, none⟩) bs.length c) := hf 5 (by simp)
        have f6 : u 6 = .pointer (some ⟨bk, off + 1, none⟩) := hf 6 (by simp)
        have f7 : u 7 = by8 y := hf 7 (by simp)
        have f8 : u 8 = .int .i64 (y.toNat : Int) := hf 8 (by simp)
        simp only [resOf, spec, RSpec.resAt, z0, z1, z2, z3, z4, z5, z6, z7, ptrBlk] at S ⊢
        simp only [f0, f1, f2, f3, f4, f5, f6, f7, f8]
        simp only [does]; go_simp; first | (refine ⟨?_, S⟩; rw [HOR.out]) | (rw [HOR.out])
      · clear hi
        refine step_of rfl rfl rfl ?_
        intro u G w hf S
        have f0 : u 0 = (.slice (some ⟨bk, off, none⟩) bs.length c) := hf 0 (by simp)
        have f1 : u 1 = .pointer (some ⟨bk, off + 0, none⟩) := hf 1 (by simp)
        have f2 : u 2 = by8 x := hf 2 (by simp)
        have f3 : u 3 = .int .i64 (x.toNat : Int) := hf 3 (by simp)
        have f4 : u 4 = .int .i64 ((x.toNat : Int) * 256) := hf 4 (by simp)
        have f5 : u 5 = (.slice (some ⟨bk, off, none⟩) bs.length c) := hf 5 (by simp)
        have f6 : u 6 = .pointer (some ⟨bk, off + 1, none⟩) := hf 6 (by simp)
        have f7 : u 7 = by8 y := hf 7 (by simp)
        have f8 : u 8 = .int .i64 (y.toNat : Int) := hf 8 (by simp)
        have f9 : u 9 = .int .i64 (N : Int) := hf 9 (by simp)
        simp only [resOf, spec, RSpec.resAt, z0, z1, z2, z3, z4, z5, z6, z7, ptrBlk] at S ⊢
        simp only [f0, f1, f2, f3, f4, f5, f6, f7, f8, f9]
        simp only [does]
        go_simp
        try first | exact S | exact ⟨vv, S⟩ | exact vv
    case fin1 =>
      intro u w hf S
      have f0 : u 0 = (.slice (some ⟨bk, off, none⟩) bs.length c) := hf 0 (by simp)
      have f1 : u 1 = .pointer (some ⟨bk, off + 0, none⟩) := hf 1 (by simp)
      have f2 : u 2 = by8 x := hf 2 (by simp)
      have f3 : u 3 = .int .i64 (x.toNat : Int) := hf 3 (by simp)
      have f4 : u 4 = .int .i64 ((x.toNat : Int) * 256) := hf 4 (by simp)
      have f5 : u 5 = (.slice (some ⟨bk, off, none⟩) bs.length c) := hf 5 (by simp)
      have f6 : u 6 = .pointer (some ⟨bk, off + 1, none⟩) := hf 6 (by simp)
      have f7 : u 7 = by8 y := hf 7 (by simp)
      have f8 : u 8 = .int .i64 (y.toNat : Int) := hf 8 (by simp)
      have f9 : u 9 = .int .i64 (N : Int) := hf 9 (by simp)
      have f10 : u 10 = (.int .i64 (N : Int)) := hf 10 (by simp)
      simp only [resOf, spec, RSpec.resAt, z0, z1, z2, z3, z4, z5, z6, z7, ptrBlk] at S
      clear hf
      simp only [List.length_cons, List.length_nil, Nat.zero_add, Nat.reduceAdd, List.drop_succ_cons, List.drop_zero, f0, f1, f2, f3, f4, f5, f6, f7, f8, f9, f10]
      clear f0 f1 f2 f3 f4 f5 f6 f7 f8 f9 f10
      rcases Nat.lt_or_ge N 2 with hn | hn
      · have e1 : (N : Int) < 2 := by omega
        have e4 : ¬ (bs.length : Int) < 2 := by omega
        replace HFR : Hid (frN bs = 2) := Lib.hid (by rw [HFR.out, if_pos (by omega)])
        have hkc : 2 ≤ c := by omega
        have hb2 := Bs.cutH HBS.out 2 (by omega) rfl
        have hb3 := Bs.cutL HBS.out 2 (by omega) rfl
        have hm := split_more (ps.map (·.2)) bs (by rw [HFR.out]; omega)
        rw [HFR.out, HSP.out] at hm
        have hck := fun v w h => clone8_s v (bs.take 2) w h (by simp; omega)
        have hl2 : (bs.take 2).length = 2 := by simp; omega
        have hl3 : (bs.drop 2).length = bs.length - 2 := by simp
        rw [← hl3] at hb3
        obtain ⟨A, hA⟩ : ∃ A, A = bs.take 2 := ⟨_, rfl⟩
        obtain ⟨B, hB⟩ : ∃ B, B = bs.drop 2 := ⟨_, rfl⟩
        rw [← hA] at hb2 hm hck hl2
        rw [← hB] at hb3 hm hl3
        have hlen : (ps.length + 1) * 24 ≤ 140737488355328 := by have := I0.out; omega
        have HB2 := Lib.hid hb2; have HB3 := Lib.hid hb3; have HM := Lib.hid hm; have HCK := Lib.hid hck; have HL2 := Lib.hid hl2; have HL3 := Lib.hid hl3; have HLEN := Lib.hid hlen; clear hb2 hb3 hm hck hl2 hl3 hlen
        clear hA hB
        go_wp2_with (first | ((with_reducible show wpList _ _ _ (⟨some 37, .buildSlice 23 1 _, _, _, _, _⟩ :: _) _ _); refine step_buildF1 S (.tmp 36) v36 rfl (one_sl (S.sl (v := v36) pk)).2 gw ?_; clear S; intro v37 w S) | (at_builtin; refine step_appendF S (.tmp 32) (.tmp 37) _ ps rfl pk v37 [v36] rfl (S.sl (v := v37) pk) (one1 (one_sl (S.sl (v := v36) pk)).1) HLEN.out gw ?_; clear S; intro v38 w S) | ((with_reducible show wpList _ _ _ (⟨_, .load 5 _, _, _, _, _⟩ :: _) _ _); first | (refine step_load1 5 _ _ _ rfl (S.cell pk co) _ Try.underlying5 rfl gw ?_) | (refine step_load1 5 _ _ _ rfl (S.row_cell pk _ _ hyr) _ Try.underlying5 rfl gw ?_) | (refine step_load1 5 _ _ _ rfl (S.row_cellS pk _ _ hy) _ Try.underlying5 rfl gw ?_) | (refine step_load1 5 _ _ _ rfl (S.old_cell hy) _ Try.underlying5 rfl gw ?_)) | ((with_reducible show wpList _ _ _ (⟨_, .slice 22 _ _ _ _, _, _, _, _⟩ :: _) _ _); refine step_cutH 22 5 1 _ _ _ _ _ _ _ _ rfl rfl (by first | rfl | omega) (by first | (first | omega | assumption | (exact Hid.out (by assumption)) | (simp only [List.length_append, List.length_cons, List.length_nil]; omega)) | decide) Try.underlying22 (by kernel_rfl) gw ?_) | (go_at_call 24; (with_reducible refine (HCK.out _ _ (S.oldB HB2.out)).mono ?_); rintro e w1 ⟨v36, rfl, T⟩; replace S := S.call T; clear T; (try simp only [List.nil_append, List.cons_append] at S)) | ((with_reducible show wpList _ _ _ (⟨_, .slice 22 _ _ _ _, _, _, _, _⟩ :: _) _ _); refine step_cutL 22 5 1 _ _ _ _ _ _ _ _ rfl rfl (by first | rfl | omega) (by first | (first | omega | assumption | (exact Hid.out (by assumption)) | (simp only [List.length_append, List.length_cons, List.length_nil]; omega)) | decide) Try.underlying22 (by kernel_rfl) gw ?_) | fail)
        go_roundw
        case rel =>
          refine ⟨B, cutA (some ⟨bk, off, none⟩) c 2 1, c - 2, ps ++ [(v36, A)], by rw [HL3.out], HB3.out, ?_, ?_, ?_⟩
          · rw [List.map_append, List.map_cons, List.map_nil]; exact HM.out
          · rw [List.length_append, HL3.out, List.length_singleton]; omega
          · have := Has.moreF (F := []) (ps := ps) (u := v36) (xs := A) (by rw [List.append_nil]; exact S)
            simpa only [List.append_nil] using this
        case measure => simp only [lenOf]; omega
      · rcases Nat.lt_or_ge 64 N with hn2 | hn2
        · have e1 : ¬ (N : Int) < 2 := by omega
          have e2 : 64 < (N : Int) := by omega
          replace HFR : Hid (frN bs = 2) := Lib.hid (by rw [HFR.out, if_pos (by omega)])
          have hkc : 2 ≤ c := by omega
          have hb2 := Bs.cutH HBS.out 2 (by omega) rfl
          have hb3 := Bs.cutL HBS.out 2 (by omega) rfl
          have hm := split_more (ps.map (·.2)) bs (by rw [HFR.out]; omega)
          rw [HFR.out, HSP.out] at hm
          have hck := fun v w h => clone8_s v (bs.take 2) w h (by simp; omega)
          have hl2 : (bs.take 2).length = 2 := by simp; omega
          have hl3 : (bs.drop 2).length = bs.length - 2 := by simp
          rw [← hl3] at hb3
          obtain ⟨A, hA⟩ : ∃ A, A = bs.take 2 := ⟨_, rfl⟩
          obtain ⟨B, hB⟩ : ∃ B, B = bs.drop 2 := ⟨_, rfl⟩
          rw [← hA] at hb2 hm hck hl2
          rw [← hB] at hb3 hm hl3
          have hlen : (ps.length + 1) * 24 ≤ 140737488355328 := by have := I0.out; omega
          have HB2 := Lib.hid hb2; have HB3 := Lib.hid hb3; have HM := Lib.hid hm; have HCK := Lib.hid hck; have HL2 := Lib.hid hl2; have HL3 := Lib.hid hl3; have HLEN := Lib.hid hlen; clear hb2 hb3 hm hck hl2 hl3 hlen
          clear hA hB
          go_wp2_with (first | ((with_reducible show wpList _ _ _ (⟨some 37, .buildSlice 23 1 _, _, _, _, _⟩ :: _) _ _); refine step_buildF1 S (.tmp 36) v36 rfl (one_sl (S.sl (v := v36) pk)).2 gw ?_; clear S; intro v37 w S) | (at_builtin; refine step_appendF S (.tmp 32) (.tmp 37) _ ps rfl pk v37 [v36] rfl (S.sl (v := v37) pk) (one1 (one_sl (S.sl (v := v36) pk)).1) HLEN.out gw ?_; clear S; intro v38 w S) | ((with_reducible show wpList _ _ _ (⟨_, .load 5 _, _, _, _, _⟩ :: _) _ _); first | (refine step_load1 5 _ _ _ rfl (S.cell pk co) _ Try.underlying5 rfl gw ?_) | (refine step_load1 5 _ _ _ rfl (S.row_cell pk _ _ hyr) _ Try.underlying5 rfl gw ?_) | (refine step_load1 5 _ _ _ rfl (S.row_cellS pk _ _ hy) _ Try.underlying5 rfl gw ?_) | (refine step_load1 5 _ _ _ rfl (S.old_cell hy) _ Try.underlying5 rfl gw ?_)) | ((with_reducible show wpList _ _ _ (⟨_, .slice 22 _ _ _ _, _, _, _, _⟩ :: _) _ _); refine step_cutH 22 5 1 _ _ _ _ _ _ _ _ rfl rfl (by first | rfl | omega) (by first | (first | omega | assumption | (exact Hid.out (by assumption)) | (simp only [List.length_append, List.length_cons, List.length_nil]; omega)) | decide) Try.underlying22 (by kernel_rfl) gw ?_) | (go_at_call 24; (with_reducible refine (HCK.out _ _ (S.oldB HB2.out)).mono ?_); rintro e w1 ⟨v36, rfl, T⟩; replace S := S.call T; clear T; (try simp only [List.nil_append, List.cons_append] at S)) | ((with_reducible show wpList _ _ _ (⟨_, .slice 22 _ _ _ _, _, _, _, _⟩ :: _) _ _); refine step_cutL 22 5 1 _ _ _ _ _ _ _ _ rfl rfl (by first | rfl | omega) (by first | (first | omega | assumption | (exact Hid.out (by assumption)) | (simp only [List.length_append, List.length_cons, List.length_nil]; omega)) | decide) Try.underlying22 (by kernel_rfl) gw ?_) | fail)
          go_roundw
          case rel =>
            refine ⟨B, cutA (some ⟨bk, off, none⟩) c 2 1, c - 2, ps ++ [(v36, A)], by rw [HL3.out], HB3.out, ?_, ?_, ?_⟩
            · rw [List.map_append, List.map_cons, List.map_nil]; exact HM.out
            · rw [List.length_append, HL3.out, List.length_singleton]; omega
            · have := Has.moreF (F := []) (ps := ps) (u := v36) (xs := A) (by rw [List.append_nil]; exact S)
              simpa only [List.append_nil] using this
          case measure => simp only [lenOf]; omega
        · have e1 : ¬ (N : Int) < 2 := by omega
          have e2 : ¬ 64 < (N : Int) := by omega
          rcases Nat.lt_or_ge bs.length N with hn3 | hn3
          · have e3 : (bs.length : Int) < (N : Int) := by omega
            have hm := HSP.out
            rw [split_stop bs (.inr (by rw [HFR.out, if_neg (by omega)]; exact hn3))] at hm
            have hsp2 : ps.map (·.2) = (splitB b).1 ∧ bs = (splitB b).2 := by rw [← hm]; simp
            have HSP2 := Lib.hid hsp2; clear hsp2
            clear hm
            go_wp2_with (first | ((with_reducible show wpList _ _ _ (⟨_, .load 5 _, _, _, _, _⟩ :: _) _ _); first | (refine step_load1 5 _ _ _ rfl (S.cell pk co) _ Try.underlying5 rfl gw ?_) | (refine step_load1 5 _ _ _ rfl (S.row_cell pk _ _ hyr) _ Try.underlying5 rfl gw ?_) | (refine step_load1 5 _ _ _ rfl (S.row_cellS pk _ _ hy) _ Try.underlying5 rfl gw ?_) | (refine step_load1 5 _ _ _ rfl (S.old_cell hy) _ Try.underlying5 rfl gw ?_)) | ((with_reducible show wpList _ _ _ (⟨_, .slice 22 _ _ _ _, _, _, _, _⟩ :: _) _ _); refine step_cutH 22 5 1 _ _ _ _ _ _ _ _ rfl rfl (by first | rfl | omega) (by first | (first | omega | assumption | (exact Hid.out (by assumption)) | (simp only [List.length_append, List.length_cons, List.length_nil]; omega)) | decide) Try.underlying22 (by kernel_rfl) gw ?_) | (go_at_call 24; (with_reducible refine (HCL.out _ _ (S.oldB HBS.out)).mono ?_); rintro e w1 ⟨v44, rfl, T⟩; replace S := S.call T; clear T; (try simp only [List.nil_append, List.cons_append] at S)) | ((with_reducible show wpList _ _ _ (⟨_, .slice 22 _ _ _ _, _, _, _, _⟩ :: _) _ _); refine step_cutL 22 5 1 _ _ _ _ _ _ _ _ rfl rfl (by first | rfl | omega) (by first | (first | omega | assumption | (exact Hid.out (by assumption)) | (simp only [List.length_append, List.length_cons, List.length_nil]; omega)) | decide) Try.underlying22 (by kernel_rfl) gw ?_) | fail)
            go_ret3
            refine ⟨_, _, ps, rfl, HSP2.out.1, ?_⟩
            rw [← HSP2.out.2]
            exact S.perm (List.Perm.swap _ _ _)
          · have e3 : ¬ (bs.length : Int) < (N : Int) := by omega
            replace HFR : Hid (frN bs = N) := Lib.hid (by rw [HFR.out, if_neg (by omega)])
            have hkc : N ≤ c := by omega
            have hb2 := Bs.cutH HBS.out N (by omega) rfl
            have hb3 := Bs.cutL HBS.out N (by omega) rfl
            have hm := split_more (ps.map (·.2)) bs (by rw [HFR.out]; omega)
            rw [HFR.out, HSP.out] at hm
            have hck := fun v w h => clone8_s v (bs.take N) w h (by simp; omega)
            have hl2 : (bs.take N).length = N := by simp; omega
            have hl3 : (bs.drop N).length = bs.length - N := by simp
            rw [← hl3] at hb3
            obtain ⟨A, hA⟩ : ∃ A, A = bs.take N := ⟨_, rfl⟩
            obtain ⟨B, hB⟩ : ∃ B, B = bs.drop N := ⟨_, rfl⟩
            rw [← hA] at hb2 hm hck hl2
            rw [← hB] at hb3 hm hl3
            have hlen : (ps.length + 1) * 24 ≤ 140737488355328 := by have := I0.out; omega
            have HB2 := Lib.hid hb2; have HB3 := Lib.hid hb3; have HM := Lib.hid hm; have HCK := Lib.hid hck; have HL2 := Lib.hid hl2; have HL3 := Lib.hid hl3; have HLEN := Lib.hid hlen; clear hb2 hb3 hm hck hl2 hl3 hlen
            clear hA hB
            go_wp2_with (first | ((with_reducible show wpList _ _ _ (⟨some 37, .buildSlice 23 1 _, _, _, _, _⟩ :: _) _ _); refine step_buildF1 S (.tmp 36) v36 rfl (one_sl (S.sl (v := v36) pk)).2 gw ?_; clear S; intro v37 w S) | (at_builtin; refine step_appendF S (.tmp 32) (.tmp 37) _ ps rfl pk v37 [v36] rfl (S.sl (v := v37) pk) (one1 (one_sl (S.sl (v := v36) pk)).1) HLEN.out gw ?_; clear S; intro v38 w S) | ((with_reducible show wpList _ _ _ (⟨_, .load 5 _, _, _, _, _⟩ :: _) _ _); first | (refine step_load1 5 _ _ _ rfl (S.cell pk co) _ Try.underlying5 rfl gw ?_) | (refine step_load1 5 _ _ _ rfl (S.row_cell pk _ _ hyr) _ Try.underlying5 rfl gw ?_) | (refine step_load1 5 _ _ _ rfl (S.row_cellS pk _ _ hy) _ Try.underlying5 rfl gw ?_) | (refine step_load1 5 _ _ _ rfl (S.old_cell hy) _ Try.underlying5 rfl gw ?_)) | ((with_reducible show wpList _ _ _ (⟨_, .slice 22 _ _ _ _, _, _, _, _⟩ :: _) _ _); refine step_cutH 22 5 1 _ _ _ _ _ _ _ _ rfl rfl (by first | rfl | omega) (by first | (first | omega | assumption | (exact Hid.out (by assumption)) | (simp only [List.length_append, List.length_cons, List.length_nil]; omega)) | decide) Try.underlying22 (by kernel_rfl) gw ?_) | (go_at_call 24; (with_reducible refine (HCK.out _ _ (S.oldB HB2.out)).mono ?_); rintro e w1 ⟨v36, rfl, T⟩; replace S := S.call T; clear T; (try simp only [List.nil_append, List.cons_append] at S)) | ((with_reducible show wpList _ _ _ (⟨_, .slice 22 _ _ _ _, _, _, _, _⟩ :: _) _ _); refine step_cutL 22 5 1 _ _ _ _ _ _ _ _ rfl rfl (by first | rfl | omega) (by first | (first | omega | assumption | (exact Hid.out (by assumption)) | (simp only [List.length_append, List.length_cons, List.length_nil]; omega)) | decide) Try.underlying22 (by kernel_rfl) gw ?_) | fail)
            go_roundw
            case rel =>
              refine ⟨B, cutA (some ⟨bk, off, none⟩) c N 1, c - N, ps ++ [(v36, A)], by rw [HL3.out], HB3.out, ?_, ?_, ?_⟩
              · rw [List.map_append, List.map_cons, List.map_nil]; exact HM.out
              · rw [List.length_append, HL3.out, List.length_singleton]; omega
              · have := Has.moreF (F := []) (ps := ps) (u := v36) (xs := A) (by rw [List.append_nil]; exact S)
                simpa only [List.append_nil] using this
            case measure => simp only [lenOf]; omega
set_option maxRecDepth 100000 in
set_option maxHeartbeats 4000000 in
theorem refSplit_s (v : Value) (b : List UInt8) (w0 : World) (h : Bs w0 v b) (hl : b.length ≤ 4160) :
    Calls Try.prog 25 #[v] w0 (MadeF2 w0 (splitB b)) := by
  have S := Has.start w0
  obtain ⟨a0, c0, rfl, k1, k2⟩ := Sl.shape h
  unfold maxLen at k2
  have i0 : b.length ≤ 4160 := hl
  have H := Lib.hid h; have I0 := Lib.hid i0; clear h i0
  clear hl
  go_enter Try.func25, Try.ntmps25
  go_wp2
  go_loopw [0, 4] (fun vb vf wr => ∃ (bs : List UInt8) (a : Option Addr) (c : Nat) (ps : List (Value × List UInt8)), vb = .slice a bs.length c ∧ Bs w0 (.slice a bs.length c) bs ∧ (ps.map (·.2) ++ (splitB bs).1, (splitB bs).2) = splitB b ∧ ps.length + bs.length ≤ b.length ∧ Has w0 wr (rowF vf ps :: frs ps)) (fun vb _ _ => lenOf vb)
  case atStart => exact ⟨b, a0, c0, [], rfl, H.out, by simp, by simp, S.nilF⟩
  case round =>
    obtain ⟨bs, a, c, ps, rfl, hbs, hsp, hle, S⟩ := hrel
    have hi0 := I0.out
    have hbl : ([] : List UInt8).length + bs.length ≤ 140737488355328 := by simp; omega
    obtain ⟨hc1, hc2⟩ : bs.length ≤ c ∧ c ≤ 9223372036854775807 := by
      obtain ⟨a', c', e, q1, q⟩ := Sl.shape hbs
      simp only [Value.slice.injEq, true_and] at e
      unfold maxLen at q
      omega
    by_cases hlt : bs.length < 2
    · have j1 : ¬ 2 ≤ (bs.length : Int) := by omega
      rw [split_stop bs (.inl hlt)] at hsp
      have hsp2 : ps.map (·.2) = (splitB b).1 ∧ bs = (splitB b).2 := by rw [← hsp]; simp
      have HBS := Lib.hid hbs; have HBL := Lib.hid hbl; have HSP2 := Lib.hid hsp2; clear hbs hbl hsp2
      clear hsp
      go_wp2_with (first | (at_builtin; refine step_append8 S (.tmp 41) (.tmp 42) v41 [] rfl pk _ bs rfl (S.oldB HBS.out) HBL.out gw ?_; clear S; intro v43 w S; simp only [List.nil_append] at S) | ((with_reducible show wpList _ _ _ (⟨_, .load 5 _, _, _, _, _⟩ :: _) _ _); first | (refine step_load1 5 _ _ _ rfl (S.cell pk co) _ Try.underlying5 rfl gw ?_) | (refine step_load1 5 _ _ _ rfl (S.row_cell pk _ _ hyr) _ Try.underlying5 rfl gw ?_) | (refine step_load1 5 _ _ _ rfl (S.row_cellS pk _ _ hy) _ Try.underlying5 rfl gw ?_) | (refine step_load1 5 _ _ _ rfl (S.old_cell hy) _ Try.underlying5 rfl gw ?_)) | ((with_reducible show wpList _ _ _ (⟨some 30, .buildSlice 22 0 _, _, _, _, _⟩ :: _) _ _); refine step_build8 S 0 _ [] (by first | rfl | kernel_rfl) rfl (by decide) gw ?_; clear S; intro v30 w S) | ((with_reducible show wpList _ _ _ (⟨_, .slice 22 _ _ _ _, _, _, _, _⟩ :: _) _ _); refine step_cutH 22 5 1 _ _ _ _ _ _ _ _ rfl rfl (by first | rfl | omega) (by first | (first | omega | assumption | (exact Hid.out (by assumption)) | (simp only [List.length_append, List.length_cons, List.length_nil]; omega)) | decide) Try.underlying22 (by kernel_rfl) gw ?_) | (at_builtin; refine step_append8 S (.tmp 30) (.tmp 33) _ _ rfl pk _ _ rfl (by first | assumption | exact S.oldB (Hid.out (by assumption)) | exact Bs.mk0 _ _ | exact S.bs pk | exact S.bsr pk) (by (first | omega | assumption | (exact Hid.out (by assumption)) | (simp only [List.length_append, List.length_cons, List.length_nil]; omega))) gw ?_; clear S; intro v34 w S; (try simp only [List.nil_append] at S)) | ((with_reducible show wpList _ _ _ (⟨_, .slice 22 _ _ _ _, _, _, _, _⟩ :: _) _ _); refine step_cutL 22 5 1 _ _ _ _ _ _ _ _ rfl rfl (by first | rfl | omega) (by first | (first | omega | assumption | (exact Hid.out (by assumption)) | (simp only [List.length_append, List.length_cons, List.length_nil]; omega)) | decide) Try.underlying22 (by kernel_rfl) gw ?_) | ((with_reducible show wpList _ _ _ (⟨some 41, .buildSlice 22 0 _, _, _, _, _⟩ :: _) _ _); refine step_build8 S 0 _ [] (by first | rfl | kernel_rfl) rfl (by decide) gw ?_; clear S; intro v41 w S) | fail)
      go_ret2
      refine ⟨_, _, ps, rfl, HSP2.out.1, ?_⟩
      rw [← HSP2.out.2]
      exact S.perm (List.Perm.swap _ _ _)
    obtain ⟨bk, off, rfl, hcell⟩ := hbs.atA (by omega)
    have h1 : 1 < bs.length := by omega
    have h0 : 0 < bs.length := by omega
    obtain ⟨x, hxe⟩ : ∃ x, x = bs.getD 0 0 := ⟨_, rfl⟩
    obtain ⟨y, hye⟩ : ∃ y, y = bs.getD 1 0 := ⟨_, rfl⟩
    have hx := hcell 0 (by8 x) (by simp [hxe, List.getD, h0])
    have hy := hcell 1 (by8 y) (by simp [hye, List.getD, h1])
    have x256 := x.toNat_lt
    have y256 := y.toNat_lt
    obtain ⟨N, hN⟩ : ∃ N, N = 256 * x.toNat + y.toNat := ⟨_, rfl⟩
    have hfr : frN bs = if N < 2 ∨ 64 < N then 2 else N := by unfold frN; rw [← hxe, ← hye, ← hN]
    have j1 : 2 ≤ (bs.length : Int) := by omega
    have j2 : (0 : Int) < (bs.length : Int) := by omega
    have j3 : (1 : Int) < (bs.length : Int) := by omega
    have HBS := Lib.hid hbs; have HBL := Lib.hid hbl; have HSP := Lib.hid hsp; have HX := Lib.hid hx; have HY := Lib.hid hy; have HFR := Lib.hid hfr; have HN := Lib.hid hN; clear hbs hbl hsp hx hy hfr hN
    clear hxe hye hcell
    go_wp2_with (first | ((with_reducible show wpList _ _ _ (⟨_, .load 5 _, _, _, _, _⟩ :: _) _ _); first | (refine step_load1 5 _ _ _ rfl (S.cell pk co) _ Try.underlying5 rfl gw ?_) | (refine step_load1 5 _ _ _ rfl (S.row_cell pk _ _ hyr) _ Try.underlying5 rfl gw ?_) | (refine step_load1 5 _ _ _ rfl (S.row_cellS pk _ _ hy) _ Try.underlying5 rfl gw ?_) | (refine step_load1 5 _ _ _ rfl (S.old_cell hy) _ Try.underlying5 rfl gw ?_)) | ((with_reducible show wpList _ _ _ (⟨some 30, .buildSlice 22 0 _, _, _, _, _⟩ :: _) _ _); refine step_build8 S 0 _ [] (by first | rfl | kernel_rfl) rfl (by decide) gw ?_; clear S; intro v30 w S) | ((with_reducible show wpList _ _ _ (⟨_, .slice 22 _ _ _ _, _, _, _, _⟩ :: _) _ _); refine step_cutH 22 5 1 _ _ _ _ _ _ _ _ rfl rfl (by first | rfl | omega) (by first | (first | omega | assumption | (exact Hid.out (by assumption)) | (simp only [List.length_append, List.length_cons, List.length_nil]; omega)) | decide) Try.underlying22 (by kernel_rfl) gw ?_) | (at_builtin; refine step_append8 S (.tmp 30) (.tmp 33) _ _ rfl pk _ _ rfl (by first | assumption | exact S.oldB (Hid.out (by assumption)) | exact Bs.mk0 _ _ | exact S.bs pk | exact S.bsr pk) (by (first | omega | assumption | (exact Hid.out (by assumption)) | (simp only [List.length_append, List.length_cons, List.length_nil]; omega))) gw ?_; clear S; intro v34 w S; (try simp only [List.nil_append] at S)) | ((with_reducible show wpList _ _ _ (⟨_, .slice 22 _ _ _ _, _, _, _, _⟩ :: _) _ _); refine step_cutL 22 5 1 _ _ _ _ _ _ _ _ rfl rfl (by first | rfl | omega) (by first | (first | omega | assumption | (exact Hid.out (by assumption)) | (simp only [List.length_append, List.length_cons, List.length_nil]; omega)) | decide) Try.underlying22 (by kernel_rfl) gw ?_) | ((with_reducible show wpList _ _ _ (⟨some 41, .buildSlice 22 0 _, _, _, _, _⟩ :: _) _ _); refine step_build8 S 0 _ [] (by first | rfl | kernel_rfl) rfl (by decide) gw ?_; clear S; intro v41 w S) | (at_builtin; refine step_append8 S (.tmp 41) (.tmp 42) _ _ rfl pk _ _ rfl (by first | assumption | exact S.oldB (Hid.out (by assumption)) | exact Bs.mk0 _ _ | exact S.bs pk | exact S.bsr pk) (by (first | omega | assumption | (exact Hid.out (by assumption)) | (simp only [List.length_append, List.length_cons, List.length_nil]; omega))) gw ?_; clear S; intro v43 w S; (try simp only [List.nil_append] at S)) | fail)
    refine wp_rely S [⟨[], [], [], fun _ v => v = (.slice (some ⟨bk, off, none⟩) bs.length c), fun _ v => []⟩, ⟨[0], [], [], fun _ v => v = .pointer (some ⟨bk, off + 0, none⟩), fun _ v => []⟩, ⟨[0, 1], [], [], fun _ v => v = by8 x, fun _ v => []⟩, ⟨[0, 1, 2], [], [], fun _ v => v = .int .i64 (x.toNat : Int), fun _ v => []⟩, ⟨[0, 1, 2, 3], [], [], fun _ v => v = .int .i64 (256 * (x.toNat : Int)), fun _ v => []⟩, ⟨[], [], [], fun _ v => v = (.slice (some ⟨bk, off, none⟩) bs.length c), fun _ v => []⟩, ⟨[5], [], [], fun _ v => v = .pointer (some ⟨bk, off + 1, none⟩), fun _ v => []⟩, ⟨[5, 6], [], [], fun _ v => v = by8 y, fun _ v => []⟩, ⟨[5, 6, 7], [], [], fun _ v => v = .int .i64 (y.toNat : Int), fun _ v => []⟩, ⟨[0, 1, 2, 3, 4, 5, 6, 7, 8], [], [], fun _ v => v = .int .i64 (N : Int), fun _ v => []⟩, ⟨[0, 1, 2, 3, 4, 5, 6, 7, 8, 9], [], [], fun _ v => v = (.int .i64 (N : Int)), fun _ v => []⟩] ?A2 ?hA2 (by kernel_rfl) (by kernel_rfl) (by kernel_rfl) [0, 1, 2, 3, 4, 5, 6, 7, 8, 9, 10] (by kernel_rfl) ?hok2 ?fin2
    case hA2 => intro u; simp only [putAll, List.length_cons, List.length_nil, Nat.zero_add, Nat.reduceAdd, dstAt, List.getElem?_toArray, List.getElem?_cons_zero, List.getElem?_cons_succ, Option.bind_some, Act.put, List.setIfInBounds_toArray, List.set_cons_zero, List.set_cons_succ]; rfl
    case hok2 =>
      intro i hi
      obtain rfl | rfl | rfl | rfl | rfl | rfl | rfl | rfl | rfl | rfl | rfl : i = 0 ∨ i = 1 ∨ i = 2 ∨ i = 3 ∨ i = 4 ∨ i = 5 ∨ i = 6 ∨ i = 7 ∨ i = 8 ∨ i = 9 ∨ i = 10 := by simp only [List.length_cons, List.length_nil, Nat.zero_add, Nat.reduceAdd] at hi; omega
      · clear hi
        refine step_of rfl rfl rfl ?_
        intro u G w hf S
        simp only [resOf, spec, RSpec.resAt, z0, z1, z2, z3, z4, z5, z6, z7, ptrBlk] at S ⊢
        simp only [does]
        go_simp
        try first | exact S | exact ⟨vv, S⟩ | exact vv
      · clear hi
        refine step_of rfl rfl rfl ?_
        intro u G w hf S
        have f0 : u 0 = (.slice (some ⟨bk, off, none⟩) bs.length c) := hf 0 (by simp)
        simp only [resOf, spec, RSpec.resAt, z0, z1, z2, z3, z4, z5, z6, z7, ptrBlk] at S ⊢
        simp only [f0]
        simp only [does]
        go_simp
        try first | exact S | exact ⟨vv, S⟩ | exact vv
      · clear hi
        refine step_of rfl rfl rfl ?_
        intro u G w hf S
        have f0 : u 0 = (.slice (some ⟨bk, off, none⟩) bs.length c) := hf 0 (by simp)
        have f1 : u 1 = .pointer (some ⟨bk, off + 0, none⟩) := hf 1 (by simp)
        simp only [resOf, spec, RSpec.resAt, z0, z1, z2, z3, z4, z5, z6, z7, ptrBlk] at S ⊢
        simp only [f0, f1]
        refine does_load1 5 (.tmp 10) _ _ rfl (S.old_cell hy) _ Try.underlying5 rfl ?_; exact ⟨rfl, S⟩
      · clear hi
        refine step_of rfl rfl rfl ?_
        intro u G w hf S
        have f0 : u 0 = (.slice (some ⟨bk, off, none⟩) bs.length c) := hf 0 (by simp)
        have f1 : u 1 = .pointer (some ⟨bk, off + 0, none⟩) := hf 1 (by simp)
        have f2 : u 2 = by8 x := hf 2 (by simp)
        simp only [resOf, spec, RSpec.resAt, z0, z1, z2, z3, z4, z5, z6, z7, ptrBlk] at S ⊢
        simp only [f0, f1, f2]
        simp only [does]
        go_simp
        try first | exact S | exact ⟨vv, S⟩ | exact vv
      · clear hi
        refine step_of rfl rfl rfl ?_
        intro u G w hf S
        have f0 : u 0 = (.slice (some ⟨bk, off, none⟩) bs.length c) := hf 0 (by simp)
        have f1 : u 1 = .pointer (some ⟨bk, off + 0, none⟩) := hf 1 (by simp)
        have f2 : u 2 = by8 x := hf 2 (by simp)
        have f3 : u 3 = .int .i64 (x.toNat : Int) := hf 3 (by simp)
        simp only [resOf, spec, RSpec.resAt, z0, z1, z2, z3, z4, z5, z6, z7, ptrBlk] at S ⊢
        simp only [f0, f1, f2, f3]
        simp only [does]; go_simp; first | (refine ⟨?_, S⟩; rw [wrapI _ (by omega) (by omega)]) | (rw [wrapI _ (by omega) (by omega)])
      · clear hi
        refine step_of rfl rfl rfl ?_
        intro u G w hf S
        simp only [resOf, spec, RSpec.resAt, z0, z1, z2, z3, z4, z5, z6, z7, ptrBlk] at S ⊢
        simp only [does]
        go_simp
        try first | exact S | exact ⟨vv, S⟩ | exact vv
      · clear hi
        refine step_of rfl rfl rfl ?_
        intro u G w hf S
        have f5 : u 5 = (.slice (some ⟨bk, off, none⟩) bs.length c) := hf 5 (by simp)
        simp only [resOf, spec, RSpec.resAt, z0, z1, z2, z3, z4, z5, z6, z7, ptrBlk] at S ⊢
        simp only [f5]
        simp only [does]
        go_simp
        try first | exact S | exact ⟨vv, S⟩ | exact vv
      · clear hi
        refine step_of rfl rfl rfl ?_
        intro u G w hf S
        have f5 : u 5 = (.slice (some ⟨bk, off, none⟩) bs.length c) := hf 5 (by simp)
        have f6 : u 6 = .pointer (some ⟨bk, off + 1, none⟩) := hf 6 (by simp)
        simp only [resOf, spec, RSpec.resAt, z0, z1, z2, z3, z4, z5, z6, z7, ptrBlk] at S ⊢
        simp only [f5, f6]
        refine does_load1 5 (.tmp 15) _ _ rfl (S.old_cell hy) _ Try.underlying5 rfl ?_; exact ⟨rfl, S⟩
      · clear hi
        refine step_of rfl rfl rfl ?_
        intro u G w hf S
        have f5 : u 5 = (.slice (some ⟨bk, off, none⟩) bs.length c) := hf 5 (by simp)
        have f6 : u 6 = .pointer (some ⟨bk, off + 1, none⟩) := hf 6 (by simp)
        have f7 : u 7 = by8 y := hf 7 (by simp)
        simp only [resOf, spec, RSpec.resAt, z0, z1, z2, z3, z4, z5, z6, z7, ptrBlk] at S ⊢
        simp only [f5, f6, f7]
        simp only [does]
        go_simp
        try first | exact S | exact ⟨vv, S⟩ | exact vv
      · clear hi
        refine step_of rfl rfl rfl ?_
        intro u G w hf S
        have f0 : u 0 = (.slice (some ⟨bk, off, none⟩) bs.length c) := hf 0 (by simp)
        have f1 : u 1 = .pointer (some ⟨bk, off + 0, none⟩) := hf 1 (by simp)
        have f2 : u 2 = by8 x := hf 2 (by simp)
        have f3 : u 3 = .int .i64 (x.toNat : Int) := hf 3 (by simp)
        have f4 : u 4 = .int .i64 (256 * (x.toNat : Int)) := hf 4 (by simp)
        have f5 : u 5 = (.slice (some ⟨bk, off, none⟩) bs.length c) := hf 5 (by simp)
        have f6 : u 6 = .pointer (some ⟨bk, off + 1, none⟩) := hf 6 (by simp)
        have f7 : u 7 = by8 y := hf 7 (by simp)
        have f8 : u 8 = .int .i64 (y.toNat : Int) := hf 8 (by simp)
        simp only [resOf, spec, RSpec.resAt, z0, z1, z2, z3, z4, z5, z6, z7, ptrBlk] at S ⊢
        simp only [f0, f1, f2, f3, f4, f5, f6, f7, f8]
        simp only [does]; go_simp; first | (refine ⟨?_, S⟩; rw [HN.out, wrapI _ (by omega) (by omega)]; rfl) | (rw [HN.out, wrapI _ (by omega) (by omega)]; rfl)
      · clear hi
        refine step_of rfl rfl rfl ?_
        intro u G w hf S
        have f0 : u 0 = (.slice (some ⟨bk, off, none⟩) bs.length c) := hf 0 (by simp)
        have f1 : u 1 = .pointer (some ⟨bk, off + 0, none⟩) := hf 1 (by simp)
        have f2 : u 2 = by8 x := hf 2 (by simp)
        have f3 : u 3 = .int .i64 (x.toNat : Int) := hf 3 (by simp)
        have f4 : u 4 = .int .i64 (256 * (x.toNat : Int)) := hf 4 (by simp)
        have f5 : u 5 = (.slice (some ⟨bk, off, none⟩) bs.length c) := hf 5 (by simp)
        have f6 : u 6 = .pointer (some ⟨bk, off + 1, none⟩) := hf 6 (by simp)
        have f7 : u 7 = by8 y := hf 7 (by simp)
        have f8 : u 8 = .int .i64 (y.toNat : Int) := hf 8 (by simp)
        have f9 : u 9 = .int .i64 (N : Int) := hf 9 (by simp)
        simp only [resOf, spec, RSpec.resAt, z0, z1, z2, z3, z4, z5, z6, z7, ptrBlk] at S ⊢
        simp only [f0, f1, f2, f3, f4, f5, f6, f7, f8, f9]
        simp only [does]
        go_simp
        try first | exact S | exact ⟨vv, S⟩ | exact vv
    case fin2 =>
      intro u w hf S
      have f0 : u 0 = (.slice (some ⟨bk, off, none⟩) bs.length c) := hf 0 (by simp)
      have f1 : u 1 = .pointer (some ⟨bk, off + 0, none⟩) := hf 1 (by simp)
      have f2 : u 2 = by8 x := hf 2 (by simp)
      have f3 : u 3 = .int .i64 (x.toNat : Int) := hf 3 (by simp)
      have f4 : u 4 = .int .i64 (256 * (x.toNat : Int)) := hf 4 (by simp)
      have f5 : u 5 = (.slice (some ⟨bk, off, none⟩) bs.length c) := hf 5 (by simp)
      have f6 : u 6 = .pointer (some ⟨bk, off + 1, none⟩) := hf 6 (by simp)
      have f7 : u 7 = by8 y := hf 7 (by simp)
      have f8 : u 8 = .int .i64 (y.toNat : Int) := hf 8 (by simp)
      have f9 : u 9 = .int .i64 (N : Int) := hf 9 (by simp)
      have f10 : u 10 = (.int .i64 (N : Int)) := hf 10 (by simp)
      simp only [resOf, spec, RSpec.resAt, z0, z1, z2, z3, z4, z5, z6, z7, ptrBlk] at S
      clear hf
      simp only [List.length_cons, List.length_nil, Nat.zero_add, Nat.reduceAdd, List.drop_succ_cons, List.drop_zero, f0, f1, f2, f3, f4, f5, f6, f7, f8, f9, f10]
      clear f0 f1 f2 f3 f4 f5 f6 f7 f8 f9 f10
      rcases Nat.lt_or_ge N 2 with hn | hn
      · have e1 : (N : Int) < 2 := by omega
        have e4 : ¬ (bs.length : Int) < 2 := by omega
        replace HFR : Hid (frN bs = 2) := Lib.hid (by rw [HFR.out, if_pos (by omega)])
        have hkc : 2 ≤ c := by omega
        have hb2 := Bs.cutH HBS.out 2 (by omega) rfl
        have hb3 := Bs.cutL HBS.out 2 (by omega) rfl
        have hm := split_more (ps.map (·.2)) bs (by rw [HFR.out]; omega)
        rw [HFR.out, HSP.out] at hm
        have hck : ([] : List UInt8).length + (bs.take 2).length ≤ 140737488355328 := by simp; omega
        have hl2 : (bs.take 2).length = 2 := by simp; omega
        have hl3 : (bs.drop 2).length = bs.length - 2 := by simp
        rw [← hl3] at hb3
        obtain ⟨A, hA⟩ : ∃ A, A = bs.take 2 := ⟨_, rfl⟩
        obtain ⟨B, hB⟩ : ∃ B, B = bs.drop 2 := ⟨_, rfl⟩
        rw [← hA] at hb2 hm hck hl2
        rw [← hB] at hb3 hm hl3
        have hlen : (ps.length + 1) * 24 ≤ 140737488355328 := by have := I0.out; omega
        have HB2 := Lib.hid hb2; have HB3 := Lib.hid hb3; have HM := Lib.hid hm; have HCK := Lib.hid hck; have HL2 := Lib.hid hl2; have HL3 := Lib.hid hl3; have HLEN := Lib.hid hlen; clear hb2 hb3 hm hck hl2 hl3 hlen
        clear hA hB
        go_wp2_with (first | (at_builtin; refine step_append8 S (.tmp 30) (.tmp 33) v30 [] rfl pk _ A rfl (S.oldB HB2.out) HCK.out gw ?_; clear S; intro v34 w S; simp only [List.nil_append] at S) | ((with_reducible show wpList _ _ _ (⟨some 35, .buildSlice 23 1 _, _, _, _, _⟩ :: _) _ _); refine step_buildF1 S (.tmp 34) v34 rfl (one_sl (S.sl (v := v34) pk)).2 gw ?_; clear S; intro v35 w S) | (at_builtin; refine step_appendF S (.tmp 29) (.tmp 35) _ ps rfl pk v35 [v34] rfl (S.sl (v := v35) pk) (one1 (one_sl (S.sl (v := v34) pk)).1) HLEN.out gw ?_; clear S; intro v36 w S) | ((with_reducible show wpList _ _ _ (⟨_, .load 5 _, _, _, _, _⟩ :: _) _ _); first | (refine step_load1 5 _ _ _ rfl (S.cell pk co) _ Try.underlying5 rfl gw ?_) | (refine step_load1 5 _ _ _ rfl (S.row_cell pk _ _ hyr) _ Try.underlying5 rfl gw ?_) | (refine step_load1 5 _ _ _ rfl (S.row_cellS pk _ _ hy) _ Try.underlying5 rfl gw ?_) | (refine step_load1 5 _ _ _ rfl (S.old_cell hy) _ Try.underlying5 rfl gw ?_)) | ((with_reducible show wpList _ _ _ (⟨some 30, .buildSlice 22 0 _, _, _, _, _⟩ :: _) _ _); refine step_build8 S 0 _ [] (by first | rfl | kernel_rfl) rfl (by decide) gw ?_; clear S; intro v30 w S) | ((with_reducible show wpList _ _ _ (⟨_, .slice 22 _ _ _ _, _, _, _, _⟩ :: _) _ _); refine step_cutH 22 5 1 _ _ _ _ _ _ _ _ rfl rfl (by first | rfl | omega) (by first | (first | omega | assumption | (exact Hid.out (by assumption)) | (simp only [List.length_append, List.length_cons, List.length_nil]; omega)) | decide) Try.underlying22 (by kernel_rfl) gw ?_) | ((with_reducible show wpList _ _ _ (⟨_, .slice 22 _ _ _ _, _, _, _, _⟩ :: _) _ _); refine step_cutL 22 5 1 _ _ _ _ _ _ _ _ rfl rfl (by first | rfl | omega) (by first | (first | omega | assumption | (exact Hid.out (by assumption)) | (simp only [List.length_append, List.length_cons, List.length_nil]; omega)) | decide) Try.underlying22 (by kernel_rfl) gw ?_) | ((with_reducible show wpList _ _ _ (⟨some 41, .buildSlice 22 0 _, _, _, _, _⟩ :: _) _ _); refine step_build8 S 0 _ [] (by first | rfl | kernel_rfl) rfl (by decide) gw ?_; clear S; intro v41 w S) | (at_builtin; refine step_append8 S (.tmp 41) (.tmp 42) _ _ rfl pk _ _ rfl (by first | assumption | exact S.oldB (Hid.out (by assumption)) | exact Bs.mk0 _ _ | exact S.bs pk | exact S.bsr pk) (by (first | omega | assumption | (exact Hid.out (by assumption)) | (simp only [List.length_append, List.length_cons, List.length_nil]; omega))) gw ?_; clear S; intro v43 w S; (try simp only [List.nil_append] at S)) | fail)
        go_roundw
        case rel =>
          refine ⟨B, cutA (some ⟨bk, off, none⟩) c 2 1, c - 2, ps ++ [(v34, A)], by rw [HL3.out], HB3.out, ?_, ?_, ?_⟩
          · rw [List.map_append, List.map_cons, List.map_nil]; exact HM.out
          · rw [List.length_append, HL3.out, List.length_singleton]; omega
          · have := Has.moreF (F := []) (ps := ps) (u := v34) (xs := A) (by rw [List.append_nil]; exact S)
            simpa only [List.append_nil] using this
        case measure => simp only [lenOf]; omega
      · rcases Nat.lt_or_ge 64 N with hn2 | hn2
        · have e1 : ¬ (N : Int) < 2 := by omega
          have e2 : 64 < (N : Int) := by omega
          replace HFR : Hid (frN bs = 2) := Lib.hid (by rw [HFR.out, if_pos (by omega)])
          have hkc : 2 ≤ c := by omega
          have hb2 := Bs.cutH HBS.out 2 (by omega) rfl
          have hb3 := Bs.cutL HBS.out 2 (by omega) rfl
          have hm := split_more (ps.map (·.2)) bs (by rw [HFR.out]; omega)
          rw [HFR.out, HSP.out] at hm
          have hck : ([] : List UInt8).length + (bs.take 2).length ≤ 140737488355328 := by simp; omega
          have hl2 : (bs.take 2).length = 2 := by simp; omega
          have hl3 : (bs.drop 2).length = bs.length - 2 := by simp
          rw [← hl3] at hb3
          obtain ⟨A, hA⟩ : ∃ A, A = bs.take 2 := ⟨_, rfl⟩
          obtain ⟨B, hB⟩ : ∃ B, B = bs.drop 2 := ⟨_, rfl⟩
          rw [← hA] at hb2 hm hck hl2
          rw [← hB] at hb3 hm hl3
          have hlen : (ps.length + 1) * 24 ≤ 140737488355328 := by have := I0.out; omega
          have HB2 := Lib.hid hb2; have HB3 := Lib.hid hb3; have HM := Lib.hid hm; have HCK := Lib.hid hck; have HL2 := Lib.hid hl2; have HL3 := Lib.hid hl3; have HLEN := Lib.hid hlen; clear hb2 hb3 hm hck hl2 hl3 hlen
          clear hA hB
          go_wp2_with (first | (at_builtin; refine step_append8 S (.tmp 30) (.tmp 33) v30 [] rfl pk _ A rfl (S.oldB HB2.out) HCK.out gw ?_; clear S; intro v34 w S; simp only [List.nil_append] at S) | ((with_reducible show wpList _ _ _ (⟨some 35, .buildSlice 23 1 _, _, _, _, _⟩ :: _) _ _); refine step_buildF1 S (.tmp 34) v34 rfl (one_sl (S.sl (v := v34) pk)).2 gw ?_; clear S; intro v35 w S) | (at_builtin; refine step_appendF S (.tmp 29) (.tmp 35) _ ps rfl pk v35 [v34] rfl (S.sl (v := v35) pk) (one1 (one_sl (S.sl (v := v34) pk)).1) HLEN.out gw ?_; clear S; intro v36 w S) | ((with_reducible show wpList _ _ _ (⟨_, .load 5 _, _, _, _, _⟩ :: _) _ _); first | (refine step_load1 5 _ _ _ rfl (S.cell pk co) _ Try.underlying5 rfl gw ?_) | (refine step_load1 5 _ _ _ rfl (S.row_cell pk _ _ hyr) _ Try.underlying5 rfl gw ?_) | (refine step_load1 5 _ _ _ rfl (S.row_cellS pk _ _ hy) _ Try.underlying5 rfl gw ?_) | (refine step_load1 5 _ _ _ rfl (S.old_cell hy) _ Try.underlying5 rfl gw ?_)) | ((with_reducible show wpList _ _ _ (⟨some 30, .buildSlice 22 0 _, _, _, _, _⟩ :: _) _ _); refine step_build8 S 0 _ [] (by first | rfl | kernel_rfl) rfl (by decide) gw ?_; clear S; intro v30 w S) | ((with_reducible show wpList _ _ _ (⟨_, .slice 22 _ _ _ _, _, _, _, _⟩ :: _) _ _); refine step_cutH 22 5 1 _ _ _ _ _ _ _ _ rfl rfl (by first | rfl | omega) (by first | (first | omega | assumption | (exact Hid.out (by assumption)) | (simp only [List.length_append, List.length_cons, List.length_nil]; omega)) | decide) Try.underlying22 (by kernel_rfl) gw ?_) | ((with_reducible show wpList _ _ _ (⟨_, .slice 22 _ _ _ _, _, _, _, _⟩ :: _) _ _); refine step_cutL 22 5 1 _ _ _ _ _ _ _ _ rfl rfl (by first | rfl | omega) (by first | (first | omega | assumption | (exact Hid.out (by assumption)) | (simp only [List.length_append, List.length_cons, List.length_nil]; omega)) | decide) Try.underlying22 (by kernel_rfl) gw ?_) | ((with_reducible show wpList _ _ _ (⟨some 41, .buildSlice 22 0 _, _, _, _, _⟩ :: _) _ _); refine step_build8 S 0 _ [] (by first | rfl | kernel_rfl) rfl (by decide) gw ?_; clear S; intro v41 w S) | (at_builtin; refine step_append8 S (.tmp 41) (.tmp 42) _ _ rfl pk _ _ rfl (by first | assumption | exact S.oldB (Hid.out (by assumption)) | exact Bs.mk0 _ _ | exact S.bs pk | exact S.bsr pk) (by (first | omega | assumption | (exact Hid.out (by assumption)) | (simp only [List.length_append, List.length_cons, List.length_nil]; omega))) gw ?_; clear S; intro v43 w S; (try simp only [List.nil_append] at S)) | fail)
          go_roundw
          case rel =>
            refine ⟨B, cutA (some ⟨bk, off, none⟩) c 2 1, c - 2, ps ++ [(v34, A)], by rw [HL3.out], HB3.out, ?_, ?_, ?_⟩
            · rw [List.map_append, List.map_cons, List.map_nil]; exact HM.out
            · rw [List.length_append, HL3.out, List.length_singleton]; omega
            · have := Has.moreF (F := []) (ps := ps) (u := v34) (xs := A) (by rw [List.append_nil]; exact S)
              simpa only [List.append_nil] using this
          case measure => simp only [lenOf]; omega
        · have e1 : ¬ (N : Int) < 2 := by omega
          have e2 : ¬ 64 < (N : Int) := by omega
          rcases Nat.lt_or_ge bs.length N with hn3 | hn3
          · have e3 : (bs.length : Int) < (N : Int) := by omega
            have hm := HSP.out
            rw [split_stop bs (.inr (by rw [HFR.out, if_neg (by omega)]; exact hn3))] at hm
            have hsp2 : ps.map (·.2) = (splitB b).1 ∧ bs = (splitB b).2 := by rw [← hm]; simp
            have HSP2 := Lib.hid hsp2; clear hsp2
            clear hm
            go_wp2_with (first | (at_builtin; refine step_append8 S (.tmp 41) (.tmp 42) v41 [] rfl pk _ bs rfl (S.oldB HBS.out) HBL.out gw ?_; clear S; intro v43 w S; simp only [List.nil_append] at S) | ((with_reducible show wpList _ _ _ (⟨_, .load 5 _, _, _, _, _⟩ :: _) _ _); first | (refine step_load1 5 _ _ _ rfl (S.cell pk co) _ Try.underlying5 rfl gw ?_) | (refine step_load1 5 _ _ _ rfl (S.row_cell pk _ _ hyr) _ Try.underlying5 rfl gw ?_) | (refine step_load1 5 _ _ _ rfl (S.row_cellS pk _ _ hy) _ Try.underlying5 rfl gw ?_) | (refine step_load1 5 _ _ _ rfl (S.old_cell hy) _ Try.underlying5 rfl gw ?_)) | ((with_reducible show wpList _ _ _ (⟨some 30, .buildSlice 22 0 _, _, _, _, _⟩ :: _) _ _); refine step_build8 S 0 _ [] (by first | rfl | kernel_rfl) rfl (by decide) gw ?_; clear S; intro v30 w S) | ((with_reducible show wpList _ _ _ (⟨_, .slice 22 _ _ _ _, _, _, _, _⟩ :: _) _ _); refine step_cutH 22 5 1 _ _ _ _ _ _ _ _ rfl rfl (by first | rfl | omega) (by first | (first | omega | assumption | (exact Hid.out (by assumption)) | (simp only [List.length_append, List.length_cons, List.length_nil]; omega)) | decide) Try.underlying22 (by kernel_rfl) gw ?_) | (at_builtin; refine step_append8 S (.tmp 30) (.tmp 33) _ _ rfl pk _ _ rfl (by first | assumption | exact S.oldB (Hid.out (by assumption)) | exact Bs.mk0 _ _ | exact S.bs pk | exact S.bsr pk) (by (first | omega | assumption | (exact Hid.out (by assumption)) | (simp only [List.length_append, List.length_cons, List.length_nil]; omega))) gw ?_; clear S; intro v34 w S; (try simp only [List.nil_append] at S)) | ((with_reducible show wpList _ _ _ (⟨_, .slice 22 _ _ _ _, _, _, _, _⟩ :: _) _ _); refine step_cutL 22 5 1 _ _ _ _ _ _ _ _ rfl rfl (by first | rfl | omega) (by first | (first | omega | assumption | (exact Hid.out (by assumption)) | (simp only [List.length_append, List.length_cons, List.length_nil]; omega)) | decide) Try.underlying22 (by kernel_rfl) gw ?_) | ((with_reducible show wpList _ _ _ (⟨some 41, .buildSlice 22 0 _, _, _, _, _⟩ :: _) _ _); refine step_build8 S 0 _ [] (by first | rfl | kernel_rfl) rfl (by decide) gw ?_; clear S; intro v41 w S) | fail)
            go_ret2
            refine ⟨_, _, ps, rfl, HSP2.out.1, ?_⟩
            rw [← HSP2.out.2]
            exact S.perm (List.Perm.swap _ _ _)
          · have e3 : ¬ (bs.length : Int) < (N : Int) := by omega
            replace HFR : Hid (frN bs = N) := Lib.hid (by rw [HFR.out, if_neg (by omega)])
            have hkc : N ≤ c := by omega
            have hb2 := Bs.cutH HBS.out N (by omega) rfl
            have hb3 := Bs.cutL HBS.out N (by omega) rfl
            have hm := split_more (ps.map (·.2)) bs (by rw [HFR.out]; omega)
            rw [HFR.out, HSP.out] at hm
            have hck : ([] : List UInt8).length + (bs.take N).length ≤ 140737488355328 := by simp; omega
            have hl2 : (bs.take N).length = N := by simp; omega
            have hl3 : (bs.drop N).length = bs.length - N := by simp
            rw [← hl3] at hb3
            obtain ⟨A, hA⟩ : ∃ A, A = bs.take N := ⟨_, rfl⟩
            obtain ⟨B, hB⟩ : ∃ B, B = bs.drop N := ⟨_, rfl⟩
            rw [← hA] at hb2 hm hck hl2
            rw [← hB] at hb3 hm hl3
            have hlen : (ps.length + 1) * 24 ≤ 140737488355328 := by have := I0.out; omega
            have HB2 := Lib.hid hb2; have HB3 := Lib.hid hb3; have HM := Lib.hid hm; have HCK := Lib.hid hck; have HL2 := Lib.hid hl2; have HL3 := Lib.hid hl3; have HLEN := Lib.hid hlen; clear hb2 hb3 hm hck hl2 hl3 hlen
            clear hA hB
            go_wp2_with (first | (at_builtin; refine step_append8 S (.tmp 30) (.tmp 33) v30 [] rfl pk _ A rfl (S.oldB HB2.out) HCK.out gw ?_; clear S; intro v34 w S; simp only [List.nil_append] at S) | ((with_reducible show wpList _ _ _ (⟨some 35, .buildSlice 23 1 _, _, _, _, _⟩ :: _) _ _); refine step_buildF1 S (.tmp 34) v34 rfl (one_sl (S.sl (v := v34) pk)).2 gw ?_; clear S; intro v35 w S) | (at_builtin; refine step_appendF S (.tmp 29) (.tmp 35) _ ps rfl pk v35 [v34] rfl (S.sl (v := v35) pk) (one1 (one_sl (S.sl (v := v34) pk)).1) HLEN.out gw ?_; clear S; intro v36 w S) | ((with_reducible show wpList _ _ _ (⟨_, .load 5 _, _, _, _, _⟩ :: _) _ _); first | (refine step_load1 5 _ _ _ rfl (S.cell pk co) _ Try.underlying5 rfl gw ?_) | (refine step_load1 5 _ _ _ rfl (S.row_cell pk _ _ hyr) _ Try.underlying5 rfl gw ?_) | (refine step_load1 5 _ _ _ rfl (S.row_cellS pk _ _ hy) _ Try.underlying5 rfl gw ?_) | (refine step_load1 5 _ _ _ rfl (S.old_cell hy) _ Try.underlying5 rfl gw ?_)) | ((with_reducible show wpList _ _ _ (⟨some 30, .buildSlice 22 0 _, _, _, _, _⟩ :: _) _ _); refine step_build8 S 0 _ [] (by first | rfl | kernel_rfl) rfl (by decide) gw ?_; clear S; intro v30 w S) | ((with_reducible show wpList _ _ _ (⟨_, .slice 22 _ _ _ _, _, _, _, _⟩ :: _) _ _); refine step_cutH 22 5 1 _ _ _ _ _ _ _ _ rfl rfl (by first | rfl | omega) (by first | (first | omega | assumption | (exact Hid.out (by assumption)) | (simp only [List.length_append, List.length_cons, List.length_nil]; omega)) | decide) Try.underlying22 (by kernel_rfl) gw ?_) | ((with_reducible show wpList _ _ _ (⟨_, .slice 22 _ _ _ _, _, _, _, _⟩ :: _) _ _); refine step_cutL 22 5 1 _ _ _ _ _ _ _ _ rfl rfl (by first | rfl | omega) (by first | (first | omega | assumption | (exact Hid.out (by assumption)) | (simp only [List.length_append, List.length_cons, List.length_nil]; omega)) | decide) Try.underlying22 (by kernel_rfl) gw ?_) | ((with_reducible show wpList _ _ _ (⟨some 41, .buildSlice 22 0 _, _, _, _, _⟩ :: _) _ _); refine step_build8 S 0 _ [] (by first | rfl | kernel_rfl) rfl (by decide) gw ?_; clear S; intro v41 w S) | (at_builtin; refine step_append8 S (.tmp 41) (.tmp 42) _ _ rfl pk _ _ rfl (by first | assumption | exact S.oldB (Hid.out (by assumption)) | exact Bs.mk0 _ _ | exact S.bs pk | exact S.bsr pk) (by (first | omega | assumption | (exact Hid.out (by assumption)) | (simp only [List.length_append, List.length_cons, List.length_nil]; omega))) gw ?_; clear S; intro v43 w S; (try simp only [List.nil_append] at S)) | fail)
            go_roundw
            case rel =>
              refine ⟨B, cutA (some ⟨bk, off, none⟩) c N 1, c - N, ps ++ [(v34, A)], by rw [HL3.out], HB3.out, ?_, ?_, ?_⟩
              · rw [List.map_append, List.map_cons, List.map_nil]; exact HM.out
              · rw [List.length_append, HL3.out, List.length_singleton]; omega
              · have := Has.moreF (F := []) (ps := ps) (u := v34) (xs := A) (by rw [List.append_nil]; exact S)
                simpa only [List.append_nil] using this
            case measure => simp only [lenOf]; omega
end Go.Proofs.Ytfhkmmagpnojmaa
