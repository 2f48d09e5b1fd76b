/- The reference's Append to a log. No condition. -/
import Derived.Test.YtfhkmmagpnojmaaDoorBd
import Derived.Test.YtfhkmmagpnojmaaDoorLgG
import Derived.Test.YtfhkmmagpnojmaaDoorLgS
set_option linter.unusedSimpArgs false
set_option linter.unusedVariables false
namespace Go.Proofs.YtfhkmmagpnojmaaDoor
open Go.RowKit

section
variable {w0 w : World} {F : List Res} {v : Value} {e size n : Nat} {xs : List Value}
theorem rdFoot_sub (v : Value) (n : Nat) : ∀ g ∈ rdFoot v n, g ∈ v.ownBlock.toList := by
  intro g hg
  unfold rdFoot at hg
  split at hg
  · cases hg
  · exact hg
theorem Has.toRd (S : Has w0 w (row v e size n xs :: F)) : Has w0 w (rd v size n xs :: F) :=
  S.swap (fun h => ⟨Sl.of_own h, fun g hg => (row v e size n xs).live w h g (rdFoot_sub v n g hg)⟩) (rdFoot_sub v n)
theorem cutA_block (a : Option Addr) (c l s m k : Nat) : ∀ g ∈ (Value.slice (cutA a c l s) m k).ownBlock.toList, g ∈ (Value.slice a n c).ownBlock.toList := by
  intro g hg
  unfold cutA at hg
  split at hg
  · cases a <;> exact hg
  · cases a with
    | none => exact hg
    | some x =>
      simp only [Option.map_some, Value.ownBlock] at hg ⊢
      have : (x.add (l * s)).block = x.block := by unfold Addr.add; split <;> rfl
      rw [this] at hg
      exact hg
theorem Has.cutRd {a : Option Addr} {c : Nat} (S : Has w0 w (row (.slice a n c) e size n xs :: F)) (l m : Nat) (hn : l + m ≤ n) : Has w0 w (rd (.slice (cutA a c l size) m (c - l)) size m ((xs.drop (l * size)).take (m * size)) :: F) :=
  S.swap (fun h => ⟨Sl.cut (Sl.of_own h) l m hn, fun g hg => (row (.slice a n c) e size n xs).live w h g (cutA_block a c l size m _ g (rdFoot_sub _ m g hg))⟩) (fun g hg => cutA_block a c l size m _ g (rdFoot_sub _ m g hg))
end
abbrev rdRc (v : Value) (l : List Rcd) : Res := rd v 35 l.length (l.flatMap rcdL)
theorem Has.cutRc {w0 w : World} {F : List Res} {a : Option Addr} {n c : Nat} {l : List Rcd} (S : Has w0 w (row (.slice a n c) 50 35 n (l.flatMap rcdL) :: F)) (hl : l.length = n) (k : Nat) (hk : k ≤ n) : Has w0 w (rdRc (.slice (cutA a c k 35) (n - k) (c - k)) (l.drop k) :: F) := by
  have := S.cutRd k (n - k) (by omega)
  have hlen : (l.drop k).length = n - k := by simp [hl]
  rw [drop_flat rcdL 35 rcdL_length, List.take_of_length_le (by rw [flat_len rcdL 35 rcdL_length, hlen]; exact Nat.le_refl _)] at this
  show Has w0 w (rd _ 35 (l.drop k).length _ :: F)
  rw [hlen]
  exact this

def RdLg (w : World) (g : Lg) (e : Ending) (w' : World) : Prop := ∃ v, e = .returned (.agg (lgL g v).toArray) ∧ Has w w' [rdRc v g.recs]
def RdLgE (w : World) (g : Lg) (E : Int) (e : Ending) (w' : World) : Prop := ∃ v, e = .returned (.tuple #[.agg (lgL g v).toArray, .int .i64 E]) ∧ Has w w' [rdRc v g.recs]

theorem keep_all (l : List Rcd) (x : Rcd) (h : l.length < 32) : keepR l ++ [x] = l ++ [x] := by unfold keepR; rw [show l.length + 1 - 32 = 0 by omega]; rfl
theorem keep_one (l : List Rcd) (x : Rcd) (h : l.length = 32) : keepR l ++ [x] = (l ++ [x]).drop 1 := by
  unfold keepR
  rw [show l.length + 1 - 32 = 1 by omega]
  cases l with
  | nil => cases h
  | cons y ys => rfl

set_option maxRecDepth 100000 in
set_option maxHeartbeats 8000000 in
theorem refAppend_s (g : Lg) (rv : Value) (t : UInt64) (k : UInt8) (c : I64) (bv : Value) (b : List UInt8) (w0 : World) (hr : Sl w0 35 rv g.recs.length (g.recs.flatMap rcdL)) (hb : Bs w0 bv b) (hE : apE g t k c b.length = 0) :
    Calls Tryd.prog 53 #[.agg (lgL g rv).toArray, .int .u64 (t.toNat : Int), by8 k, .int .i64 c.v, bv] w0 (RdLg w0 (apR g t k c b)) := by
  have S := Has.start w0
  obtain ⟨D, x, ok⟩ := apOk g t k c b hE
  obtain ⟨a0, c0, rfl, k1, k2⟩ := Sl.shape hr
  obtain ⟨a1, c1, rfl, k3, k4⟩ := Sl.shape hb
  unfold maxLen at k2 k4
  have hn32 := ok.n
  have qk := lgL_link g (.slice a0 g.recs.length c0)
  have pt := fun w h => twinLog_s g (.slice a0 g.recs.length c0) w h (by omega)
  have pl := fun w h => refLink_s g.link t k c (.slice a1 b.length c1) b w g.len h ok.b64 ok.c0 ok.c1
  rw [← ok.eD] at pl
  have hDl := ok.eDl
  have hG0 := ok.g0
  have hG1 := ok.g1
  have hG2 := ok.g2
  obtain ⟨hx0, hx1, hx2, hx3⟩ := And.intro ok.x0 (And.intro ok.x1 (And.intro ok.x2 ok.x3))
  have hcn := ok.cnt
  unfold RdLg
  obtain ⟨GG, hG⟩ : ∃ G, G = apR g t k c b := ⟨_, rfl⟩
  rw [← hG] at hG0 hG1 hG2 ⊢
  clear ok hE hG
  have hwC : IntKind.u32.wrap ((g.cnt.toNat : Int) + 1) = (GG.cnt.toNat : Int) := by rw [IntKind.wrap_u32, ← hG0]; omega
  have hs0 := fun v => lgL_set0 g v GG.cnt
  obtain ⟨g1, hg1⟩ : ∃ q : Lg, q = ⟨GG.cnt, g.link, g.recs, g.len⟩ := ⟨_, rfl⟩
  rw [← hg1] at hs0
  have hsK : ∀ v, ((lgL g1 v).toArray.toList.take 1 ++ (arr8 D).toList ++ (lgL g1 v).toArray.toList.drop (1 + 32)).toArray = (lgL ⟨GG.cnt, D, g.recs, hDl⟩ v).toArray := fun v => by rw [hg1]; exact lgL_setK ⟨GG.cnt, g.link, g.recs, g.len⟩ v D hDl
  have hgm : ∀ v, (lgL ⟨GG.cnt, D, g.recs, hDl⟩ v).toArray = (lgL GG v).toArray := fun v => by unfold lgL; rw [hG1]
  obtain ⟨g2, hg2⟩ : ∃ q : Lg, q = ⟨GG.cnt, D, g.recs, hDl⟩ := ⟨_, rfl⟩
  rw [← hg2] at hsK hgm
  rw [← hx3] at hsK
  clear hg1 hg2
  have hxk := rcdL_link x
  have hxl := x.len
  have hgl := g.len
  rw [hx3] at hxk
  obtain ⟨l, hl⟩ : ∃ l, l = g.recs := ⟨_, rfl⟩
  rw [← hl] at hr pt qk hn32 hG2 k1 ⊢
  have hlen : (l.length + [x].length) * 56 ≤ 140737488355328 := by simp; omega
  obtain ⟨L2, hL2⟩ : ∃ L2, L2 = l ++ [x] := ⟨_, rfl⟩
  have hL2l : L2.length = l.length + 1 := by rw [hL2]; simp
  by_cases h32 : l.length = 32
  · have hrec : GG.recs = L2.drop 1 := by rw [hG2, hL2]; exact keep_one l x h32
    have i1 : (32 : Int) < (L2.length : Int) := by omega
    have i2 : 1 ≤ L2.length := by omega
    rw [hrec]
    obtain ⟨L3, hL3⟩ : ∃ L3, L3 = L2.drop 1 := ⟨_, rfl⟩
    rw [← hL3]
    have HR := Lib.hid hr; have HB := Lib.hid hb; have PT := Lib.hid pt; have PL := Lib.hid pl; have QK := Lib.hid qk; have HDL := Lib.hid hDl; have HG0 := Lib.hid hG0; have HG1 := Lib.hid hG1; have HG2 := Lib.hid hG2; have HX0 := Lib.hid hx0; have HX1 := Lib.hid hx1; have HX2 := Lib.hid hx2; have HX3 := Lib.hid hx3; have HGM := Lib.hid hgm; have HS0 := Lib.hid hs0; have HSK := Lib.hid hsK; have HXK := Lib.hid hxk; have HXL := Lib.hid hxl; have HGL := Lib.hid hgl; have HLEN := Lib.hid hlen; have HREC := Lib.hid hrec; have HL2 := Lib.hid hL2; have HL2L := Lib.hid hL2l; have HL3 := Lib.hid hL3; clear hr hb pt pl qk hDl hG0 hG1 hG2 hx0 hx1 hx2 hx3 hgm hs0 hsK hxk hxl hgl hlen hrec hL2 hL2l hL3
    clear hl hcn h32
    go_enter Tryd.func53, Tryd.ntmps53
    go_wp2_with (first | ((with_reducible refine iD 44 (.slice 31 (.tmp 43) _ _ _) ?_); refine step_cutL 31 50 35 (.tmp 43) _ _ _ _ _ _ 1 rfl rfl rfl i2 Tryd.underlying31 kR gw ?_) | ((with_reducible refine iO none (.store 31 (.tmp 45) (.tmp 44)) ?_); refine step_store1 S 31 (.tmp 45) (.tmp 44) g5 33 (.slice (cutA a36 c36 1 35) (L2.length - 1) (c36 - 1)) rfl rfl _ _ pk kR rfl rfl (Nat.lt_of_lt_of_eq (by decide : 33 < 34) (lgL_size g2 _).symm) gw ?_; clear S; intro w S; rw [lgL_set33] at S) | ((with_reducible refine iD 22 (.build 50 _) ?_); refine step_buildRc4 (.tmp 12) (.tmp 13) (.tmp 14) (.tmp 21) x (by rw [HX0.out]; rfl) (by rw [HX1.out]; rfl) (by rw [HX2.out]; rfl) (by rw [HX3.out]; rfl) gw ?_) | ((with_reducible refine iO none (.store 40 (.tmp 5) (.tmp 24)) ?_); refine step_store S 40 (.tmp 5) (.tmp 24) g5 _ rfl rfl _ _ pk 34 kR (lgL_size _ _) (lgL_size _ _) (lgL_one _ _ (one_sl (S.sl (v := v24) pk)).1) gw ?_; clear S; intro w S) | ((with_reducible refine iO none (.store 38 (.tmp 28) (.tmp 27)) ?_); refine step_store1 S 38 (.tmp 28) (.tmp 27) g5 0 (.int .u32 (GG.cnt.toNat : Int)) rfl rfl _ _ pk kR rfl rfl (by rw [lgL_size]; decide) gw ?_; clear S; intro w S; rw [HS0.out] at S) | ((with_reducible refine iO none (.store 22 (.tmp 31) (.tmp 30)) ?_); refine step_storeP S 22 (.tmp 31) (.tmp 30) g5 1 (arr8 x.link) rfl rfl _ _ pk 32 kR (by rw [arr8_size]; exact HXL.out) (Nat.le_trans (by decide : 1 + 32 ≤ 34) (Nat.le_of_eq (lgL_size g1 v24).symm)) (arr8_one _) _ (HSK.out _) gw ?_; clear S; intro w S) | ((with_reducible refine iD 35 (.buildSlice 31 1 _) ?_); refine step_buildRc1 S (.tmp 34) x rfl gw ?_; clear S; intro v35 w S) | (at_builtin; refine step_appendRc S (.tmp 33) (.tmp 35) v24 l rfl pk v35 [x] rfl (S.sl (v := v35) pk) HLEN.out gw ?_; clear S; intro v36 w S; rw [← HL2.out] at S; obtain ⟨a36, c36, rfl, _, _⟩ := Sl.shape (S.sl (v := v36) pk)) | ((with_reducible refine iO none (.store 31 (.tmp 37) (.tmp 36)) ?_); refine step_store1 S 31 (.tmp 37) (.tmp 36) g5 33 (.slice a36 L2.length c36) rfl rfl _ _ pk kR rfl rfl (by rw [lgL_size]; decide) gw ?_; clear S; intro w S; rw [lgL_set33] at S) | ((with_reducible refine iD 5 (.box 40 (.tmp 0)) ?_); refine step_boxA (dst := some 5) S 40 (.tmp 0) _ rfl rfl ?_; clear S; intro g5 w S) | ((with_reducible refine iD 10 (.alloc 40) ?_); refine step_alloc (dst := some 10) S 40 (.agg ((lgL lgZ (.slice none 0 0)).toArray)) ((lgL lgZ (.slice none 0 0)).toArray) kR rfl rfl ?_; clear S; intro g10 w S) | ((with_reducible refine iO _ (.load 22 _) ?_); first | (refine step_loadR 22 _ _ _ rfl _ (S.old_range hy) _ Tryd.underlying22 rfl 32 kR lN _ rfl rfl ?_) | (refine step_loadP S 22 _ _ _ rfl _ _ _ pk 32 _ pT lN _ Tryd.underlying22 rfl kR rfl ?_)) | (go_at_call 49; (with_reducible refine (PL.out _ (S.oldB HB.out)).mono ?_); rintro e w1 ⟨rfl, T⟩; replace S := S.call T; clear T; (try simp only [z4, z5] at S)) | ((with_reducible refine iD 11 (.alloc 50) ?_); refine step_alloc (dst := some 11) S 50 (.agg ((rcdL rcdZ).toArray)) ((rcdL rcdZ).toArray) kR rfl rfl ?_; clear S; intro g11 w S) | ((with_reducible refine iO none (.store 50 (.tmp 11) (.tmp 22)) ?_); refine step_store S 50 (.tmp 11) (.tmp 22) _ _ rfl rfl _ _ pk 35 kR lN lN on1 rfl ?_; clear S; intro w S) | ((with_reducible refine iO _ (.load 40 _) ?_); first | (refine step_load S 40 _ _ rfl _ _ _ pk _ Tryd.underlying40 rfl 34 kR lN rfl ?_) | (refine step_loadO 40 _ _ rfl _ _ _ (S.old_heap (Hid.out (by assumption))) _ Tryd.underlying40 rfl 34 kR lN rfl ?_) | (refine step_loadR 40 _ _ _ rfl _ (S.old_range hy) _ Tryd.underlying40 rfl 34 kR lN _ rfl rfl ?_)) | (go_at_call 20; (with_reducible refine (PT.out _ (S.old HR.out)).mono ?_); rintro e w1 ⟨v24, rfl, T⟩; replace S := S.call T; clear T; (try simp only [z4, z5] at S)) | ((with_reducible refine iO none (.store 40 (.tmp 5) (.tmp 24)) ?_); refine step_store S 40 (.tmp 5) (.tmp 24) _ _ rfl rfl _ _ pk 34 kR lN lN on1 rfl ?_; clear S; intro w S) | ((with_reducible refine iO _ (.load 38 _) ?_); refine step_load1 38 _ _ _ rfl (cL) _ Tryd.underlying38 rfl rfl ?_) | ((with_reducible refine iO none (.store 38 (.tmp 28) (.tmp 27)) ?_); first | (refine step_store1 S 38 (.tmp 28) (.tmp 27) _ _ (.int _ _) rfl rfl _ _ pk kR rfl rfl lN rfl ?_; clear S; intro w S; try simp only [List.setIfInBounds_toArray, List.set_cons_zero, List.set_cons_succ] at S) | (refine step_storeR S 38 (.tmp 28) (.tmp 27) _ _ (.int _ _) rfl rfl _ _ _ _ pk lE kR rfl rfl rfl ?_; clear S; intro w S) | (refine step_storeS S 38 (.tmp 28) (.tmp 27) _ _ (.int _ _) rfl rfl _ _ _ _ _ pk lE kR rfl rfl rfl ?_; clear S; intro w S)) | ((with_reducible refine iO none (.store 22 (.tmp 31) (.tmp 30)) ?_); refine step_store S 22 (.tmp 31) (.tmp 30) _ _ rfl rfl _ _ pk 32 kR lN lN on1 rfl ?_; clear S; intro w S) | ((with_reducible refine iO _ (.load 31 _) ?_); refine step_load1 31 _ _ _ rfl (cL) _ Tryd.underlying31 rfl rfl ?_) | ((with_reducible refine iO _ (.load 50 _) ?_); first | (refine step_load S 50 _ _ rfl _ _ _ pk _ Tryd.underlying50 rfl 35 kR lN rfl ?_) | (refine step_loadO 50 _ _ rfl _ _ _ (S.old_heap (Hid.out (by assumption))) _ Tryd.underlying50 rfl 35 kR lN rfl ?_) | (refine step_loadR 50 _ _ _ rfl _ (S.old_range hy) _ Tryd.underlying50 rfl 35 kR lN _ rfl rfl ?_)) | ((with_reducible refine iO none (.store 31 (.tmp 37) (.tmp 36)) ?_); first | (refine step_store1 S 31 (.tmp 37) (.tmp 36) _ _ (.slice _ _ _) rfl rfl _ _ pk kR rfl rfl lN rfl ?_; clear S; intro w S; try simp only [List.setIfInBounds_toArray, List.set_cons_zero, List.set_cons_succ] at S) | (refine step_storeR S 31 (.tmp 37) (.tmp 36) _ _ (.slice _ _ _) rfl rfl _ _ _ _ pk lE kR rfl rfl rfl ?_; clear S; intro w S) | (refine step_storeS S 31 (.tmp 37) (.tmp 36) _ _ (.slice _ _ _) rfl rfl _ _ _ _ _ pk lE kR rfl rfl rfl ?_; clear S; intro w S)) | ((with_reducible refine iO none (.store 31 (.tmp 45) (.tmp 44)) ?_); first | (refine step_store1 S 31 (.tmp 45) (.tmp 44) _ _ (.slice _ _ _) rfl rfl _ _ pk kR rfl rfl lN rfl ?_; clear S; intro w S; try simp only [List.setIfInBounds_toArray, List.set_cons_zero, List.set_cons_succ] at S) | (refine step_storeR S 31 (.tmp 45) (.tmp 44) _ _ (.slice _ _ _) rfl rfl _ _ _ _ pk lE kR rfl rfl rfl ?_; clear S; intro w S) | (refine step_storeS S 31 (.tmp 45) (.tmp 44) _ _ (.slice _ _ _) rfl rfl _ _ _ _ _ pk lE kR rfl rfl rfl ?_; clear S; intro w S)) | ((with_reducible refine iO none (.store 40 (.tmp 10) (.tmp 46)) ?_); refine step_store S 40 (.tmp 10) (.tmp 46) _ _ rfl rfl _ _ pk 34 kR lN lN on1 rfl ?_; clear S; intro w S) | fail)
    refine ret_row rfl g10 40 _ (S.get pk) _ Tryd.underlying40 34 kR lN rfl rfl rfl ?_
    have S := (S.pick (r := rowRc (.slice a36 L2.length c36) L2) pk).cutRc rfl 1 i2
    rw [← HL3.out] at S
    exact ⟨.slice (cutA a36 c36 1 35) (L2.length - 1) (c36 - 1), by rw [HGM.out], S.sub (by repeat (first | exact Sub.nil _ | refine Sub.cons pk ?_))⟩
  · have hrec : GG.recs = L2 := by rw [hG2, hL2]; exact keep_all l x (by omega)
    have i1 : ¬ (32 : Int) < (L2.length : Int) := by omega
    rw [hrec]
    have HR := Lib.hid hr; have HB := Lib.hid hb; have PT := Lib.hid pt; have PL := Lib.hid pl; have QK := Lib.hid qk; have HDL := Lib.hid hDl; have HG0 := Lib.hid hG0; have HG1 := Lib.hid hG1; have HG2 := Lib.hid hG2; have HX0 := Lib.hid hx0; have HX1 := Lib.hid hx1; have HX2 := Lib.hid hx2; have HX3 := Lib.hid hx3; have HGM := Lib.hid hgm; have HS0 := Lib.hid hs0; have HSK := Lib.hid hsK; have HXK := Lib.hid hxk; have HXL := Lib.hid hxl; have HGL := Lib.hid hgl; have HLEN := Lib.hid hlen; have HREC := Lib.hid hrec; have HL2 := Lib.hid hL2; have HL2L := Lib.hid hL2l; clear hr hb pt pl qk hDl hG0 hG1 hG2 hx0 hx1 hx2 hx3 hgm hs0 hsK hxk hxl hgl hlen hrec hL2 hL2l
    clear hl hcn h32
    go_enter Tryd.func53, Tryd.ntmps53
    go_wp2_with (first | ((with_reducible refine iD 22 (.build 50 _) ?_); refine step_buildRc4 (.tmp 12) (.tmp 13) (.tmp 14) (.tmp 21) x (by rw [HX0.out]; rfl) (by rw [HX1.out]; rfl) (by rw [HX2.out]; rfl) (by rw [HX3.out]; rfl) gw ?_) | ((with_reducible refine iO none (.store 40 (.tmp 5) (.tmp 24)) ?_); refine step_store S 40 (.tmp 5) (.tmp 24) g5 _ rfl rfl _ _ pk 34 kR (lgL_size _ _) (lgL_size _ _) (lgL_one _ _ (one_sl (S.sl (v := v24) pk)).1) gw ?_; clear S; intro w S) | ((with_reducible refine iO none (.store 38 (.tmp 28) (.tmp 27)) ?_); refine step_store1 S 38 (.tmp 28) (.tmp 27) g5 0 (.int .u32 (GG.cnt.toNat : Int)) rfl rfl _ _ pk kR rfl rfl (by rw [lgL_size]; decide) gw ?_; clear S; intro w S; rw [HS0.out] at S) | ((with_reducible refine iO none (.store 22 (.tmp 31) (.tmp 30)) ?_); refine step_storeP S 22 (.tmp 31) (.tmp 30) g5 1 (arr8 x.link) rfl rfl _ _ pk 32 kR (by rw [arr8_size]; exact HXL.out) (Nat.le_trans (by decide : 1 + 32 ≤ 34) (Nat.le_of_eq (lgL_size g1 v24).symm)) (arr8_one _) _ (HSK.out _) gw ?_; clear S; intro w S) | ((with_reducible refine iD 35 (.buildSlice 31 1 _) ?_); refine step_buildRc1 S (.tmp 34) x rfl gw ?_; clear S; intro v35 w S) | (at_builtin; refine step_appendRc S (.tmp 33) (.tmp 35) v24 l rfl pk v35 [x] rfl (S.sl (v := v35) pk) HLEN.out gw ?_; clear S; intro v36 w S; rw [← HL2.out] at S; obtain ⟨a36, c36, rfl, _, _⟩ := Sl.shape (S.sl (v := v36) pk)) | ((with_reducible refine iO none (.store 31 (.tmp 37) (.tmp 36)) ?_); refine step_store1 S 31 (.tmp 37) (.tmp 36) g5 33 (.slice a36 L2.length c36) rfl rfl _ _ pk kR rfl rfl (by rw [lgL_size]; decide) gw ?_; clear S; intro w S; rw [lgL_set33] at S) | ((with_reducible refine iD 5 (.box 40 (.tmp 0)) ?_); refine step_boxA (dst := some 5) S 40 (.tmp 0) _ rfl rfl ?_; clear S; intro g5 w S) | ((with_reducible refine iD 10 (.alloc 40) ?_); refine step_alloc (dst := some 10) S 40 (.agg ((lgL lgZ (.slice none 0 0)).toArray)) ((lgL lgZ (.slice none 0 0)).toArray) kR rfl rfl ?_; clear S; intro g10 w S) | ((with_reducible refine iO _ (.load 22 _) ?_); first | (refine step_loadR 22 _ _ _ rfl _ (S.old_range hy) _ Tryd.underlying22 rfl 32 kR lN _ rfl rfl ?_) | (refine step_loadP S 22 _ _ _ rfl _ _ _ pk 32 _ pT lN _ Tryd.underlying22 rfl kR rfl ?_)) | (go_at_call 49; (with_reducible refine (PL.out _ (S.oldB HB.out)).mono ?_); rintro e w1 ⟨rfl, T⟩; replace S := S.call T; clear T; (try simp only [z4, z5] at S)) | ((with_reducible refine iD 11 (.alloc 50) ?_); refine step_alloc (dst := some 11) S 50 (.agg ((rcdL rcdZ).toArray)) ((rcdL rcdZ).toArray) kR rfl rfl ?_; clear S; intro g11 w S) | ((with_reducible refine iO none (.store 50 (.tmp 11) (.tmp 22)) ?_); refine step_store S 50 (.tmp 11) (.tmp 22) _ _ rfl rfl _ _ pk 35 kR lN lN on1 rfl ?_; clear S; intro w S) | ((with_reducible refine iO _ (.load 40 _) ?_); first | (refine step_load S 40 _ _ rfl _ _ _ pk _ Tryd.underlying40 rfl 34 kR lN rfl ?_) | (refine step_loadO 40 _ _ rfl _ _ _ (S.old_heap (Hid.out (by assumption))) _ Tryd.underlying40 rfl 34 kR lN rfl ?_) | (refine step_loadR 40 _ _ _ rfl _ (S.old_range hy) _ Tryd.underlying40 rfl 34 kR lN _ rfl rfl ?_)) | (go_at_call 20; (with_reducible refine (PT.out _ (S.old HR.out)).mono ?_); rintro e w1 ⟨v24, rfl, T⟩; replace S := S.call T; clear T; (try simp only [z4, z5] at S)) | ((with_reducible refine iO none (.store 40 (.tmp 5) (.tmp 24)) ?_); refine step_store S 40 (.tmp 5) (.tmp 24) _ _ rfl rfl _ _ pk 34 kR lN lN on1 rfl ?_; clear S; intro w S) | ((with_reducible refine iO _ (.load 38 _) ?_); refine step_load1 38 _ _ _ rfl (cL) _ Tryd.underlying38 rfl rfl ?_) | ((with_reducible refine iO none (.store 38 (.tmp 28) (.tmp 27)) ?_); first | (refine step_store1 S 38 (.tmp 28) (.tmp 27) _ _ (.int _ _) rfl rfl _ _ pk kR rfl rfl lN rfl ?_; clear S; intro w S; try simp only [List.setIfInBounds_toArray, List.set_cons_zero, List.set_cons_succ] at S) | (refine step_storeR S 38 (.tmp 28) (.tmp 27) _ _ (.int _ _) rfl rfl _ _ _ _ pk lE kR rfl rfl rfl ?_; clear S; intro w S) | (refine step_storeS S 38 (.tmp 28) (.tmp 27) _ _ (.int _ _) rfl rfl _ _ _ _ _ pk lE kR rfl rfl rfl ?_; clear S; intro w S)) | ((with_reducible refine iO none (.store 22 (.tmp 31) (.tmp 30)) ?_); refine step_store S 22 (.tmp 31) (.tmp 30) _ _ rfl rfl _ _ pk 32 kR lN lN on1 rfl ?_; clear S; intro w S) | ((with_reducible refine iO _ (.load 31 _) ?_); refine step_load1 31 _ _ _ rfl (cL) _ Tryd.underlying31 rfl rfl ?_) | ((with_reducible refine iO _ (.load 50 _) ?_); first | (refine step_load S 50 _ _ rfl _ _ _ pk _ Tryd.underlying50 rfl 35 kR lN rfl ?_) | (refine step_loadO 50 _ _ rfl _ _ _ (S.old_heap (Hid.out (by assumption))) _ Tryd.underlying50 rfl 35 kR lN rfl ?_) | (refine step_loadR 50 _ _ _ rfl _ (S.old_range hy) _ Tryd.underlying50 rfl 35 kR lN _ rfl rfl ?_)) | ((with_reducible refine iO none (.store 31 (.tmp 37) (.tmp 36)) ?_); first | (refine step_store1 S 31 (.tmp 37) (.tmp 36) _ _ (.slice _ _ _) rfl rfl _ _ pk kR rfl rfl lN rfl ?_; clear S; intro w S; try simp only [List.setIfInBounds_toArray, List.set_cons_zero, List.set_cons_succ] at S) | (refine step_storeR S 31 (.tmp 37) (.tmp 36) _ _ (.slice _ _ _) rfl rfl _ _ _ _ pk lE kR rfl rfl rfl ?_; clear S; intro w S) | (refine step_storeS S 31 (.tmp 37) (.tmp 36) _ _ (.slice _ _ _) rfl rfl _ _ _ _ _ pk lE kR rfl rfl rfl ?_; clear S; intro w S)) | ((with_reducible refine iO none (.store 31 (.tmp 45) (.tmp 44)) ?_); first | (refine step_store1 S 31 (.tmp 45) (.tmp 44) _ _ (.slice _ _ _) rfl rfl _ _ pk kR rfl rfl lN rfl ?_; clear S; intro w S; try simp only [List.setIfInBounds_toArray, List.set_cons_zero, List.set_cons_succ] at S) | (refine step_storeR S 31 (.tmp 45) (.tmp 44) _ _ (.slice _ _ _) rfl rfl _ _ _ _ pk lE kR rfl rfl rfl ?_; clear S; intro w S) | (refine step_storeS S 31 (.tmp 45) (.tmp 44) _ _ (.slice _ _ _) rfl rfl _ _ _ _ _ pk lE kR rfl rfl rfl ?_; clear S; intro w S)) | ((with_reducible refine iO none (.store 40 (.tmp 10) (.tmp 46)) ?_); refine step_store S 40 (.tmp 10) (.tmp 46) _ _ rfl rfl _ _ pk 34 kR lN lN on1 rfl ?_; clear S; intro w S) | fail)
    refine ret_row rfl g10 40 _ (S.get pk) _ Tryd.underlying40 34 kR lN rfl rfl rfl ?_
    exact ⟨.slice a36 L2.length c36, by rw [HGM.out], (S.pick (r := rowRc (.slice a36 L2.length c36) L2) pk).toRd.sub (by repeat (first | exact Sub.nil _ | refine Sub.cons pk ?_))⟩

set_option maxRecDepth 100000 in
set_option maxHeartbeats 8000000 in
theorem refAppended_s (g : Lg) (rv : Value) (t : UInt64) (k : UInt8) (c : I64) (bv : Value) (b : List UInt8) (w0 : World) (hr : Sl w0 35 rv g.recs.length (g.recs.flatMap rcdL)) (hb : Bs w0 bv b) :
    Calls Tryd.prog 22 #[.agg (lgL g rv).toArray, .int .u64 (t.toNat : Int), by8 k, .int .i64 c.v, bv] w0 (RdLgE w0 (apR g t k c b) (apE g t k c b.length)) := by
  have S := Has.start w0
  obtain ⟨a0, c0, rfl, k1, k2⟩ := Sl.shape hr
  obtain ⟨a1, c1, rfl, k3, k4⟩ := Sl.shape hb
  unfold maxLen at k2 k4
  have pc := fun w h => refValidLog_s g (.slice a0 g.recs.length c0) w h
  have q0 := lgL_0 g (.slice a0 g.recs.length c0)
  have hgl := g.len
  have pl := fun w h => linked_s g.link t k c (.slice a1 b.length c1) b w g.len h
  obtain ⟨D, hD⟩ : ∃ D, D = lnkR g.link t k c b := ⟨_, rfl⟩
  have hDl : D.length = 32 := by rw [hD]; exact lnkR_length _ _ _ _ _
  rw [← hD] at pl
  cases hv : lgV g with
  | false =>
    have hE : apE g t k c b.length = 8 := if_pos hv
    have hR : apR g t k c b = lgZ := if_neg (by rw [hE]; decide)
    rw [hE, hR]
    rw [hv] at pc
    have PC := Lib.hid pc; have HB := Lib.hid hb; have HR := Lib.hid hr; have Q0 := Lib.hid q0; have HGL := Lib.hid hgl; have HDL := Lib.hid hDl; clear pc hb hr q0 hgl hDl
    clear hE hR hv hD
    go_enter Tryd.func22, Tryd.ntmps22
    go_wp2_with (first | ((with_reducible refine iD 5 (.box 40 (.tmp 0)) ?_); refine step_boxA (dst := some 5) S 40 (.tmp 0) _ rfl rfl ?_; clear S; intro g5 w S) | ((with_reducible refine iD 10 (.alloc 40) ?_); refine step_alloc (dst := some 10) S 40 (.agg ((lgL lgZ (.slice none 0 0)).toArray)) ((lgL lgZ (.slice none 0 0)).toArray) kR rfl rfl ?_; clear S; intro g10 w S) | ((with_reducible refine iO _ (.load 40 _) ?_); first | (refine step_load S 40 _ _ rfl _ _ _ pk _ Tryd.underlying40 rfl 34 kR lN rfl ?_) | (refine step_loadO 40 _ _ rfl _ _ _ (S.old_heap (Hid.out (by assumption))) _ Tryd.underlying40 rfl 34 kR lN rfl ?_) | (refine step_loadR 40 _ _ _ rfl _ (S.old_range hy) _ Tryd.underlying40 rfl 34 kR lN _ rfl rfl ?_)) | (go_at_call 45; (with_reducible refine (PC.out _ (S.old HR.out)).mono ?_); rintro e w1 ⟨rfl, T⟩; replace S := S.call T; clear T; (try simp only [z4, z5] at S)) | ((with_reducible refine iD 17 (.build 40 _) ?_); refine step_buildZ 40 (.agg ((lgL lgZ (.slice none 0 0)).toArray)) (fun w => by kernel_rfl) rfl ?_) | ((with_reducible refine iO none (.store 40 (.tmp 10) (.tmp 17)) ?_); refine step_store S 40 (.tmp 10) (.tmp 17) _ _ rfl rfl _ _ pk 34 kR lN lN on1 rfl ?_; clear S; intro w S) | ((with_reducible refine iO _ (.load 22 _) ?_); first | (refine step_loadR 22 _ _ _ rfl _ (S.old_range hy) _ Tryd.underlying22 rfl 32 kR lN _ rfl rfl ?_) | (refine step_loadP S 22 _ _ _ rfl _ _ _ pk 32 _ pT lN _ Tryd.underlying22 rfl kR rfl ?_)) | ((with_reducible refine iD 12 (.alloc 22) ?_); refine step_alloc (dst := some 12) S 22 (.agg (arr8 (List.replicate 32 0))) (arr8 (List.replicate 32 0)) kR rfl rfl ?_; clear S; intro g12 w S) | ((with_reducible refine iO none (.store 22 (.tmp 12) (.tmp 26)) ?_); refine step_store S 22 (.tmp 12) (.tmp 26) _ _ rfl rfl _ _ pk 32 kR lN lN on1 rfl ?_; clear S; intro w S) | ((with_reducible refine iD 30 (.build 40 _) ?_); refine step_buildZ 40 (.agg ((lgL lgZ (.slice none 0 0)).toArray)) (fun w => by kernel_rfl) rfl ?_) | ((with_reducible refine iO none (.store 40 (.tmp 10) (.tmp 30)) ?_); refine step_store S 40 (.tmp 10) (.tmp 30) _ _ rfl rfl _ _ pk 34 kR lN lN on1 rfl ?_; clear S; intro w S) | ((with_reducible refine iO _ (.load 38 _) ?_); refine step_load1 38 _ _ _ rfl (cL) _ Tryd.underlying38 rfl rfl ?_) | ((with_reducible refine iD 35 (.build 40 _) ?_); refine step_buildZ 40 (.agg ((lgL lgZ (.slice none 0 0)).toArray)) (fun w => by kernel_rfl) rfl ?_) | ((with_reducible refine iO none (.store 40 (.tmp 10) (.tmp 35)) ?_); refine step_store S 40 (.tmp 10) (.tmp 35) _ _ rfl rfl _ _ pk 34 kR lN lN on1 rfl ?_; clear S; intro w S) | ((with_reducible refine iO none (.store 40 (.tmp 10) (.tmp 41)) ?_); refine step_store S 40 (.tmp 10) (.tmp 41) _ _ rfl rfl _ _ pk 34 kR lN lN on1 rfl ?_; clear S; intro w S) | fail)
    refine ret_row_tmp rfl g10 40 _ (S.get pk) _ Tryd.underlying40 34 kR lN rfl rfl rfl ?_
    exact ⟨_, rfl, S.nil.nilRc.toRd⟩
  | true =>
  rw [hv] at pc
  by_cases hk0 : lnkE t k c b.length = 0
  rotate_left
  · have hE : apE g t k c b.length = lnkE t k c b.length := by unfold apE; rw [if_neg (by rw [hv]; decide), if_pos hk0]
    have hR : apR g t k c b = lgZ := if_neg (by rw [hE]; exact hk0)
    rw [hE, hR]
    obtain ⟨E, hE2⟩ : ∃ D, D = lnkE t k c b.length := ⟨_, rfl⟩
    rw [← hE2] at pl
    rw [← hE2] at hk0 ⊢
    have i1 : (E == 0) = false := beq_false_of_ne hk0
    have PC := Lib.hid pc; have PL := Lib.hid pl; have HB := Lib.hid hb; have HR := Lib.hid hr; have Q0 := Lib.hid q0; have HDL := Lib.hid hDl; have HGL := Lib.hid hgl; clear pc pl hb hr q0 hDl hgl
    clear hE hR hv hD hE2
    go_enter Tryd.func22, Tryd.ntmps22
    go_wp2_with (first | ((with_reducible refine iD 5 (.box 40 (.tmp 0)) ?_); refine step_boxA (dst := some 5) S 40 (.tmp 0) _ rfl rfl ?_; clear S; intro g5 w S) | ((with_reducible refine iD 10 (.alloc 40) ?_); refine step_alloc (dst := some 10) S 40 (.agg ((lgL lgZ (.slice none 0 0)).toArray)) ((lgL lgZ (.slice none 0 0)).toArray) kR rfl rfl ?_; clear S; intro g10 w S) | ((with_reducible refine iO _ (.load 40 _) ?_); first | (refine step_load S 40 _ _ rfl _ _ _ pk _ Tryd.underlying40 rfl 34 kR lN rfl ?_) | (refine step_loadO 40 _ _ rfl _ _ _ (S.old_heap (Hid.out (by assumption))) _ Tryd.underlying40 rfl 34 kR lN rfl ?_) | (refine step_loadR 40 _ _ _ rfl _ (S.old_range hy) _ Tryd.underlying40 rfl 34 kR lN _ rfl rfl ?_)) | (go_at_call 45; (with_reducible refine (PC.out _ (S.old HR.out)).mono ?_); rintro e w1 ⟨rfl, T⟩; replace S := S.call T; clear T; (try simp only [z4, z5] at S)) | ((with_reducible refine iD 17 (.build 40 _) ?_); refine step_buildZ 40 (.agg ((lgL lgZ (.slice none 0 0)).toArray)) (fun w => by kernel_rfl) rfl ?_) | ((with_reducible refine iO none (.store 40 (.tmp 10) (.tmp 17)) ?_); refine step_store S 40 (.tmp 10) (.tmp 17) _ _ rfl rfl _ _ pk 34 kR lN lN on1 rfl ?_; clear S; intro w S) | ((with_reducible refine iO _ (.load 22 _) ?_); first | (refine step_loadR 22 _ _ _ rfl _ (S.old_range hy) _ Tryd.underlying22 rfl 32 kR lN _ rfl rfl ?_) | (refine step_loadP S 22 _ _ _ rfl _ _ _ pk 32 _ pT lN _ Tryd.underlying22 rfl kR rfl ?_)) | (go_at_call 17; (with_reducible refine (PL.out _ (S.oldB HB.out)).mono ?_); rintro e w1 ⟨rfl, T⟩; replace S := S.call T; clear T; (try simp only [z4, z5] at S)) | ((with_reducible refine iD 12 (.alloc 22) ?_); refine step_alloc (dst := some 12) S 22 (.agg (arr8 (List.replicate 32 0))) (arr8 (List.replicate 32 0)) kR rfl rfl ?_; clear S; intro g12 w S) | ((with_reducible refine iO none (.store 22 (.tmp 12) (.tmp 26)) ?_); refine step_store S 22 (.tmp 12) (.tmp 26) _ _ rfl rfl _ _ pk 32 kR lN lN on1 rfl ?_; clear S; intro w S) | ((with_reducible refine iD 30 (.build 40 _) ?_); refine step_buildZ 40 (.agg ((lgL lgZ (.slice none 0 0)).toArray)) (fun w => by kernel_rfl) rfl ?_) | ((with_reducible refine iO none (.store 40 (.tmp 10) (.tmp 30)) ?_); refine step_store S 40 (.tmp 10) (.tmp 30) _ _ rfl rfl _ _ pk 34 kR lN lN on1 rfl ?_; clear S; intro w S) | ((with_reducible refine iO _ (.load 38 _) ?_); refine step_load1 38 _ _ _ rfl (cL) _ Tryd.underlying38 rfl rfl ?_) | ((with_reducible refine iD 35 (.build 40 _) ?_); refine step_buildZ 40 (.agg ((lgL lgZ (.slice none 0 0)).toArray)) (fun w => by kernel_rfl) rfl ?_) | ((with_reducible refine iO none (.store 40 (.tmp 10) (.tmp 35)) ?_); refine step_store S 40 (.tmp 10) (.tmp 35) _ _ rfl rfl _ _ pk 34 kR lN lN on1 rfl ?_; clear S; intro w S) | ((with_reducible refine iO none (.store 40 (.tmp 10) (.tmp 41)) ?_); refine step_store S 40 (.tmp 10) (.tmp 41) _ _ rfl rfl _ _ pk 34 kR lN lN on1 rfl ?_; clear S; intro w S) | fail)
    refine ret_row_tmp rfl g10 40 _ (S.get pk) _ Tryd.underlying40 34 kR lN rfl rfl rfl ?_
    exact ⟨_, rfl, S.nil.nilRc.toRd⟩
  rw [hk0] at pl
  by_cases hc : g.cnt.toNat = 4294967295
  · have hE : apE g t k c b.length = 9 := by unfold apE; rw [if_neg (by rw [hv]; decide), if_neg (by rw [hk0]; decide), if_pos hc]
    have hR : apR g t k c b = lgZ := if_neg (by rw [hE]; decide)
    rw [hE, hR]
    rw [hc] at q0
    have PC := Lib.hid pc; have PL := Lib.hid pl; have HB := Lib.hid hb; have HR := Lib.hid hr; have Q0 := Lib.hid q0; have HDL := Lib.hid hDl; have HGL := Lib.hid hgl; clear pc pl hb hr q0 hDl hgl
    clear hE hR hv hD hk0 hc
    go_enter Tryd.func22, Tryd.ntmps22
    go_wp2_with (first | ((with_reducible refine iD 5 (.box 40 (.tmp 0)) ?_); refine step_boxA (dst := some 5) S 40 (.tmp 0) _ rfl rfl ?_; clear S; intro g5 w S) | ((with_reducible refine iD 10 (.alloc 40) ?_); refine step_alloc (dst := some 10) S 40 (.agg ((lgL lgZ (.slice none 0 0)).toArray)) ((lgL lgZ (.slice none 0 0)).toArray) kR rfl rfl ?_; clear S; intro g10 w S) | ((with_reducible refine iO _ (.load 40 _) ?_); first | (refine step_load S 40 _ _ rfl _ _ _ pk _ Tryd.underlying40 rfl 34 kR lN rfl ?_) | (refine step_loadO 40 _ _ rfl _ _ _ (S.old_heap (Hid.out (by assumption))) _ Tryd.underlying40 rfl 34 kR lN rfl ?_) | (refine step_loadR 40 _ _ _ rfl _ (S.old_range hy) _ Tryd.underlying40 rfl 34 kR lN _ rfl rfl ?_)) | (go_at_call 45; (with_reducible refine (PC.out _ (S.old HR.out)).mono ?_); rintro e w1 ⟨rfl, T⟩; replace S := S.call T; clear T; (try simp only [z4, z5] at S)) | ((with_reducible refine iD 17 (.build 40 _) ?_); refine step_buildZ 40 (.agg ((lgL lgZ (.slice none 0 0)).toArray)) (fun w => by kernel_rfl) rfl ?_) | ((with_reducible refine iO none (.store 40 (.tmp 10) (.tmp 17)) ?_); refine step_store S 40 (.tmp 10) (.tmp 17) _ _ rfl rfl _ _ pk 34 kR lN lN on1 rfl ?_; clear S; intro w S) | ((with_reducible refine iO _ (.load 22 _) ?_); first | (refine step_loadR 22 _ _ _ rfl _ (S.old_range hy) _ Tryd.underlying22 rfl 32 kR lN _ rfl rfl ?_) | (refine step_loadP S 22 _ _ _ rfl _ _ _ pk 32 _ pT lN _ Tryd.underlying22 rfl kR rfl ?_)) | (go_at_call 17; (with_reducible refine (PL.out _ (S.oldB HB.out)).mono ?_); rintro e w1 ⟨rfl, T⟩; replace S := S.call T; clear T; (try simp only [z4, z5] at S)) | ((with_reducible refine iD 12 (.alloc 22) ?_); refine step_alloc (dst := some 12) S 22 (.agg (arr8 (List.replicate 32 0))) (arr8 (List.replicate 32 0)) kR rfl rfl ?_; clear S; intro g12 w S) | ((with_reducible refine iO none (.store 22 (.tmp 12) (.tmp 26)) ?_); refine step_store S 22 (.tmp 12) (.tmp 26) _ _ rfl rfl _ _ pk 32 kR lN lN on1 rfl ?_; clear S; intro w S) | ((with_reducible refine iD 30 (.build 40 _) ?_); refine step_buildZ 40 (.agg ((lgL lgZ (.slice none 0 0)).toArray)) (fun w => by kernel_rfl) rfl ?_) | ((with_reducible refine iO none (.store 40 (.tmp 10) (.tmp 30)) ?_); refine step_store S 40 (.tmp 10) (.tmp 30) _ _ rfl rfl _ _ pk 34 kR lN lN on1 rfl ?_; clear S; intro w S) | ((with_reducible refine iO _ (.load 38 _) ?_); refine step_load1 38 _ _ _ rfl (cL) _ Tryd.underlying38 rfl rfl ?_) | ((with_reducible refine iD 35 (.build 40 _) ?_); refine step_buildZ 40 (.agg ((lgL lgZ (.slice none 0 0)).toArray)) (fun w => by kernel_rfl) rfl ?_) | ((with_reducible refine iO none (.store 40 (.tmp 10) (.tmp 35)) ?_); refine step_store S 40 (.tmp 10) (.tmp 35) _ _ rfl rfl _ _ pk 34 kR lN lN on1 rfl ?_; clear S; intro w S) | ((with_reducible refine iO none (.store 40 (.tmp 10) (.tmp 41)) ?_); refine step_store S 40 (.tmp 10) (.tmp 41) _ _ rfl rfl _ _ pk 34 kR lN lN on1 rfl ?_; clear S; intro w S) | fail)
    refine ret_row_tmp rfl g10 40 _ (S.get pk) _ Tryd.underlying40 34 kR lN rfl rfl rfl ?_
    exact ⟨_, rfl, S.nil.nilRc.toRd⟩
  have hE : apE g t k c b.length = 0 := by unfold apE; rw [if_neg (by rw [hv]; decide), if_neg (by rw [hk0]; decide), if_neg hc]
  have pa := fun w h1 h2 => refAppend_s g (.slice a0 g.recs.length c0) t k c (.slice a1 b.length c1) b w h1 h2 hE
  rw [hE]
  obtain ⟨GG, hG⟩ : ∃ G, G = apR g t k c b := ⟨_, rfl⟩
  rw [← hG] at pa ⊢
  have i1 : ((g.cnt.toNat : Int) == 4294967295) = false := beq_false_of_ne (by omega)
  have PC := Lib.hid pc; have PL := Lib.hid pl; have HB := Lib.hid hb; have HR := Lib.hid hr; have Q0 := Lib.hid q0; have HDL := Lib.hid hDl; have HGL := Lib.hid hgl; have PA := Lib.hid pa; clear pc pl hb hr q0 hDl hgl pa
  clear hE hG hv hD hk0 hc
  go_enter Tryd.func22, Tryd.ntmps22
  go_wp2_with (first | ((with_reducible refine iO none (.store 40 (.tmp 10) (.tmp 41)) ?_); refine step_store S 40 (.tmp 10) (.tmp 41) g10 _ rfl rfl _ _ pk 34 kR (lgL_size _ _) (lgL_size _ _) (lgL_one _ _ (one_sl (S.sl_rd (v := v41) pk)).1) gw ?_; clear S; intro w S) | ((with_reducible refine iD 5 (.box 40 (.tmp 0)) ?_); refine step_boxA (dst := some 5) S 40 (.tmp 0) _ rfl rfl ?_; clear S; intro g5 w S) | ((with_reducible refine iD 10 (.alloc 40) ?_); refine step_alloc (dst := some 10) S 40 (.agg ((lgL lgZ (.slice none 0 0)).toArray)) ((lgL lgZ (.slice none 0 0)).toArray) kR rfl rfl ?_; clear S; intro g10 w S) | ((with_reducible refine iO _ (.load 40 _) ?_); first | (refine step_load S 40 _ _ rfl _ _ _ pk _ Tryd.underlying40 rfl 34 kR lN rfl ?_) | (refine step_loadO 40 _ _ rfl _ _ _ (S.old_heap (Hid.out (by assumption))) _ Tryd.underlying40 rfl 34 kR lN rfl ?_) | (refine step_loadR 40 _ _ _ rfl _ (S.old_range hy) _ Tryd.underlying40 rfl 34 kR lN _ rfl rfl ?_)) | (go_at_call 45; (with_reducible refine (PC.out _ (S.old HR.out)).mono ?_); rintro e w1 ⟨rfl, T⟩; replace S := S.call T; clear T; (try simp only [z4, z5] at S)) | ((with_reducible refine iD 17 (.build 40 _) ?_); refine step_buildZ 40 (.agg ((lgL lgZ (.slice none 0 0)).toArray)) (fun w => by kernel_rfl) rfl ?_) | ((with_reducible refine iO none (.store 40 (.tmp 10) (.tmp 17)) ?_); refine step_store S 40 (.tmp 10) (.tmp 17) _ _ rfl rfl _ _ pk 34 kR lN lN on1 rfl ?_; clear S; intro w S) | ((with_reducible refine iO _ (.load 22 _) ?_); first | (refine step_loadR 22 _ _ _ rfl _ (S.old_range hy) _ Tryd.underlying22 rfl 32 kR lN _ rfl rfl ?_) | (refine step_loadP S 22 _ _ _ rfl _ _ _ pk 32 _ pT lN _ Tryd.underlying22 rfl kR rfl ?_)) | (go_at_call 17; (with_reducible refine (PL.out _ (S.oldB HB.out)).mono ?_); rintro e w1 ⟨rfl, T⟩; replace S := S.call T; clear T; (try simp only [z4, z5] at S)) | ((with_reducible refine iD 12 (.alloc 22) ?_); refine step_alloc (dst := some 12) S 22 (.agg (arr8 (List.replicate 32 0))) (arr8 (List.replicate 32 0)) kR rfl rfl ?_; clear S; intro g12 w S) | ((with_reducible refine iO none (.store 22 (.tmp 12) (.tmp 26)) ?_); refine step_store S 22 (.tmp 12) (.tmp 26) _ _ rfl rfl _ _ pk 32 kR lN lN on1 rfl ?_; clear S; intro w S) | ((with_reducible refine iD 30 (.build 40 _) ?_); refine step_buildZ 40 (.agg ((lgL lgZ (.slice none 0 0)).toArray)) (fun w => by kernel_rfl) rfl ?_) | ((with_reducible refine iO none (.store 40 (.tmp 10) (.tmp 30)) ?_); refine step_store S 40 (.tmp 10) (.tmp 30) _ _ rfl rfl _ _ pk 34 kR lN lN on1 rfl ?_; clear S; intro w S) | ((with_reducible refine iO _ (.load 38 _) ?_); refine step_load1 38 _ _ _ rfl (cL) _ Tryd.underlying38 rfl rfl ?_) | ((with_reducible refine iD 35 (.build 40 _) ?_); refine step_buildZ 40 (.agg ((lgL lgZ (.slice none 0 0)).toArray)) (fun w => by kernel_rfl) rfl ?_) | ((with_reducible refine iO none (.store 40 (.tmp 10) (.tmp 35)) ?_); refine step_store S 40 (.tmp 10) (.tmp 35) _ _ rfl rfl _ _ pk 34 kR lN lN on1 rfl ?_; clear S; intro w S) | (go_at_call 53; (with_reducible refine (PA.out _ (S.old HR.out) (S.oldB HB.out)).mono ?_); rintro e w1 ⟨v41, rfl, T⟩; replace S := S.call T; clear T; (try simp only [z4, z5] at S)) | ((with_reducible refine iO none (.store 40 (.tmp 10) (.tmp 41)) ?_); refine step_store S 40 (.tmp 10) (.tmp 41) _ _ rfl rfl _ _ pk 34 kR lN lN on1 rfl ?_; clear S; intro w S) | fail)
  refine ret_row_tmp rfl g10 40 _ (S.get pk) _ Tryd.underlying40 34 kR lN rfl rfl rfl ?_
  exact ⟨_, rfl, S.sub (by repeat (first | exact Sub.nil _ | refine Sub.cons pk ?_))⟩
end Go.Proofs.YtfhkmmagpnojmaaDoor
