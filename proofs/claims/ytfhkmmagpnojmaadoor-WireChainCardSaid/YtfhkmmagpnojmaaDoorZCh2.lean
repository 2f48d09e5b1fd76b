/- WireChain's walk. No condition but the table of constants and the reach. -/
import Derived.Test.YtfhkmmagpnojmaaDoorZBd
import Derived.Test.YtfhkmmagpnojmaaDoorZCh1
import Derived.Test.YtfhkmmagpnojmaaDoorZLgR
import Derived.Test.YtfhkmmagpnojmaaDoorZLnkR
set_option linter.unusedSimpArgs false
set_option linter.unusedVariables false
namespace Go.Proofs.YtfhkmmagpnojmaaDoor
open Go.RowKit

/-- A link: 32 bytes. -/
structure Ky where
  d : List UInt8
  len : d.length = 32
def kyL (x : Ky) : List Value := x.d.map by8
theorem kyL_length (x : Ky) : (kyL x).length = 32 := by simp [kyL, x.len]
theorem kyL_all (l : List Ky) : ∀ u ∈ l.flatMap kyL, u.oneCell' = true := by
  intro u hu
  obtain ⟨m, _, hm⟩ := List.mem_flatMap.1 hu
  exact oneCell_u8 _ u hm
abbrev rowK (v : Value) (l : List Ky) : Res := row v 22 32 l.length (l.flatMap kyL)
def ky0 : Ky := ⟨zs32, rfl⟩
set_option maxRecDepth 100000 in
theorem infoK : (Tryd.prog.info? 22).map (fun i => (i.zero, i.size, i.bytes)) = some (some (.agg (arr8 zs32)), 32, 32) := by kernel_rfl
set_option maxRecDepth 100000 in
theorem infoK2 : (Tryd.prog.info? 22).map (fun i => (i.zero, i.size)) = some (some (.agg (arr8 zs32)), 32) := by kernel_rfl
theorem step_appendK {ops : Array Oper} {rest : List Oper} {a : Act} {w0 w : World} {l F : List Res} {Q : Exit → Act → World → Prop} {dst : Option Tmp} {ty : TypeId} {pos : String} {after : Array Edge} {gd : Option (Nat × Bool)} (S : Has w0 w l) (s x : Operand)
    (v : Value) (xs : List Ky) (hs : a.eval s = v) (hp : Pick l (rowK v xs) F) (src : Value) (ys : List Ky) (hx : a.eval x = src) (hsrc : Sl w 32 src ys.length (ys.flatMap kyL)) (hlen : (xs.length + ys.length) * 32 ≤ 140737488355328)
    (hw : Region.wanted ⟨dst, .call { callee := .builtin .append, args := #[s, x], argTypes := #[97, 97] }, ty, pos, after, gd⟩ (yielded ops a.tmps) = true)
    (h : ∀ v' w', Has w0 w' (rowK v' (xs ++ ys) :: F) → wpList Tryd.prog ops Q rest (a.put dst v') w') :
    wpList Tryd.prog ops Q (⟨dst, .call { callee := .builtin .append, args := #[s, x], argTypes := #[97, 97] }, ty, pos, after, gd⟩ :: rest) a w := by
  refine step_append S s x 97 22 (.agg (arr8 zs32)) 32 32 Tryd.underlying97 infoK rfl (by decide) v xs.length (xs.flatMap kyL) hs hp src ys.length (ys.flatMap kyL) hx hsrc (kyL_all _) (by unfold maxLen; omega) hlen hw ?_
  intro v' w' S'
  refine h v' w' ?_
  rw [← List.flatMap_append, ← List.length_append] at S'
  exact S'
theorem step_buildK1 {ops : Array Oper} {rest : List Oper} {a : Act} {w0 w : World} {l : List Res} {Q : Exit → Act → World → Prop} {dst : Option Tmp} {ty : TypeId} {pos : String} {after : Array Edge} {gd : Option (Nat × Bool)} (S : Has w0 w l) (x : Operand) (r : Ky) (hx : a.eval x = .agg (arr8 r.d))
    (hw : Region.wanted ⟨dst, .buildSlice 97 1 #[(0, x)], ty, pos, after, gd⟩ (yielded ops a.tmps) = true)
    (h : ∀ v w', Has w0 w' (rowK v [r] :: l) → wpList Tryd.prog ops Q rest (a.put dst v) w') : wpList Tryd.prog ops Q (⟨dst, .buildSlice 97 1 #[(0, x)], ty, pos, after, gd⟩ :: rest) a w :=
  step_buildS1 S 97 22 32 x (kyL r) _ Tryd.underlying97 infoK2 (by decide) (by decide) hx (kyL_length _) hw fun v w' S' => h v w' (by
    have e : [r].flatMap kyL = kyL r := by simp
    show Has w0 w' (row v _ 32 1 ([r].flatMap kyL) :: l)
    rw [e]
    exact S')
/-- The slice in a log that was returned. -/
def logV (v : Value) : Value := (aggCells (tupAt v 0)).getD 33 undef
theorem logV_tup (g : Lg) (y e : Value) : logV (.tuple #[.agg (lgL g y).toArray, e]) = y := by
  have := lgL_33 g y
  show ((lgL g y).toArray).getD 33 undef = y
  rw [Array.getD_eq_getD_getElem?, this]
  rfl
set_option maxRecDepth 100000 in
set_option maxHeartbeats 16000000 in
theorem wireChain_walk (v0 : Value) (ns : List Nt) (first : UInt32) (w0 : World) (hn : Sl w0 4 v0 ns.length (ns.flatMap ntL)) (hb : ∀ n ∈ ns, Bs w0 n.hv n.b ∧ n.b.length ≤ 140737488351232) (hK : KT w0) :
    Calls Tryd.prog 15 #[v0, .int .u32 (first.toNat : Int)] w0 fun e w' => e = .returned (.bool true) ∧ Has w0 w' [] := by
  have S := Has.start w0
  obtain ⟨a0, c0, rfl, k1, k2⟩ := Sl.shape hn
  unfold maxLen at k2
  have pa := fun w h => alive_s w h
  obtain ⟨N, hN⟩ : ∃ N, N = ns.length := ⟨_, rfl⟩
  have hN0 := hN
  rw [← hN] at hn k1 ⊢
  by_cases hbig : 200 < N
  · have i1 : 200 < (N : Int) := by omega
    have HN := Lib.hid hn; have PA := Lib.hid pa; have HK := Lib.hid hK; clear hn pa hK
    clear hbig hN hN0 hb
    go_enter Tryd.func15, Tryd.ntmps15
    go_wp2_with (first | (go_at_call 29; (with_reducible refine (PA.out _ kT).mono ?_); rintro e w1 ⟨rfl, T⟩; replace S := S.call T; clear T; (try simp only [z4, z5] at S)) | ((with_reducible refine iD 25 (.build 40 _) ?_); refine step_buildZ 40 (.agg ((lgL lgZ (.slice none 0 0)).toArray)) (fun w => by kernel_rfl) gw ?_) | ((with_reducible refine iD 6 (.alloc 40) ?_); refine step_alloc (dst := some 6) S 40 (.agg ((lgL lgZ (.slice none 0 0)).toArray)) ((lgL lgZ (.slice none 0 0)).toArray) kR rfl gw ?_; clear S; intro g6 w S) | ((with_reducible refine iO none (.store 40 (.tmp 6) (.tmp 25)) ?_); refine step_store S 40 (.tmp 6) (.tmp 25) _ _ rfl rfl _ _ pk 34 kR lN lN on1 gw ?_; clear S; intro w S) | ((with_reducible refine iD 26 (.build 22 _) ?_); refine step_buildZ 22 (.agg (arr8 (List.replicate 32 0))) (fun w => by kernel_rfl) gw ?_) | ((with_reducible refine iO _ (.load 40 _) ?_); first | (refine step_load S 40 _ _ rfl _ _ _ pk _ Tryd.underlying40 rfl 34 kR lN gw ?_) | (refine step_loadO 40 _ _ rfl _ _ _ (S.old_heap (Hid.out (by assumption))) _ Tryd.underlying40 rfl 34 kR lN gw ?_) | (refine step_loadR 40 _ _ _ rfl _ (S.old_range hy) _ Tryd.underlying40 rfl 34 kR lN _ rfl gw ?_)) | ((with_reducible refine iO _ (.load 23 _) ?_); refine step_load1 23 _ _ _ rfl (cL) _ Tryd.underlying23 rfl gw ?_) | ((with_reducible refine iO _ (.load 5 _) ?_); refine step_load1 5 _ _ _ rfl (cL) _ Tryd.underlying5 rfl gw ?_) | ((with_reducible refine iO _ (.load 80 _) ?_); refine step_load1 80 _ _ _ rfl (cL) _ Tryd.underlying80 rfl gw ?_) | ((with_reducible refine iO _ (.load 25 _) ?_); refine step_load1 25 _ _ _ rfl (cL) _ Tryd.underlying25 rfl gw ?_) | ((with_reducible refine iD 11 (.alloc 40) ?_); refine step_alloc (dst := some 11) S 40 (.agg ((lgL lgZ (.slice none 0 0)).toArray)) ((lgL lgZ (.slice none 0 0)).toArray) kR rfl gw ?_; clear S; intro g11 w S) | ((with_reducible refine iO none (.store 40 (.tmp 11) (.tmp 58)) ?_); refine step_store S 40 (.tmp 11) (.tmp 58) _ _ rfl rfl _ _ pk 34 kR lN lN on1 gw ?_; clear S; intro w S) | ((with_reducible refine iO _ (.load 22 _) ?_); first | (refine step_loadR 22 _ _ _ rfl _ (S.old_range hy) _ Tryd.underlying22 rfl 32 kR lN _ rfl gw ?_) | (refine step_loadP S 22 _ _ _ rfl _ _ _ pk 32 _ pT lN _ Tryd.underlying22 rfl kR gw ?_)) | ((with_reducible refine iD 13 (.alloc 22) ?_); refine step_alloc (dst := some 13) S 22 (.agg (arr8 (List.replicate 32 0))) (arr8 (List.replicate 32 0)) kR rfl gw ?_; clear S; intro g13 w S) | ((with_reducible refine iO none (.store 22 (.tmp 13) (.tmp 110)) ?_); refine step_store S 22 (.tmp 13) (.tmp 110) _ _ rfl rfl _ _ pk 32 kR lN lN on1 gw ?_; clear S; intro w S) | ((with_reducible refine iO _ (.load 22 _) ?_); first | (refine step_load S 22 _ _ rfl _ _ _ pk _ Tryd.underlying22 rfl 32 kR lN gw ?_) | (refine step_loadO 22 _ _ rfl _ _ _ (S.old_heap (Hid.out (by assumption))) _ Tryd.underlying22 rfl 32 kR lN gw ?_) | (refine step_loadR 22 _ _ _ rfl _ (S.old_range hy) _ Tryd.underlying22 rfl 32 kR lN _ rfl gw ?_)) | ((with_reducible refine iO none (.store 40 (.tmp 6) (.tmp 162)) ?_); refine step_store S 40 (.tmp 6) (.tmp 162) _ _ rfl rfl _ _ pk 34 kR lN lN on1 gw ?_; clear S; intro w S) | ((with_reducible refine iO _ (.load 38 _) ?_); refine step_load1 38 _ _ _ rfl (cL) _ Tryd.underlying38 rfl gw ?_) | ((with_reducible refine iO _ (.load 31 _) ?_); refine step_load1 31 _ _ _ rfl (cL) _ Tryd.underlying31 rfl gw ?_) | ((with_reducible refine iO _ (.slice 31 _ _ _ _) ?_); refine step_cutL 31 50 35 _ _ _ _ _ _ _ _ rfl rfl (by first | rfl | omega) (by first | (first | omega | assumption | (exact Hid.out (by assumption)) | (simp only [List.length_append, List.length_cons, List.length_nil]; omega)) | decide) Tryd.underlying31 kR gw ?_) | ((with_reducible refine iO _ (.slice 32 _ _ _ _) ?_); refine step_cutL 32 25 1 _ _ _ _ _ _ _ _ rfl rfl (by first | rfl | omega) (by first | (first | omega | assumption | (exact Hid.out (by assumption)) | (simp only [List.length_append, List.length_cons, List.length_nil]; omega)) | decide) Tryd.underlying32 kR gw ?_) | fail)
    go_ret
    exact ⟨rfl, S.nil⟩
  have i1 : ¬ 200 < (N : Int) := by omega
  have hN200 : N ≤ 200 := by omega
  have az := build_ar32
  have gz := build_lgZ
  have HN := Lib.hid hn; have PA := Lib.hid pa; have HK := Lib.hid hK; have HN0 := Lib.hid hN0; have HB := Lib.hid hb; have HN200 := Lib.hid hN200; clear hn pa hK hN0 hb hN200
  clear hbig hN
  go_enter Tryd.func15, Tryd.ntmps15
  go_wp2_with (first | ((with_reducible refine iD 26 (.build 22 _) ?_); refine step_buildZ 22 (.agg (arr8 zs32)) build_ar32 gw ?_) | ((with_reducible refine iD 25 (.build 40 _) ?_); refine step_buildZ 40 (.agg (lgL lgZ nilS).toArray) build_lgZ gw ?_) | ((with_reducible refine iD 27 (.buildSlice 97 1 _) ?_); refine step_buildK1 S (.tmp 26) ky0 rfl gw ?_; clear S; intro v27 w S) | (go_at_call 29; (with_reducible refine (PA.out _ kT).mono ?_); rintro e w1 ⟨rfl, T⟩; replace S := S.call T; clear T; (try simp only [z4, z5] at S)) | ((with_reducible refine iD 6 (.alloc 40) ?_); refine step_alloc (dst := some 6) S 40 (.agg ((lgL lgZ (.slice none 0 0)).toArray)) ((lgL lgZ (.slice none 0 0)).toArray) kR rfl gw ?_; clear S; intro g6 w S) | ((with_reducible refine iO none (.store 40 (.tmp 6) (.tmp 25)) ?_); refine step_store S 40 (.tmp 6) (.tmp 25) _ _ rfl rfl _ _ pk 34 kR lN lN on1 gw ?_; clear S; intro w S) | ((with_reducible refine iO _ (.load 40 _) ?_); first | (refine step_load S 40 _ _ rfl _ _ _ pk _ Tryd.underlying40 rfl 34 kR lN gw ?_) | (refine step_loadO 40 _ _ rfl _ _ _ (S.old_heap (Hid.out (by assumption))) _ Tryd.underlying40 rfl 34 kR lN gw ?_) | (refine step_loadR 40 _ _ _ rfl _ (S.old_range hy) _ Tryd.underlying40 rfl 34 kR lN _ rfl gw ?_)) | ((with_reducible refine iO _ (.load 23 _) ?_); refine step_load1 23 _ _ _ rfl (cL) _ Tryd.underlying23 rfl gw ?_) | ((with_reducible refine iO _ (.load 5 _) ?_); refine step_load1 5 _ _ _ rfl (cL) _ Tryd.underlying5 rfl gw ?_) | ((with_reducible refine iO _ (.load 80 _) ?_); refine step_load1 80 _ _ _ rfl (cL) _ Tryd.underlying80 rfl gw ?_) | ((with_reducible refine iO _ (.load 25 _) ?_); refine step_load1 25 _ _ _ rfl (cL) _ Tryd.underlying25 rfl gw ?_) | ((with_reducible refine iD 11 (.alloc 40) ?_); refine step_alloc (dst := some 11) S 40 (.agg ((lgL lgZ (.slice none 0 0)).toArray)) ((lgL lgZ (.slice none 0 0)).toArray) kR rfl gw ?_; clear S; intro g11 w S) | ((with_reducible refine iO none (.store 40 (.tmp 11) (.tmp 58)) ?_); refine step_store S 40 (.tmp 11) (.tmp 58) _ _ rfl rfl _ _ pk 34 kR lN lN on1 gw ?_; clear S; intro w S) | ((with_reducible refine iO _ (.load 22 _) ?_); first | (refine step_loadR 22 _ _ _ rfl _ (S.old_range hy) _ Tryd.underlying22 rfl 32 kR lN _ rfl gw ?_) | (refine step_loadP S 22 _ _ _ rfl _ _ _ pk 32 _ pT lN _ Tryd.underlying22 rfl kR gw ?_)) | ((with_reducible refine iD 13 (.alloc 22) ?_); refine step_alloc (dst := some 13) S 22 (.agg (arr8 (List.replicate 32 0))) (arr8 (List.replicate 32 0)) kR rfl gw ?_; clear S; intro g13 w S) | ((with_reducible refine iO none (.store 22 (.tmp 13) (.tmp 110)) ?_); refine step_store S 22 (.tmp 13) (.tmp 110) _ _ rfl rfl _ _ pk 32 kR lN lN on1 gw ?_; clear S; intro w S) | ((with_reducible refine iO _ (.load 22 _) ?_); first | (refine step_load S 22 _ _ rfl _ _ _ pk _ Tryd.underlying22 rfl 32 kR lN gw ?_) | (refine step_loadO 22 _ _ rfl _ _ _ (S.old_heap (Hid.out (by assumption))) _ Tryd.underlying22 rfl 32 kR lN gw ?_) | (refine step_loadR 22 _ _ _ rfl _ (S.old_range hy) _ Tryd.underlying22 rfl 32 kR lN _ rfl gw ?_)) | ((with_reducible refine iO none (.store 40 (.tmp 6) (.tmp 162)) ?_); refine step_store S 40 (.tmp 6) (.tmp 162) _ _ rfl rfl _ _ pk 34 kR lN lN on1 gw ?_; clear S; intro w S) | ((with_reducible refine iO _ (.load 38 _) ?_); refine step_load1 38 _ _ _ rfl (cL) _ Tryd.underlying38 rfl gw ?_) | ((with_reducible refine iO _ (.load 31 _) ?_); refine step_load1 31 _ _ _ rfl (cL) _ Tryd.underlying31 rfl gw ?_) | ((with_reducible refine iO _ (.slice 31 _ _ _ _) ?_); refine step_cutL 31 50 35 _ _ _ _ _ _ _ _ rfl rfl (by first | rfl | omega) (by first | (first | omega | assumption | (exact Hid.out (by assumption)) | (simp only [List.length_append, List.length_cons, List.length_nil]; omega)) | decide) Tryd.underlying31 kR gw ?_) | ((with_reducible refine iO _ (.slice 32 _ _ _ _) ?_); refine step_cutL 32 25 1 _ _ _ _ _ _ _ _ rfl rfl (by first | rfl | omega) (by first | (first | omega | assumption | (exact Hid.out (by assumption)) | (simp only [List.length_append, List.length_cons, List.length_nil]; omega)) | decide) Tryd.underlying32 kR gw ?_) | fail)
  go_loopw [7, 8, 9, 10] (fun v7 v8 v9 u wr => ∃ (k : Nat) (A : List Rcd) (P : List (Value × List UInt8)) (KS : List Ky) (G : Lg) (gv : Value), k ≤ N ∧ A.length ≤ k ∧ u = .int .i64 (k : Int) ∧ Chn A P (KS.map Ky.d) G ∧ (∀ p ∈ P, Bs w0 p.1 p.2) ∧ Has w0 wr [blk g6 (.cells (lgL G gv).toArray 40 (0, 0)), rowRc gv G.recs, rowRc v7 A, rowF v8 P, rowK v9 KS]) (fun _ _ _ u _ => N - (intOf u).toNat)
  case atStart => exact ⟨0, [], [], [ky0], lgZ, nilS, Nat.zero_le _, Nat.le_refl _, rfl, chn0, (by intro p hp; cases hp), (S.nilRc.nilRc.nilF).sub (by repeat (first | exact Sub.nil _ | refine Sub.cons pk ?_))⟩
  case round =>
    clear S
    obtain ⟨k, A, P, KS, LQ, gv, hk, hAk, rfl, hC, hP, S⟩ := hrel
    by_cases hlt : k < N
    · have hki : (k : Int) < (N : Int) := by omega
      have hki2 : (k : Int) < 9223372036854775807 := by omega
      have hkn : k < ns.length := by rw [← HN0.out]; exact hlt
      obtain ⟨b, off, rfl, _⟩ := HN.out.atA (by omega)
      have hx : ns[k]? = some ns[k] := List.getElem?_eq_getElem hkn
      have hrg := HN.out.elem ntL_length (by decide) k _ hx
      have hmem : ns[k] ∈ ns := List.getElem_mem hkn
      obtain ⟨n, hne⟩ : ∃ n, n = ns[k] := ⟨_, rfl⟩
      rw [← hne] at hrg hmem
      obtain ⟨hbn, hbl⟩ := HB.out n hmem
      have hA200 : A.length ≤ 200 := by have := HN200.out; omega
      have hEv := chn_E hC hA200 n
      have hst := fun hv => chn_step hC hA200 n hv
      have hlk := chn_lnk n
      have hlkR : (ntR LQ n).link = lnkD LQ.link n.tick n.kind (ntC n) n.b := rfl
      have hvd : ntV n = decide (n.tick.toNat ≤ 4611686018427387904 ∧ n.kind.toNat ≤ 6 ∧ n.b.length ≤ 64) := rfl
      have y0 := hrg 0 _ rfl
      have y1 := hrg 1 _ rfl
      have y2 := hrg 2 _ rfl
      have y3 := hrg 3 _ rfl
      have hcd := n.code.toNat_lt
      have e1 : IntKind.i64.wrap (n.code.toNat : Int) = (n.code.toNat : Int) := by rw [IntKind.wrap_i64]; omega
      have p1 := fun w h1 h2 h3 => append_s LQ gv n.tick n.kind (ntC n) n.hv n.b w h1 h2 h3 hbl
      obtain ⟨E, hE⟩ : ∃ E, E = apE LQ n.tick n.kind (ntC n) n.b.length := ⟨_, rfl⟩
      obtain ⟨GX, hGX⟩ : ∃ X, X = apR LQ n.tick n.kind (ntC n) n.b := ⟨_, rfl⟩
      rw [ntC_v, ← hE, ← hGX] at p1
      obtain ⟨ah, ch, hsh, _, _⟩ := Sl.shape hbn
      rw [hsh] at p1 hbn y3 hst
      have hE2 : E = 0 ↔ ntV n = true := by rw [hE]; exact hEv
      have hLq := LQ.len
      have HRG := Lib.hid hrg; have Y0 := Lib.hid y0; have Y1 := Lib.hid y1; have Y2 := Lib.hid y2; have Y3 := Lib.hid y3; have P1 := Lib.hid p1; have HBN := Lib.hid hbn; have HP := Lib.hid hP; have HC := Lib.hid hC; have HE2 := Lib.hid hE2; have HST := Lib.hid hst; have HLK := Lib.hid hlk; have HVD := Lib.hid hvd; have HBL := Lib.hid hbl; have HAK := Lib.hid hAk; have HLKR := Lib.hid hlkR; have HA200 := Lib.hid hA200; have HGX := Lib.hid hGX; have HLQ := Lib.hid hLq; clear hrg y0 y1 y2 y3 p1 hbn hP hC hE2 hst hlk hvd hbl hAk hlkR hA200 hGX hLq
      clear hx hne hmem hEv hE hkn hcd hsh
      go_upto_region 11 with (first | ((with_reducible refine iD 6 (.alloc 40) ?_); refine step_alloc (dst := some 6) S 40 (.agg ((lgL lgZ (.slice none 0 0)).toArray)) ((lgL lgZ (.slice none 0 0)).toArray) kR rfl gw ?_; clear S; intro g6 w S) | ((with_reducible refine iO none (.store 40 (.tmp 6) (.tmp 25)) ?_); refine step_store S 40 (.tmp 6) (.tmp 25) _ _ rfl rfl _ _ pk 34 kR lN lN on1 gw ?_; clear S; intro w S) | ((with_reducible refine iO _ (.load 40 _) ?_); first | (refine step_load S 40 _ _ rfl _ _ _ pk _ Tryd.underlying40 rfl 34 kR lN gw ?_) | (refine step_loadO 40 _ _ rfl _ _ _ (S.old_heap (Hid.out (by assumption))) _ Tryd.underlying40 rfl 34 kR lN gw ?_) | (refine step_loadR 40 _ _ _ rfl _ (S.old_range hy) _ Tryd.underlying40 rfl 34 kR lN _ rfl gw ?_)) | ((with_reducible refine iO _ (.load 23 _) ?_); refine step_load1 23 _ _ _ rfl (cL) _ Tryd.underlying23 rfl gw ?_) | ((with_reducible refine iO _ (.load 5 _) ?_); refine step_load1 5 _ _ _ rfl (cL) _ Tryd.underlying5 rfl gw ?_) | ((with_reducible refine iO _ (.load 80 _) ?_); refine step_load1 80 _ _ _ rfl (cL) _ Tryd.underlying80 rfl gw ?_) | ((with_reducible refine iO _ (.load 25 _) ?_); refine step_load1 25 _ _ _ rfl (cL) _ Tryd.underlying25 rfl gw ?_) | ((with_reducible refine iD 11 (.alloc 40) ?_); refine step_alloc (dst := some 11) S 40 (.agg ((lgL lgZ (.slice none 0 0)).toArray)) ((lgL lgZ (.slice none 0 0)).toArray) kR rfl gw ?_; clear S; intro g11 w S) | ((with_reducible refine iO none (.store 40 (.tmp 11) (.tmp 58)) ?_); refine step_store S 40 (.tmp 11) (.tmp 58) _ _ rfl rfl _ _ pk 34 kR lN lN on1 gw ?_; clear S; intro w S) | ((with_reducible refine iO _ (.load 22 _) ?_); first | (refine step_loadR 22 _ _ _ rfl _ (S.old_range hy) _ Tryd.underlying22 rfl 32 kR lN _ rfl gw ?_) | (refine step_loadP S 22 _ _ _ rfl _ _ _ pk 32 _ pT lN _ Tryd.underlying22 rfl kR gw ?_)) | ((with_reducible refine iD 13 (.alloc 22) ?_); refine step_alloc (dst := some 13) S 22 (.agg (arr8 (List.replicate 32 0))) (arr8 (List.replicate 32 0)) kR rfl gw ?_; clear S; intro g13 w S) | ((with_reducible refine iO none (.store 22 (.tmp 13) (.tmp 110)) ?_); refine step_store S 22 (.tmp 13) (.tmp 110) _ _ rfl rfl _ _ pk 32 kR lN lN on1 gw ?_; clear S; intro w S) | ((with_reducible refine iO _ (.load 22 _) ?_); first | (refine step_load S 22 _ _ rfl _ _ _ pk _ Tryd.underlying22 rfl 32 kR lN gw ?_) | (refine step_loadO 22 _ _ rfl _ _ _ (S.old_heap (Hid.out (by assumption))) _ Tryd.underlying22 rfl 32 kR lN gw ?_) | (refine step_loadR 22 _ _ _ rfl _ (S.old_range hy) _ Tryd.underlying22 rfl 32 kR lN _ rfl gw ?_)) | ((with_reducible refine iO none (.store 40 (.tmp 6) (.tmp 162)) ?_); refine step_store S 40 (.tmp 6) (.tmp 162) _ _ rfl rfl _ _ pk 34 kR lN lN on1 gw ?_; clear S; intro w S) | ((with_reducible refine iO _ (.load 38 _) ?_); refine step_load1 38 _ _ _ rfl (cL) _ Tryd.underlying38 rfl gw ?_) | ((with_reducible refine iO _ (.load 31 _) ?_); refine step_load1 31 _ _ _ rfl (cL) _ Tryd.underlying31 rfl gw ?_) | ((with_reducible refine iO _ (.slice 31 _ _ _ _) ?_); refine step_cutL 31 50 35 _ _ _ _ _ _ _ _ rfl rfl (by first | rfl | omega) (by first | (first | omega | assumption | (exact Hid.out (by assumption)) | (simp only [List.length_append, List.length_cons, List.length_nil]; omega)) | decide) Tryd.underlying31 kR gw ?_) | ((with_reducible refine iO _ (.slice 32 _ _ _ _) ?_); refine step_cutL 32 25 1 _ _ _ _ _ _ _ _ rfl rfl (by first | rfl | omega) (by first | (first | omega | assumption | (exact Hid.out (by assumption)) | (simp only [List.length_append, List.length_cons, List.length_nil]; omega)) | decide) Tryd.underlying32 kR gw ?_) | fail)
      refine wp_rely S [⟨[], [], [], fun _ v => v = .agg (lgL LQ gv).toArray, fun _ v => []⟩, ⟨[], [], [], fun _ v => v = (.slice (some ⟨b, off, none⟩) N c0), fun _ v => []⟩, ⟨[], [], [], fun _ v => v = (.int .i64 (k : Int)), fun _ v => []⟩, ⟨[1, 2], [], [], fun _ v => v = .pointer (some ⟨b, off + k * 4, none⟩), fun _ v => []⟩, ⟨[1, 2, 3], [], [], fun _ v => v = .pointer (some ⟨b, off + k * 4, none⟩), fun _ v => []⟩, ⟨[1, 2, 3, 4], [], [], fun _ v => v = .int .u64 (n.tick.toNat : Int), fun _ v => []⟩, ⟨[], [], [], fun _ v => v = (.slice (some ⟨b, off, none⟩) N c0), fun _ v => []⟩, ⟨[], [], [], fun _ v => v = (.int .i64 (k : Int)), fun _ v => []⟩, ⟨[6, 7], [], [], fun _ v => v = .pointer (some ⟨b, off + k * 4, none⟩), fun _ v => []⟩, ⟨[6, 7, 8], [], [], fun _ v => v = .pointer (some ⟨b, off + k * 4 + 1, none⟩), fun _ v => []⟩, ⟨[6, 7, 8, 9], [], [], fun _ v => v = .int .u8 (n.kind.toNat : Int), fun _ v => []⟩, ⟨[], [], [], fun _ v => v = (.slice (some ⟨b, off, none⟩) N c0), fun _ v => []⟩, ⟨[], [], [], fun _ v => v = (.int .i64 (k : Int)), fun _ v => []⟩, ⟨[11, 12], [], [], fun _ v => v = .pointer (some ⟨b, off + k * 4, none⟩), fun _ v => []⟩, ⟨[11, 12, 13], [], [], fun _ v => v = .pointer (some ⟨b, off + k * 4 + 2, none⟩), fun _ v => []⟩, ⟨[11, 12, 13, 14], [], [], fun _ v => v = .int .u16 (n.code.toNat : Int), fun _ v => []⟩, ⟨[11, 12, 13, 14, 15], [], [], fun _ v => v = .int .i64 (n.code.toNat : Int), fun _ v => []⟩, ⟨[], [], [], fun _ v => v = (.slice (some ⟨b, off, none⟩) N c0), fun _ v => []⟩, ⟨[], [], [], fun _ v => v = (.int .i64 (k : Int)), fun _ v => []⟩, ⟨[17, 18], [], [], fun _ v => v = .pointer (some ⟨b, off + k * 4, none⟩), fun _ v => []⟩, ⟨[17, 18, 19], [], [], fun _ v => v = .pointer (some ⟨b, off + k * 4 + 3, none⟩), fun _ v => []⟩, ⟨[17, 18, 19, 20], [], [], fun _ v => v = .slice ah n.b.length ch, fun _ v => []⟩, ⟨[0, 1, 2, 3, 4, 5, 6, 7, 8, 9, 10, 11, 12, 13, 14, 15, 16, 17, 18, 19, 20, 21], [], [], fun _ v => ∃ y, v = .tuple #[.agg (lgL GX y).toArray, .int .i64 E], fun _ v => [rowRc (logV v) GX.recs]⟩, ⟨[0, 1, 2, 3, 4, 5, 6, 7, 8, 9, 10, 11, 12, 13, 14, 15, 16, 17, 18, 19, 20, 21, 22], [], [], fun d v => v = d 22, fun _ v => []⟩, ⟨[0, 1, 2, 3, 4, 5, 6, 7, 8, 9, 10, 11, 12, 13, 14, 15, 16, 17, 18, 19, 20, 21, 22, 23], [], [], fun d v => v = tupAt (d 22) 0, fun _ v => []⟩, ⟨[0, 1, 2, 3, 4, 5, 6, 7, 8, 9, 10, 11, 12, 13, 14, 15, 16, 17, 18, 19, 20, 21, 22, 23], [], [], fun d v => v = tupAt (d 22) 1, fun _ v => []⟩, ⟨[], [], [], fun _ v => ∃ g, v = .pointer (some ⟨g, 0, none⟩), fun _ v => [blk (ptrBlk v) (.cells ((lgL lgZ (.slice none 0 0)).toArray) 40 (0, 0))]⟩, ⟨[0, 1, 2, 3, 4, 5, 6, 7, 8, 9, 10, 11, 12, 13, 14, 15, 16, 17, 18, 19, 20, 21, 22, 23, 24, 26], [26], [22], fun _ v => True, fun d v => [blk (ptrBlk (d 26)) (.cells (aggCells (tupAt (d 22) 0)) 40 (0, 0))]⟩, ⟨[0, 1, 2, 3, 4, 5, 6, 7, 8, 9, 10, 11, 12, 13, 14, 15, 16, 17, 18, 19, 20, 21, 22, 23, 24, 25, 26, 27], [], [], fun d v => v = (tupAt (d 22) 1), fun _ v => []⟩] ?A1 ?hA1 kR kR kR [0, 1, 2, 3, 4, 5, 6, 7, 8, 9, 10, 11, 12, 13, 14, 15, 16, 17, 18, 19, 20, 21, 22, 23, 24, 25, 27, 28] kR ?hok1 ?fin1
      case hA1 => intro u; simp only [putAll, List.length_cons, List.length_nil, Nat.zero_add, Nat.reduceAdd, dstAt, List.getElem?_toArray, List.getElem?_cons_zero, List.getElem?_cons_succ, Option.bind_some, Act.put, List.setIfInBounds_toArray, List.set_cons_zero, List.set_cons_succ]; rfl
      case hok1 =>
        intro i hi
        obtain rfl | rfl | rfl | rfl | rfl | rfl | rfl | rfl | rfl | rfl | rfl | rfl | rfl | rfl | rfl | rfl | rfl | rfl | rfl | rfl | rfl | rfl | rfl | rfl | rfl | rfl | rfl | rfl | rfl : i = 0 ∨ i = 1 ∨ i = 2 ∨ i = 3 ∨ i = 4 ∨ i = 5 ∨ i = 6 ∨ i = 7 ∨ i = 8 ∨ i = 9 ∨ i = 10 ∨ i = 11 ∨ i = 12 ∨ i = 13 ∨ i = 14 ∨ i = 15 ∨ i = 16 ∨ i = 17 ∨ i = 18 ∨ i = 19 ∨ i = 20 ∨ i = 21 ∨ i = 22 ∨ i = 23 ∨ i = 24 ∨ i = 25 ∨ i = 26 ∨ i = 27 ∨ i = 28 := by simp only [List.length_cons, List.length_nil, Nat.zero_add, Nat.reduceAdd] at hi; omega
        · clear hi
          refine step_of rfl rfl rfl ?_
          intro u G w hf S
          simp only [resOf, spec, RSpec.resAt, List.getD_cons_zero, List.getD_cons_succ, List.flatMap_cons, List.flatMap_nil, List.nil_append, List.cons_append, List.append_nil, List.append_assoc, ptrBlk, logV_tup, aggCells_agg, tupAt20, tupAt21, tupAt30, tupAt31, tupAt32] at S ⊢
          refine does_load 40 (.tmp 6) g6 rfl _ _ _ (S.get (r := blk g6 _) pk) _ Tryd.underlying40 rfl 34 kR lN ?_; exact ⟨rfl, S⟩
        · clear hi
          refine step_of rfl rfl rfl ?_
          intro u G w hf S
          simp only [resOf, spec, RSpec.resAt, List.getD_cons_zero, List.getD_cons_succ, List.flatMap_cons, List.flatMap_nil, List.nil_append, List.cons_append, List.append_nil, List.append_assoc, ptrBlk, logV_tup, aggCells_agg, tupAt20, tupAt21, tupAt30, tupAt31, tupAt32] at S ⊢
          simp only [does]
          go_simp
          try first | exact S | exact ⟨vv, S⟩ | exact vv
        · clear hi
          refine step_of rfl rfl rfl ?_
          intro u G w hf S
          simp only [resOf, spec, RSpec.resAt, List.getD_cons_zero, List.getD_cons_succ, List.flatMap_cons, List.flatMap_nil, List.nil_append, List.cons_append, List.append_nil, List.append_assoc, ptrBlk, logV_tup, aggCells_agg, tupAt20, tupAt21, tupAt30, tupAt31, tupAt32] at S ⊢
          simp only [does]
          go_simp
          try first | exact S | exact ⟨vv, S⟩ | exact vv
        · clear hi
          refine step_of rfl rfl rfl ?_
          intro u G w hf S
          have f1 : u 1 = (.slice (some ⟨b, off, none⟩) N c0) := hf 1 (by simp)
          have f2 : u 2 = (.int .i64 (k : Int)) := hf 2 (by simp)
          simp only [resOf, spec, RSpec.resAt, List.getD_cons_zero, List.getD_cons_succ, List.flatMap_cons, List.flatMap_nil, List.nil_append, List.cons_append, List.append_nil, List.append_assoc, ptrBlk, logV_tup, aggCells_agg, tupAt20, tupAt21, tupAt30, tupAt31, tupAt32] at S ⊢
          simp only [f1, f2, logV_tup, aggCells_agg, tupAt20, tupAt21, tupAt30, tupAt31, tupAt32]
          simp only [does]
          go_simp
          try first | exact S | exact ⟨vv, S⟩ | exact vv
        · clear hi
          refine step_of rfl rfl rfl ?_
          intro u G w hf S
          have f3 : u 3 = .pointer (some ⟨b, off + k * 4, none⟩) := hf 3 (by simp)
          simp only [resOf, spec, RSpec.resAt, List.getD_cons_zero, List.getD_cons_succ, List.flatMap_cons, List.flatMap_nil, List.nil_append, List.cons_append, List.append_nil, List.append_assoc, ptrBlk, logV_tup, aggCells_agg, tupAt20, tupAt21, tupAt30, tupAt31, tupAt32] at S ⊢
          simp only [f3, logV_tup, aggCells_agg, tupAt20, tupAt21, tupAt30, tupAt31, tupAt32]
          simp only [does]
          go_simp
          try first | exact S | exact ⟨vv, S⟩ | exact vv
        · clear hi
          refine step_of rfl rfl rfl ?_
          intro u G w hf S
          have f4 : u 4 = .pointer (some ⟨b, off + k * 4, none⟩) := hf 4 (by simp)
          simp only [resOf, spec, RSpec.resAt, List.getD_cons_zero, List.getD_cons_succ, List.flatMap_cons, List.flatMap_nil, List.nil_append, List.cons_append, List.append_nil, List.append_assoc, ptrBlk, logV_tup, aggCells_agg, tupAt20, tupAt21, tupAt30, tupAt31, tupAt32] at S ⊢
          simp only [f4, logV_tup, aggCells_agg, tupAt20, tupAt21, tupAt30, tupAt31, tupAt32]
          refine does_load1 23 (.tmp 39) _ _ rfl (S.old_cell hy) _ Tryd.underlying23 rfl ?_; exact ⟨rfl, S⟩
        · clear hi
          refine step_of rfl rfl rfl ?_
          intro u G w hf S
          simp only [resOf, spec, RSpec.resAt, List.getD_cons_zero, List.getD_cons_succ, List.flatMap_cons, List.flatMap_nil, List.nil_append, List.cons_append, List.append_nil, List.append_assoc, ptrBlk, logV_tup, aggCells_agg, tupAt20, tupAt21, tupAt30, tupAt31, tupAt32] at S ⊢
          simp only [does]
          go_simp
          try first | exact S | exact ⟨vv, S⟩ | exact vv
        · clear hi
          refine step_of rfl rfl rfl ?_
          intro u G w hf S
          simp only [resOf, spec, RSpec.resAt, List.getD_cons_zero, List.getD_cons_succ, List.flatMap_cons, List.flatMap_nil, List.nil_append, List.cons_append, List.append_nil, List.append_assoc, ptrBlk, logV_tup, aggCells_agg, tupAt20, tupAt21, tupAt30, tupAt31, tupAt32] at S ⊢
          simp only [does]
          go_simp
          try first | exact S | exact ⟨vv, S⟩ | exact vv
        · clear hi
          refine step_of rfl rfl rfl ?_
          intro u G w hf S
          have f6 : u 6 = (.slice (some ⟨b, off, none⟩) N c0) := hf 6 (by simp)
          have f7 : u 7 = (.int .i64 (k : Int)) := hf 7 (by simp)
          simp only [resOf, spec, RSpec.resAt, List.getD_cons_zero, List.getD_cons_succ, List.flatMap_cons, List.flatMap_nil, List.nil_append, List.cons_append, List.append_nil, List.append_assoc, ptrBlk, logV_tup, aggCells_agg, tupAt20, tupAt21, tupAt30, tupAt31, tupAt32] at S ⊢
          simp only [f6, f7, logV_tup, aggCells_agg, tupAt20, tupAt21, tupAt30, tupAt31, tupAt32]
          simp only [does]
          go_simp
          try first | exact S | exact ⟨vv, S⟩ | exact vv
        · clear hi
          refine step_of rfl rfl rfl ?_
          intro u G w hf S
          have f8 : u 8 = .pointer (some ⟨b, off + k * 4, none⟩) := hf 8 (by simp)
          simp only [resOf, spec, RSpec.resAt, List.getD_cons_zero, List.getD_cons_succ, List.flatMap_cons, List.flatMap_nil, List.nil_append, List.cons_append, List.append_nil, List.append_assoc, ptrBlk, logV_tup, aggCells_agg, tupAt20, tupAt21, tupAt30, tupAt31, tupAt32] at S ⊢
          simp only [f8, logV_tup, aggCells_agg, tupAt20, tupAt21, tupAt30, tupAt31, tupAt32]
          simp only [does]
          go_simp
          try first | exact S | exact ⟨vv, S⟩ | exact vv
        · clear hi
          refine step_of rfl rfl rfl ?_
          intro u G w hf S
          have f9 : u 9 = .pointer (some ⟨b, off + k * 4 + 1, none⟩) := hf 9 (by simp)
          simp only [resOf, spec, RSpec.resAt, List.getD_cons_zero, List.getD_cons_succ, List.flatMap_cons, List.flatMap_nil, List.nil_append, List.cons_append, List.append_nil, List.append_assoc, ptrBlk, logV_tup, aggCells_agg, tupAt20, tupAt21, tupAt30, tupAt31, tupAt32] at S ⊢
          simp only [f9, logV_tup, aggCells_agg, tupAt20, tupAt21, tupAt30, tupAt31, tupAt32]
          refine does_load1 5 (.tmp 44) _ _ rfl (S.old_cell hy) _ Tryd.underlying5 rfl ?_; exact ⟨rfl, S⟩
        · clear hi
          refine step_of rfl rfl rfl ?_
          intro u G w hf S
          simp only [resOf, spec, RSpec.resAt, List.getD_cons_zero, List.getD_cons_succ, List.flatMap_cons, List.flatMap_nil, List.nil_append, List.cons_append, List.append_nil, List.append_assoc, ptrBlk, logV_tup, aggCells_agg, tupAt20, tupAt21, tupAt30, tupAt31, tupAt32] at S ⊢
          simp only [does]
          go_simp
          try first | exact S | exact ⟨vv, S⟩ | exact vv
        · clear hi
          refine step_of rfl rfl rfl ?_
          intro u G w hf S
          simp only [resOf, spec, RSpec.resAt, List.getD_cons_zero, List.getD_cons_succ, List.flatMap_cons, List.flatMap_nil, List.nil_append, List.cons_append, List.append_nil, List.append_assoc, ptrBlk, logV_tup, aggCells_agg, tupAt20, tupAt21, tupAt30, tupAt31, tupAt32] at S ⊢
          simp only [does]
          go_simp
          try first | exact S | exact ⟨vv, S⟩ | exact vv
        · clear hi
          refine step_of rfl rfl rfl ?_
          intro u G w hf S
          have f11 : u 11 = (.slice (some ⟨b, off, none⟩) N c0) := hf 11 (by simp)
          have f12 : u 12 = (.int .i64 (k : Int)) := hf 12 (by simp)
          simp only [resOf, spec, RSpec.resAt, List.getD_cons_zero, List.getD_cons_succ, List.flatMap_cons, List.flatMap_nil, List.nil_append, List.cons_append, List.append_nil, List.append_assoc, ptrBlk, logV_tup, aggCells_agg, tupAt20, tupAt21, tupAt30, tupAt31, tupAt32] at S ⊢
          simp only [f11, f12, logV_tup, aggCells_agg, tupAt20, tupAt21, tupAt30, tupAt31, tupAt32]
          simp only [does]
          go_simp
          try first | exact S | exact ⟨vv, S⟩ | exact vv
        · clear hi
          refine step_of rfl rfl rfl ?_
          intro u G w hf S
          have f13 : u 13 = .pointer (some ⟨b, off + k * 4, none⟩) := hf 13 (by simp)
          simp only [resOf, spec, RSpec.resAt, List.getD_cons_zero, List.getD_cons_succ, List.flatMap_cons, List.flatMap_nil, List.nil_append, List.cons_append, List.append_nil, List.append_assoc, ptrBlk, logV_tup, aggCells_agg, tupAt20, tupAt21, tupAt30, tupAt31, tupAt32] at S ⊢
          simp only [f13, logV_tup, aggCells_agg, tupAt20, tupAt21, tupAt30, tupAt31, tupAt32]
          simp only [does]
          go_simp
          try first | exact S | exact ⟨vv, S⟩ | exact vv
        · clear hi
          refine step_of rfl rfl rfl ?_
          intro u G w hf S
          have f14 : u 14 = .pointer (some ⟨b, off + k * 4 + 2, none⟩) := hf 14 (by simp)
          simp only [resOf, spec, RSpec.resAt, List.getD_cons_zero, List.getD_cons_succ, List.flatMap_cons, List.flatMap_nil, List.nil_append, List.cons_append, List.append_nil, List.append_assoc, ptrBlk, logV_tup, aggCells_agg, tupAt20, tupAt21, tupAt30, tupAt31, tupAt32] at S ⊢
          simp only [f14, logV_tup, aggCells_agg, tupAt20, tupAt21, tupAt30, tupAt31, tupAt32]
          refine does_load1 80 (.tmp 49) _ _ rfl (S.old_cell hy) _ Tryd.underlying80 rfl ?_; exact ⟨rfl, S⟩
        · clear hi
          refine step_of rfl rfl rfl ?_
          intro u G w hf S
          have f15 : u 15 = .int .u16 (n.code.toNat : Int) := hf 15 (by simp)
          simp only [resOf, spec, RSpec.resAt, List.getD_cons_zero, List.getD_cons_succ, List.flatMap_cons, List.flatMap_nil, List.nil_append, List.cons_append, List.append_nil, List.append_assoc, ptrBlk, logV_tup, aggCells_agg, tupAt20, tupAt21, tupAt30, tupAt31, tupAt32] at S ⊢
          simp only [f15, logV_tup, aggCells_agg, tupAt20, tupAt21, tupAt30, tupAt31, tupAt32]
          simp only [does]
          go_simp
          try first | exact S | exact ⟨vv, S⟩ | exact vv
        · clear hi
          refine step_of rfl rfl rfl ?_
          intro u G w hf S
          simp only [resOf, spec, RSpec.resAt, List.getD_cons_zero, List.getD_cons_succ, List.flatMap_cons, List.flatMap_nil, List.nil_append, List.cons_append, List.append_nil, List.append_assoc, ptrBlk, logV_tup, aggCells_agg, tupAt20, tupAt21, tupAt30, tupAt31, tupAt32] at S ⊢
          simp only [does]
          go_simp
          try first | exact S | exact ⟨vv, S⟩ | exact vv
        · clear hi
          refine step_of rfl rfl rfl ?_
          intro u G w hf S
          simp only [resOf, spec, RSpec.resAt, List.getD_cons_zero, List.getD_cons_succ, List.flatMap_cons, List.flatMap_nil, List.nil_append, List.cons_append, List.append_nil, List.append_assoc, ptrBlk, logV_tup, aggCells_agg, tupAt20, tupAt21, tupAt30, tupAt31, tupAt32] at S ⊢
          simp only [does]
          go_simp
          try first | exact S | exact ⟨vv, S⟩ | exact vv
        · clear hi
          refine step_of rfl rfl rfl ?_
          intro u G w hf S
          have f17 : u 17 = (.slice (some ⟨b, off, none⟩) N c0) := hf 17 (by simp)
          have f18 : u 18 = (.int .i64 (k : Int)) := hf 18 (by simp)
          simp only [resOf, spec, RSpec.resAt, List.getD_cons_zero, List.getD_cons_succ, List.flatMap_cons, List.flatMap_nil, List.nil_append, List.cons_append, List.append_nil, List.append_assoc, ptrBlk, logV_tup, aggCells_agg, tupAt20, tupAt21, tupAt30, tupAt31, tupAt32] at S ⊢
          simp only [f17, f18, logV_tup, aggCells_agg, tupAt20, tupAt21, tupAt30, tupAt31, tupAt32]
          simp only [does]
          go_simp
          try first | exact S | exact ⟨vv, S⟩ | exact vv
        · clear hi
          refine step_of rfl rfl rfl ?_
          intro u G w hf S
          have f19 : u 19 = .pointer (some ⟨b, off + k * 4, none⟩) := hf 19 (by simp)
          simp only [resOf, spec, RSpec.resAt, List.getD_cons_zero, List.getD_cons_succ, List.flatMap_cons, List.flatMap_nil, List.nil_append, List.cons_append, List.append_nil, List.append_assoc, ptrBlk, logV_tup, aggCells_agg, tupAt20, tupAt21, tupAt30, tupAt31, tupAt32] at S ⊢
          simp only [f19, logV_tup, aggCells_agg, tupAt20, tupAt21, tupAt30, tupAt31, tupAt32]
          simp only [does]
          go_simp
          try first | exact S | exact ⟨vv, S⟩ | exact vv
        · clear hi
          refine step_of rfl rfl rfl ?_
          intro u G w hf S
          have f20 : u 20 = .pointer (some ⟨b, off + k * 4 + 3, none⟩) := hf 20 (by simp)
          simp only [resOf, spec, RSpec.resAt, List.getD_cons_zero, List.getD_cons_succ, List.flatMap_cons, List.flatMap_nil, List.nil_append, List.cons_append, List.append_nil, List.append_assoc, ptrBlk, logV_tup, aggCells_agg, tupAt20, tupAt21, tupAt30, tupAt31, tupAt32] at S ⊢
          simp only [f20, logV_tup, aggCells_agg, tupAt20, tupAt21, tupAt30, tupAt31, tupAt32]
          refine does_load1 25 (.tmp 55) _ _ rfl (S.old_cell hy) _ Tryd.underlying25 rfl ?_; exact ⟨rfl, S⟩
        · clear hi
          refine step_of rfl rfl rfl ?_
          intro u G w hf S
          have f0 : u 0 = .agg (lgL LQ gv).toArray := hf 0 (by simp)
          have f5 : u 5 = .int .u64 (n.tick.toNat : Int) := hf 5 (by simp)
          have f10 : u 10 = .int .u8 (n.kind.toNat : Int) := hf 10 (by simp)
          have f16 : u 16 = .int .i64 (n.code.toNat : Int) := hf 16 (by simp)
          have f21 : u 21 = .slice ah n.b.length ch := hf 21 (by simp)
          simp only [resOf, spec, RSpec.resAt, List.getD_cons_zero, List.getD_cons_succ, List.flatMap_cons, List.flatMap_nil, List.nil_append, List.cons_append, List.append_nil, List.append_assoc, ptrBlk, logV_tup, aggCells_agg, tupAt20, tupAt21, tupAt30, tupAt31, tupAt32] at S ⊢
          simp only [f0, f5, f10, f16, f21, logV_tup, aggCells_agg, tupAt20, tupAt21, tupAt30, tupAt31, tupAt32]
          refine does_fn (args := [.agg (lgL LQ gv).toArray, .int .u64 (n.tick.toNat : Int), .int .u8 (n.kind.toNat : Int), .int .i64 (n.code.toNat : Int), .slice ah n.b.length ch]) Tryd.func21 kR kR (P1.out w (S.sl (v := gv) pk) (S.oldB HBN.out) kT) rfl ?_
          rintro e w1 ⟨y, rfl, T⟩
          exact ⟨_, rfl, ⟨_, rfl⟩, by rw [logV_tup]; exact S.call T⟩
        · clear hi
          refine step_of rfl rfl rfl ?_
          intro u G w hf S
          have f22 : ∃ y, u 22 = .tuple #[.agg (lgL GX y).toArray, .int .i64 E] := hf 22 (by simp)
          obtain ⟨y57, f22⟩ := f22
          have m22 : mask [0, 1, 2, 3, 4, 5, 6, 7, 8, 9, 10, 11, 12, 13, 14, 15, 16, 17, 18, 19, 20, 21, 22] u 22 = u 22 := rfl
          simp only [resOf, spec, RSpec.resAt, List.getD_cons_zero, List.getD_cons_succ, List.flatMap_cons, List.flatMap_nil, List.nil_append, List.cons_append, List.append_nil, List.append_assoc, m22, ptrBlk, logV_tup, aggCells_agg, tupAt20, tupAt21, tupAt30, tupAt31, tupAt32] at S ⊢
          simp only [m22, f22, logV_tup, aggCells_agg, tupAt20, tupAt21, tupAt30, tupAt31, tupAt32]
          simp only [does]
          go_simp
          try first | exact S | exact ⟨vv, S⟩ | exact vv
        · clear hi
          refine step_of rfl rfl rfl ?_
          intro u G w hf S
          have f22 : ∃ y, u 22 = .tuple #[.agg (lgL GX y).toArray, .int .i64 E] := hf 22 (by simp)
          obtain ⟨y57, f22⟩ := f22
          have f23 : u 23 = u 22 := hf 23 (by simp)
          have m22 : mask [0, 1, 2, 3, 4, 5, 6, 7, 8, 9, 10, 11, 12, 13, 14, 15, 16, 17, 18, 19, 20, 21, 22, 23] u 22 = u 22 := rfl
          simp only [resOf, spec, RSpec.resAt, List.getD_cons_zero, List.getD_cons_succ, List.flatMap_cons, List.flatMap_nil, List.nil_append, List.cons_append, List.append_nil, List.append_assoc, m22, ptrBlk, logV_tup, aggCells_agg, tupAt20, tupAt21, tupAt30, tupAt31, tupAt32] at S ⊢
          simp only [m22, f22, f23, logV_tup, aggCells_agg, tupAt20, tupAt21, tupAt30, tupAt31, tupAt32]
          simp only [does]
          go_simp
          try first | exact S | exact ⟨vv, S⟩ | exact vv
        · clear hi
          refine step_of rfl rfl rfl ?_
          intro u G w hf S
          have f22 : ∃ y, u 22 = .tuple #[.agg (lgL GX y).toArray, .int .i64 E] := hf 22 (by simp)
          obtain ⟨y57, f22⟩ := f22
          have f23 : u 23 = u 22 := hf 23 (by simp)
          have m22 : mask [0, 1, 2, 3, 4, 5, 6, 7, 8, 9, 10, 11, 12, 13, 14, 15, 16, 17, 18, 19, 20, 21, 22, 23] u 22 = u 22 := rfl
          simp only [resOf, spec, RSpec.resAt, List.getD_cons_zero, List.getD_cons_succ, List.flatMap_cons, List.flatMap_nil, List.nil_append, List.cons_append, List.append_nil, List.append_assoc, m22, ptrBlk, logV_tup, aggCells_agg, tupAt20, tupAt21, tupAt30, tupAt31, tupAt32] at S ⊢
          simp only [m22, f22, f23, logV_tup, aggCells_agg, tupAt20, tupAt21, tupAt30, tupAt31, tupAt32]
          simp only [does]
          go_simp
          try first | exact S | exact ⟨vv, S⟩ | exact vv
        · clear hi
          refine step_of rfl rfl rfl ?_
          intro u G w hf S
          simp only [resOf, spec, RSpec.resAt, List.getD_cons_zero, List.getD_cons_succ, List.flatMap_cons, List.flatMap_nil, List.nil_append, List.cons_append, List.append_nil, List.append_assoc, ptrBlk, logV_tup, aggCells_agg, tupAt20, tupAt21, tupAt30, tupAt31, tupAt32] at S ⊢
          refine does_alloc S 40 (.agg ((lgL lgZ (.slice none 0 0)).toArray)) ((lgL lgZ (.slice none 0 0)).toArray) kR rfl ?_; intro g w1 S; exact ⟨⟨g, rfl⟩, S⟩
        · clear hi
          refine step_of rfl rfl rfl ?_
          intro u G w hf S
          have f22 : ∃ y, u 22 = .tuple #[.agg (lgL GX y).toArray, .int .i64 E] := hf 22 (by simp)
          obtain ⟨y57, f22⟩ := f22
          have f24 : u 24 = tupAt (u 22) 0 := hf 24 (by simp)
          have f26 : ∃ g, u 26 = .pointer (some ⟨g, 0, none⟩) := hf 26 (by simp)
          obtain ⟨g11, f26⟩ := f26
          have m22 : mask [0, 1, 2, 3, 4, 5, 6, 7, 8, 9, 10, 11, 12, 13, 14, 15, 16, 17, 18, 19, 20, 21, 22, 23, 24, 26] u 22 = u 22 := rfl
          have m26 : mask [0, 1, 2, 3, 4, 5, 6, 7, 8, 9, 10, 11, 12, 13, 14, 15, 16, 17, 18, 19, 20, 21, 22, 23, 24, 26] u 26 = u 26 := rfl
          simp only [resOf, spec, RSpec.resAt, List.getD_cons_zero, List.getD_cons_succ, List.flatMap_cons, List.flatMap_nil, List.nil_append, List.cons_append, List.append_nil, List.append_assoc, m26, m22, ptrBlk, logV_tup, aggCells_agg, tupAt20, tupAt21, tupAt30, tupAt31, tupAt32] at S ⊢
          simp only [m26, m22, f22, f24, f26, logV_tup, aggCells_agg, tupAt20, tupAt21, tupAt30, tupAt31, tupAt32] at S ⊢
          try simp only [ptrBlk] at S
          refine does_store S 40 (.tmp 11) (.tmp 58) _ rfl rfl 34 kR (lgL_size _ _) (lgL_size _ _) (lgL_one _ _ (one_sl (S.sl (v := y57) (xs := GX.recs.flatMap rcdL) pk)).1) ?_; intro w1 S; exact ⟨trivial, S⟩
        · clear hi
          refine step_of rfl rfl rfl ?_
          intro u G w hf S
          have f22 : ∃ y, u 22 = .tuple #[.agg (lgL GX y).toArray, .int .i64 E] := hf 22 (by simp)
          obtain ⟨y57, f22⟩ := f22
          have f25 : u 25 = tupAt (u 22) 1 := hf 25 (by simp)
          have f26 : ∃ g, u 26 = .pointer (some ⟨g, 0, none⟩) := hf 26 (by simp)
          obtain ⟨g11, f26⟩ := f26
          have m22 : mask [0, 1, 2, 3, 4, 5, 6, 7, 8, 9, 10, 11, 12, 13, 14, 15, 16, 17, 18, 19, 20, 21, 22, 23, 24, 25, 26, 27] u 22 = u 22 := rfl
          simp only [resOf, spec, RSpec.resAt, List.getD_cons_zero, List.getD_cons_succ, List.flatMap_cons, List.flatMap_nil, List.nil_append, List.cons_append, List.append_nil, List.append_assoc, m22, ptrBlk, logV_tup, aggCells_agg, tupAt20, tupAt21, tupAt30, tupAt31, tupAt32] at S ⊢
          simp only [m22, f22, f25, f26, logV_tup, aggCells_agg, tupAt20, tupAt21, tupAt30, tupAt31, tupAt32]
          simp only [does]
          go_simp
          try first | exact S | exact ⟨vv, S⟩ | exact vv
      case fin1 =>
        intro u w hf S
        have f0 : u 0 = .agg (lgL LQ gv).toArray := hf 0 (by simp)
        have f1 : u 1 = (.slice (some ⟨b, off, none⟩) N c0) := hf 1 (by simp)
        have f2 : u 2 = (.int .i64 (k : Int)) := hf 2 (by simp)
        have f3 : u 3 = .pointer (some ⟨b, off + k * 4, none⟩) := hf 3 (by simp)
        have f4 : u 4 = .pointer (some ⟨b, off + k * 4, none⟩) := hf 4 (by simp)
        have f5 : u 5 = .int .u64 (n.tick.toNat : Int) := hf 5 (by simp)
        have f6 : u 6 = (.slice (some ⟨b, off, none⟩) N c0) := hf 6 (by simp)
        have f7 : u 7 = (.int .i64 (k : Int)) := hf 7 (by simp)
        have f8 : u 8 = .pointer (some ⟨b, off + k * 4, none⟩) := hf 8 (by simp)
        have f9 : u 9 = .pointer (some ⟨b, off + k * 4 + 1, none⟩) := hf 9 (by simp)
        have f10 : u 10 = .int .u8 (n.kind.toNat : Int) := hf 10 (by simp)
        have f11 : u 11 = (.slice (some ⟨b, off, none⟩) N c0) := hf 11 (by simp)
        have f12 : u 12 = (.int .i64 (k : Int)) := hf 12 (by simp)
        have f13 : u 13 = .pointer (some ⟨b, off + k * 4, none⟩) := hf 13 (by simp)
        have f14 : u 14 = .pointer (some ⟨b, off + k * 4 + 2, none⟩) := hf 14 (by simp)
        have f15 : u 15 = .int .u16 (n.code.toNat : Int) := hf 15 (by simp)
        have f16 : u 16 = .int .i64 (n.code.toNat : Int) := hf 16 (by simp)
        have f17 : u 17 = (.slice (some ⟨b, off, none⟩) N c0) := hf 17 (by simp)
        have f18 : u 18 = (.int .i64 (k : Int)) := hf 18 (by simp)
        have f19 : u 19 = .pointer (some ⟨b, off + k * 4, none⟩) := hf 19 (by simp)
        have f20 : u 20 = .pointer (some ⟨b, off + k * 4 + 3, none⟩) := hf 20 (by simp)
        have f21 : u 21 = .slice ah n.b.length ch := hf 21 (by simp)
        have f22 : ∃ y, u 22 = .tuple #[.agg (lgL GX y).toArray, .int .i64 E] := hf 22 (by simp)
        obtain ⟨y57, f22⟩ := f22
        have f23 : u 23 = u 22 := hf 23 (by simp)
        have f24 : u 24 = tupAt (u 22) 0 := hf 24 (by simp)
        have f25 : u 25 = tupAt (u 22) 1 := hf 25 (by simp)
        have f26 : ∃ g, u 26 = .pointer (some ⟨g, 0, none⟩) := hf 26 (by simp)
        obtain ⟨g11, f26⟩ := f26
        have f28 : u 28 = (tupAt (u 22) 1) := hf 28 (by simp)
        have m23_22 : mask [0, 1, 2, 3, 4, 5, 6, 7, 8, 9, 10, 11, 12, 13, 14, 15, 16, 17, 18, 19, 20, 21, 22] u 22 = u 22 := rfl
        have m24_22 : mask [0, 1, 2, 3, 4, 5, 6, 7, 8, 9, 10, 11, 12, 13, 14, 15, 16, 17, 18, 19, 20, 21, 22, 23] u 22 = u 22 := rfl
        have m25_22 : mask [0, 1, 2, 3, 4, 5, 6, 7, 8, 9, 10, 11, 12, 13, 14, 15, 16, 17, 18, 19, 20, 21, 22, 23] u 22 = u 22 := rfl
        have m27_22 : mask [0, 1, 2, 3, 4, 5, 6, 7, 8, 9, 10, 11, 12, 13, 14, 15, 16, 17, 18, 19, 20, 21, 22, 23, 24, 26] u 22 = u 22 := rfl
        have m27_26 : mask [0, 1, 2, 3, 4, 5, 6, 7, 8, 9, 10, 11, 12, 13, 14, 15, 16, 17, 18, 19, 20, 21, 22, 23, 24, 26] u 26 = u 26 := rfl
        have m28_22 : mask [0, 1, 2, 3, 4, 5, 6, 7, 8, 9, 10, 11, 12, 13, 14, 15, 16, 17, 18, 19, 20, 21, 22, 23, 24, 25, 26, 27] u 22 = u 22 := rfl
        simp only [resOf, spec, RSpec.resAt, List.getD_cons_zero, List.getD_cons_succ, List.flatMap_cons, List.flatMap_nil, List.nil_append, List.cons_append, List.append_nil, List.append_assoc, m23_22, m24_22, m25_22, m27_22, m27_26, m28_22, ptrBlk, logV_tup, aggCells_agg, tupAt20, tupAt21, tupAt30, tupAt31, tupAt32] at S
        clear hf
        simp only [List.length_cons, List.length_nil, Nat.zero_add, Nat.reduceAdd, List.drop_succ_cons, List.drop_zero, f0, f1, f2, f3, f4, f5, f6, f7, f8, f9, f10, f11, f12, f13, f14, f15, f16, f17, f18, f19, f20, f21, f22, f23, f24, f25, f26, f28, logV_tup, aggCells_agg, tupAt20, tupAt21, tupAt30, tupAt31, tupAt32]
        try simp only [f0, f1, f2, f3, f4, f5, f6, f7, f8, f9, f10, f11, f12, f13, f14, f15, f16, f17, f18, f19, f20, f21, f22, f23, f24, f25, f26, f28, logV_tup, aggCells_agg, tupAt20, tupAt21, tupAt30, tupAt31, tupAt32, ptrBlk] at S
        clear f0 f1 f2 f3 f4 f5 f6 f7 f8 f9 f10 f11 f12 f13 f14 f15 f16 f17 f18 f19 f20 f21 f22 f23 f24 f25 f26 f28 m23_22 m24_22 m25_22 m27_22 m27_26 m28_22
        cases hv : ntV n with
        | false =>
          have hE0 : (E == 0) = false := by
            rw [beq_eq_false_iff_ne]
            intro e
            have := HE2.out.1 e
            rw [hv] at this
            cases this
          have hvf := of_decide_eq_false (HVD.out.symm.trans hv)
          have j : (4611686018427387904 : Int) < (n.tick.toNat : Int) ∨ ((¬ (4611686018427387904 : Int) < (n.tick.toNat : Int)) ∧ (6 : Int) < (n.kind.toNat : Int)) ∨ ((¬ (4611686018427387904 : Int) < (n.tick.toNat : Int)) ∧ (¬ (6 : Int) < (n.kind.toNat : Int)) ∧ (64 : Int) < (n.b.length : Int)) := by omega
          clear hv hvf
          rcases j with j1 | ⟨j1, j2⟩ | ⟨j1, j2, j3⟩
          all_goals
            go_wp2_with (first | ((with_reducible refine iD 6 (.alloc 40) ?_); refine step_alloc (dst := some 6) S 40 (.agg ((lgL lgZ (.slice none 0 0)).toArray)) ((lgL lgZ (.slice none 0 0)).toArray) kR rfl gw ?_; clear S; intro g6 w S) | ((with_reducible refine iO none (.store 40 (.tmp 6) (.tmp 25)) ?_); refine step_store S 40 (.tmp 6) (.tmp 25) _ _ rfl rfl _ _ pk 34 kR lN lN on1 gw ?_; clear S; intro w S) | ((with_reducible refine iO _ (.load 40 _) ?_); first | (refine step_load S 40 _ _ rfl _ _ _ pk _ Tryd.underlying40 rfl 34 kR lN gw ?_) | (refine step_loadO 40 _ _ rfl _ _ _ (S.old_heap (Hid.out (by assumption))) _ Tryd.underlying40 rfl 34 kR lN gw ?_) | (refine step_loadR 40 _ _ _ rfl _ (S.old_range hy) _ Tryd.underlying40 rfl 34 kR lN _ rfl gw ?_)) | ((with_reducible refine iO _ (.load 23 _) ?_); refine step_load1 23 _ _ _ rfl (cL) _ Tryd.underlying23 rfl gw ?_) | ((with_reducible refine iO _ (.load 5 _) ?_); refine step_load1 5 _ _ _ rfl (cL) _ Tryd.underlying5 rfl gw ?_) | ((with_reducible refine iO _ (.load 80 _) ?_); refine step_load1 80 _ _ _ rfl (cL) _ Tryd.underlying80 rfl gw ?_) | ((with_reducible refine iO _ (.load 25 _) ?_); refine step_load1 25 _ _ _ rfl (cL) _ Tryd.underlying25 rfl gw ?_) | ((with_reducible refine iD 11 (.alloc 40) ?_); refine step_alloc (dst := some 11) S 40 (.agg ((lgL lgZ (.slice none 0 0)).toArray)) ((lgL lgZ (.slice none 0 0)).toArray) kR rfl gw ?_; clear S; intro g11 w S) | ((with_reducible refine iO none (.store 40 (.tmp 11) (.tmp 58)) ?_); refine step_store S 40 (.tmp 11) (.tmp 58) _ _ rfl rfl _ _ pk 34 kR lN lN on1 gw ?_; clear S; intro w S) | ((with_reducible refine iO _ (.load 22 _) ?_); first | (refine step_loadR 22 _ _ _ rfl _ (S.old_range hy) _ Tryd.underlying22 rfl 32 kR lN _ rfl gw ?_) | (refine step_loadP S 22 _ _ _ rfl _ _ _ pk 32 _ pT lN _ Tryd.underlying22 rfl kR gw ?_)) | ((with_reducible refine iD 13 (.alloc 22) ?_); refine step_alloc (dst := some 13) S 22 (.agg (arr8 (List.replicate 32 0))) (arr8 (List.replicate 32 0)) kR rfl gw ?_; clear S; intro g13 w S) | ((with_reducible refine iO none (.store 22 (.tmp 13) (.tmp 110)) ?_); refine step_store S 22 (.tmp 13) (.tmp 110) _ _ rfl rfl _ _ pk 32 kR lN lN on1 gw ?_; clear S; intro w S) | ((with_reducible refine iO _ (.load 22 _) ?_); first | (refine step_load S 22 _ _ rfl _ _ _ pk _ Tryd.underlying22 rfl 32 kR lN gw ?_) | (refine step_loadO 22 _ _ rfl _ _ _ (S.old_heap (Hid.out (by assumption))) _ Tryd.underlying22 rfl 32 kR lN gw ?_) | (refine step_loadR 22 _ _ _ rfl _ (S.old_range hy) _ Tryd.underlying22 rfl 32 kR lN _ rfl gw ?_)) | ((with_reducible refine iO none (.store 40 (.tmp 6) (.tmp 162)) ?_); refine step_store S 40 (.tmp 6) (.tmp 162) _ _ rfl rfl _ _ pk 34 kR lN lN on1 gw ?_; clear S; intro w S) | ((with_reducible refine iO _ (.load 38 _) ?_); refine step_load1 38 _ _ _ rfl (cL) _ Tryd.underlying38 rfl gw ?_) | ((with_reducible refine iO _ (.load 31 _) ?_); refine step_load1 31 _ _ _ rfl (cL) _ Tryd.underlying31 rfl gw ?_) | ((with_reducible refine iO _ (.slice 31 _ _ _ _) ?_); refine step_cutL 31 50 35 _ _ _ _ _ _ _ _ rfl rfl (by first | rfl | omega) (by first | (first | omega | assumption | (exact Hid.out (by assumption)) | (simp only [List.length_append, List.length_cons, List.length_nil]; omega)) | decide) Tryd.underlying31 kR gw ?_) | ((with_reducible refine iO _ (.slice 32 _ _ _ _) ?_); refine step_cutL 32 25 1 _ _ _ _ _ _ _ _ rfl rfl (by first | rfl | omega) (by first | (first | omega | assumption | (exact Hid.out (by assumption)) | (simp only [List.length_append, List.length_cons, List.length_nil]; omega)) | decide) Tryd.underlying32 kR gw ?_) | fail)
            go_roundw
            case rel => exact ⟨k + 1, A, P, KS, LQ, gv, by omega, by have := HAK.out; omega, by go_num, HC.out, HP.out, S.sub (by repeat (first | exact Sub.nil _ | refine Sub.cons pk ?_))⟩
            case measure => simp [intOf]; omega
        | true =>
          obtain rfl : E = 0 := HE2.out.2 hv
          have hvv := of_decide_eq_true (HVD.out.symm.trans hv)
          have i2 : ¬ (4611686018427387904 : Int) < (n.tick.toNat : Int) := by omega
          have i3 : ¬ (6 : Int) < (n.kind.toNat : Int) := by omega
          have i4 : ¬ (64 : Int) < (n.b.length : Int) := by omega
          have hC2 := HST.out hv
          have hl0 := HLK.out.2 hv
          have p2 := fun v w h1 h2 => link_s LQ.link n.tick n.kind (ntC n) v n.b w LQ.len h1 h2 HBL.out
          rw [ntC_v, hl0, show lnkR LQ.link n.tick n.kind (ntC n) n.b = lnkD LQ.link n.tick n.kind (ntC n) n.b from if_pos hl0, ← HLKR.out] at p2
          have hE00 : apE LQ n.tick n.kind (ntC n) n.b.length = 0 := (chn_E HC.out HA200.out n).2 hv
          obtain ⟨_, hgl, _⟩ := apR_all LQ n.tick n.kind (ntC n) n.b hE00
          rw [← HGX.out, ← HLKR.out] at hgl
          have hC3 : Chn (A ++ [ntR LQ n]) (P ++ [(.slice ah n.b.length ch, n.b)]) ((KS ++ [(⟨(ntR LQ n).link, (ntR LQ n).len⟩ : Ky)]).map Ky.d) GX := by
            rw [List.map_append, HGX.out]
            exact hC2
          have p3 := fun v w h => checkLog_s GX v w h
          rw [show lgE GX = 0 from if_pos hC3.v] at p3
          have hx0 : (ntR LQ n).tick = n.tick := rfl
          have hx1 : (ntR LQ n).kind = n.kind := rfl
          have hx2 : (ntR LQ n).code.v = (n.code.toNat : Int) := rfl
          obtain ⟨x, hx⟩ : ∃ x, x = ntR LQ n := ⟨_, rfl⟩
          rw [← hx] at p2 hgl hC3 hx0 hx1 hx2
          obtain ⟨D, hD⟩ : ∃ D, D = x.link := ⟨_, rfl⟩
          have hDl : D.length = 32 := by rw [hD]; exact x.len
          obtain ⟨Kn, hKn⟩ : ∃ q : Ky, q = ⟨x.link, x.len⟩ := ⟨_, rfl⟩
          have hKd : Kn.d = D := by rw [hKn, hD]
          rw [← hKn] at hC3
          rw [← hD] at p2 hgl
          have hx3 : x.link = D := hD.symm
          have he := fun w' => neq32 D D hDl hDl w'
          rw [decide_eq_false (fun h => h rfl)] at he
          have eg : Tryd.prog.eqGuardType Tryd.prog.depth 22 = false := by kernel_rfl
          have qg : ∀ v, (((lgL GX v).toArray.toList.drop 1).take 32).toArray = arr8 D := fun v => by rw [lgL_link, hgl]
          have hAl := HA200.out
          have hnp := HC.out.np
          have hnk := HC.out.nk
          rw [List.length_map] at hnk
          have hle1 : (A.length + [x].length) * 56 ≤ 140737488355328 := by simp only [List.length_cons, List.length_nil]; omega
          have hle2 : (P.length + [(Value.slice ah n.b.length ch)].length) * 24 ≤ 140737488355328 := by simp only [List.length_cons, List.length_nil]; omega
          have hle3 : (KS.length + [Kn].length) * 32 ≤ 140737488355328 := by simp only [List.length_cons, List.length_nil]; omega
          have hP2 : ∀ p ∈ P ++ [(Value.slice ah n.b.length ch, n.b)], Bs w0 p.1 p.2 := fun p hp => by
            rcases List.mem_append.1 hp with hp | hp
            · exact HP.out p hp
            · rw [List.mem_singleton.1 hp]; exact HBN.out
          have hrf : ∀ v, rowF v (P ++ [(Value.slice ah n.b.length ch, n.b)]) = row v 25 1 (P.length + [(Value.slice ah n.b.length ch)].length) (P.map (·.1) ++ [(Value.slice ah n.b.length ch)]) := fun v => by simp [rowF]
          have hA1 : (A ++ [x]).length ≤ k + 1 := by rw [List.length_append, List.length_singleton]; have := HAK.out; omega
          have P2 := Lib.hid p2; have P3 := Lib.hid p3; have HC3 := Lib.hid hC3; have HX0 := Lib.hid hx0; have HX1 := Lib.hid hx1; have HX2 := Lib.hid hx2; have HX3 := Lib.hid hx3; have HDL := Lib.hid hDl; have QG := Lib.hid qg; have HLE1 := Lib.hid hle1; have HLE2 := Lib.hid hle2; have HLE3 := Lib.hid hle3; have HP2 := Lib.hid hP2; have HRF := Lib.hid hrf; have HA1 := Lib.hid hA1; have HKD := Lib.hid hKd; clear p2 p3 hC3 hx0 hx1 hx2 hx3 hDl qg hle1 hle2 hle3 hP2 hrf hA1 hKd
          clear hv hvv hC2 hl0 hE00 hgl hx hD hKn hAl hnp hnk HST HLK HVD HE2
          go_upto_region 15 with (first | ((with_reducible refine iD 6 (.alloc 40) ?_); refine step_alloc (dst := some 6) S 40 (.agg ((lgL lgZ (.slice none 0 0)).toArray)) ((lgL lgZ (.slice none 0 0)).toArray) kR rfl gw ?_; clear S; intro g6 w S) | ((with_reducible refine iO none (.store 40 (.tmp 6) (.tmp 25)) ?_); refine step_store S 40 (.tmp 6) (.tmp 25) _ _ rfl rfl _ _ pk 34 kR lN lN on1 gw ?_; clear S; intro w S) | ((with_reducible refine iO _ (.load 40 _) ?_); first | (refine step_load S 40 _ _ rfl _ _ _ pk _ Tryd.underlying40 rfl 34 kR lN gw ?_) | (refine step_loadO 40 _ _ rfl _ _ _ (S.old_heap (Hid.out (by assumption))) _ Tryd.underlying40 rfl 34 kR lN gw ?_) | (refine step_loadR 40 _ _ _ rfl _ (S.old_range hy) _ Tryd.underlying40 rfl 34 kR lN _ rfl gw ?_)) | ((with_reducible refine iO _ (.load 23 _) ?_); refine step_load1 23 _ _ _ rfl (cL) _ Tryd.underlying23 rfl gw ?_) | ((with_reducible refine iO _ (.load 5 _) ?_); refine step_load1 5 _ _ _ rfl (cL) _ Tryd.underlying5 rfl gw ?_) | ((with_reducible refine iO _ (.load 80 _) ?_); refine step_load1 80 _ _ _ rfl (cL) _ Tryd.underlying80 rfl gw ?_) | ((with_reducible refine iO _ (.load 25 _) ?_); refine step_load1 25 _ _ _ rfl (cL) _ Tryd.underlying25 rfl gw ?_) | ((with_reducible refine iD 11 (.alloc 40) ?_); refine step_alloc (dst := some 11) S 40 (.agg ((lgL lgZ (.slice none 0 0)).toArray)) ((lgL lgZ (.slice none 0 0)).toArray) kR rfl gw ?_; clear S; intro g11 w S) | ((with_reducible refine iO none (.store 40 (.tmp 11) (.tmp 58)) ?_); refine step_store S 40 (.tmp 11) (.tmp 58) _ _ rfl rfl _ _ pk 34 kR lN lN on1 gw ?_; clear S; intro w S) | ((with_reducible refine iO _ (.load 22 _) ?_); first | (refine step_loadR 22 _ _ _ rfl _ (S.old_range hy) _ Tryd.underlying22 rfl 32 kR lN _ rfl gw ?_) | (refine step_loadP S 22 _ _ _ rfl _ _ _ pk 32 _ pT lN _ Tryd.underlying22 rfl kR gw ?_)) | ((with_reducible refine iD 13 (.alloc 22) ?_); refine step_alloc (dst := some 13) S 22 (.agg (arr8 (List.replicate 32 0))) (arr8 (List.replicate 32 0)) kR rfl gw ?_; clear S; intro g13 w S) | ((with_reducible refine iO none (.store 22 (.tmp 13) (.tmp 110)) ?_); refine step_store S 22 (.tmp 13) (.tmp 110) _ _ rfl rfl _ _ pk 32 kR lN lN on1 gw ?_; clear S; intro w S) | ((with_reducible refine iO _ (.load 22 _) ?_); first | (refine step_load S 22 _ _ rfl _ _ _ pk _ Tryd.underlying22 rfl 32 kR lN gw ?_) | (refine step_loadO 22 _ _ rfl _ _ _ (S.old_heap (Hid.out (by assumption))) _ Tryd.underlying22 rfl 32 kR lN gw ?_) | (refine step_loadR 22 _ _ _ rfl _ (S.old_range hy) _ Tryd.underlying22 rfl 32 kR lN _ rfl gw ?_)) | ((with_reducible refine iO none (.store 40 (.tmp 6) (.tmp 162)) ?_); refine step_store S 40 (.tmp 6) (.tmp 162) _ _ rfl rfl _ _ pk 34 kR lN lN on1 gw ?_; clear S; intro w S) | ((with_reducible refine iO _ (.load 38 _) ?_); refine step_load1 38 _ _ _ rfl (cL) _ Tryd.underlying38 rfl gw ?_) | ((with_reducible refine iO _ (.load 31 _) ?_); refine step_load1 31 _ _ _ rfl (cL) _ Tryd.underlying31 rfl gw ?_) | ((with_reducible refine iO _ (.slice 31 _ _ _ _) ?_); refine step_cutL 31 50 35 _ _ _ _ _ _ _ _ rfl rfl (by first | rfl | omega) (by first | (first | omega | assumption | (exact Hid.out (by assumption)) | (simp only [List.length_append, List.length_cons, List.length_nil]; omega)) | decide) Tryd.underlying31 kR gw ?_) | ((with_reducible refine iO _ (.slice 32 _ _ _ _) ?_); refine step_cutL 32 25 1 _ _ _ _ _ _ _ _ rfl rfl (by first | rfl | omega) (by first | (first | omega | assumption | (exact Hid.out (by assumption)) | (simp only [List.length_append, List.length_cons, List.length_nil]; omega)) | decide) Tryd.underlying32 kR gw ?_) | fail)
          refine wp_rely S [⟨[], [], [], fun _ v => v = .pointer (some ⟨g6, 1, none⟩), fun _ v => []⟩, ⟨[0], [], [], fun _ v => v = .agg (arr8 LQ.link), fun _ v => []⟩, ⟨[], [], [], fun _ v => v = (.slice (some ⟨b, off, none⟩) N c0), fun _ v => []⟩, ⟨[], [], [], fun _ v => v = (.int .i64 (k : Int)), fun _ v => []⟩, ⟨[2, 3], [], [], fun _ v => v = .pointer (some ⟨b, off + k * 4, none⟩), fun _ v => []⟩, ⟨[2, 3, 4], [], [], fun _ v => v = .pointer (some ⟨b, off + k * 4, none⟩), fun _ v => []⟩, ⟨[2, 3, 4, 5], [], [], fun _ v => v = .int .u64 (n.tick.toNat : Int), fun _ v => []⟩, ⟨[], [], [], fun _ v => v = (.slice (some ⟨b, off, none⟩) N c0), fun _ v => []⟩, ⟨[], [], [], fun _ v => v = (.int .i64 (k : Int)), fun _ v => []⟩, ⟨[7, 8], [], [], fun _ v => v = .pointer (some ⟨b, off + k * 4, none⟩), fun _ v => []⟩, ⟨[7, 8, 9], [], [], fun _ v => v = .pointer (some ⟨b, off + k * 4 + 1, none⟩), fun _ v => []⟩, ⟨[7, 8, 9, 10], [], [], fun _ v => v = .int .u8 (n.kind.toNat : Int), fun _ v => []⟩, ⟨[], [], [], fun _ v => v = (.slice (some ⟨b, off, none⟩) N c0), fun _ v => []⟩, ⟨[], [], [], fun _ v => v = (.int .i64 (k : Int)), fun _ v => []⟩, ⟨[12, 13], [], [], fun _ v => v = .pointer (some ⟨b, off + k * 4, none⟩), fun _ v => []⟩, ⟨[12, 13, 14], [], [], fun _ v => v = .pointer (some ⟨b, off + k * 4 + 2, none⟩), fun _ v => []⟩, ⟨[12, 13, 14, 15], [], [], fun _ v => v = .int .u16 (n.code.toNat : Int), fun _ v => []⟩, ⟨[12, 13, 14, 15, 16], [], [], fun _ v => v = .int .i64 (n.code.toNat : Int), fun _ v => []⟩, ⟨[], [], [], fun _ v => v = (.slice (some ⟨b, off, none⟩) N c0), fun _ v => []⟩, ⟨[], [], [], fun _ v => v = (.int .i64 (k : Int)), fun _ v => []⟩, ⟨[18, 19], [], [], fun _ v => v = .pointer (some ⟨b, off + k * 4, none⟩), fun _ v => []⟩, ⟨[18, 19, 20], [], [], fun _ v => v = .pointer (some ⟨b, off + k * 4 + 3, none⟩), fun _ v => []⟩, ⟨[18, 19, 20, 21], [], [], fun _ v => v = .slice ah n.b.length ch, fun _ v => []⟩, ⟨[0, 1, 2, 3, 4, 5, 6, 7, 8, 9, 10, 11, 12, 13, 14, 15, 16, 17, 18, 19, 20, 21, 22], [], [], fun _ v => v = .tuple #[.agg (arr8 D), .int .i64 0], fun _ v => []⟩, ⟨[0, 1, 2, 3, 4, 5, 6, 7, 8, 9, 10, 11, 12, 13, 14, 15, 16, 17, 18, 19, 20, 21, 22, 23], [], [], fun _ v => v = (.tuple #[.agg (arr8 D), .int .i64 0]), fun _ v => []⟩, ⟨[0, 1, 2, 3, 4, 5, 6, 7, 8, 9, 10, 11, 12, 13, 14, 15, 16, 17, 18, 19, 20, 21, 22, 23, 24], [], [], fun _ v => v = .agg (arr8 D), fun _ v => []⟩, ⟨[0, 1, 2, 3, 4, 5, 6, 7, 8, 9, 10, 11, 12, 13, 14, 15, 16, 17, 18, 19, 20, 21, 22, 23, 24], [], [], fun _ v => v = .int .i64 0, fun _ v => []⟩, ⟨[], [], [], fun _ v => ∃ g, v = .pointer (some ⟨g, 0, none⟩), fun _ v => [blk (ptrBlk v) (.cells (arr8 (List.replicate 32 0)) 22 (0, 0))]⟩, ⟨[0, 1, 2, 3, 4, 5, 6, 7, 8, 9, 10, 11, 12, 13, 14, 15, 16, 17, 18, 19, 20, 21, 22, 23, 24, 25, 27], [27], [], fun _ v => True, fun d v => [blk (ptrBlk (d 27)) (.cells ((arr8 D)) 22 (0, 0))]⟩, ⟨[0, 1, 2, 3, 4, 5, 6, 7, 8, 9, 10, 11, 12, 13, 14, 15, 16, 17, 18, 19, 20, 21, 22, 23, 24, 25, 26, 27, 28], [], [], fun _ v => v = (.int .i64 0), fun _ v => []⟩] ?A2 ?hA2 kR kR kR [0, 1, 2, 3, 4, 5, 6, 7, 8, 9, 10, 11, 12, 13, 14, 15, 16, 17, 18, 19, 20, 21, 22, 23, 24, 25, 26, 28, 29] kR ?hok2 ?fin2
          case hA2 => intro u; simp only [putAll, List.length_cons, List.length_nil, Nat.zero_add, Nat.reduceAdd, dstAt, List.getElem?_toArray, List.getElem?_cons_zero, List.getElem?_cons_succ, Option.bind_some, Act.put, List.setIfInBounds_toArray, List.set_cons_zero, List.set_cons_succ]; rfl
          case hok2 =>
            intro i hi
            obtain rfl | rfl | rfl | rfl | rfl | rfl | rfl | rfl | rfl | rfl | rfl | rfl | rfl | rfl | rfl | rfl | rfl | rfl | rfl | rfl | rfl | rfl | rfl | rfl | rfl | rfl | rfl | rfl | rfl | rfl : i = 0 ∨ i = 1 ∨ i = 2 ∨ i = 3 ∨ i = 4 ∨ i = 5 ∨ i = 6 ∨ i = 7 ∨ i = 8 ∨ i = 9 ∨ i = 10 ∨ i = 11 ∨ i = 12 ∨ i = 13 ∨ i = 14 ∨ i = 15 ∨ i = 16 ∨ i = 17 ∨ i = 18 ∨ i = 19 ∨ i = 20 ∨ i = 21 ∨ i = 22 ∨ i = 23 ∨ i = 24 ∨ i = 25 ∨ i = 26 ∨ i = 27 ∨ i = 28 ∨ i = 29 := by simp only [List.length_cons, List.length_nil, Nat.zero_add, Nat.reduceAdd] at hi; omega
            · clear hi
              refine step_of rfl rfl rfl ?_
              intro u G w hf S
              simp only [resOf, spec, RSpec.resAt, z0, z1, z2, z3, z4, z5, z6, z7, ptrBlk] at S ⊢
              simp only [does]
              go_simp
              try first | exact S | exact ⟨vv, S⟩ | exact vv
            · clear hi
              refine step_of rfl rfl rfl ?_
              intro u G w hf S
              have f0 : u 0 = .pointer (some ⟨g6, 1, none⟩) := hf 0 (by simp)
              simp only [resOf, spec, RSpec.resAt, z0, z1, z2, z3, z4, z5, z6, z7, ptrBlk] at S ⊢
              simp only [f0]
              refine does_loadP S 22 (.tmp 86) _ _ rfl _ _ _ pk 32 _ pT lN _ Tryd.underlying22 rfl kR ?_; exact ⟨rfl, S⟩
            · clear hi
              refine step_of rfl rfl rfl ?_
              intro u G w hf S
              simp only [resOf, spec, RSpec.resAt, z0, z1, z2, z3, z4, z5, z6, z7, ptrBlk] at S ⊢
              simp only [does]
              go_simp
              try first | exact S | exact ⟨vv, S⟩ | exact vv
            · clear hi
              refine step_of rfl rfl rfl ?_
              intro u G w hf S
              simp only [resOf, spec, RSpec.resAt, z0, z1, z2, z3, z4, z5, z6, z7, ptrBlk] at S ⊢
              simp only [does]
              go_simp
              try first | exact S | exact ⟨vv, S⟩ | exact vv
            · clear hi
              refine step_of rfl rfl rfl ?_
              intro u G w hf S
              have f2 : u 2 = (.slice (some ⟨b, off, none⟩) N c0) := hf 2 (by simp)
              have f3 : u 3 = (.int .i64 (k : Int)) := hf 3 (by simp)
              simp only [resOf, spec, RSpec.resAt, z0, z1, z2, z3, z4, z5, z6, z7, ptrBlk] at S ⊢
              simp only [f2, f3]
              simp only [does]
              go_simp
              try first | exact S | exact ⟨vv, S⟩ | exact vv
            · clear hi
              refine step_of rfl rfl rfl ?_
              intro u G w hf S
              have f4 : u 4 = .pointer (some ⟨b, off + k * 4, none⟩) := hf 4 (by simp)
              simp only [resOf, spec, RSpec.resAt, z0, z1, z2, z3, z4, z5, z6, z7, ptrBlk] at S ⊢
              simp only [f4]
              simp only [does]
              go_simp
              try first | exact S | exact ⟨vv, S⟩ | exact vv
            · clear hi
              refine step_of rfl rfl rfl ?_
              intro u G w hf S
              have f5 : u 5 = .pointer (some ⟨b, off + k * 4, none⟩) := hf 5 (by simp)
              simp only [resOf, spec, RSpec.resAt, z0, z1, z2, z3, z4, z5, z6, z7, ptrBlk] at S ⊢
              simp only [f5]
              refine does_load1 23 (.tmp 91) _ _ rfl (S.old_cell hy) _ Tryd.underlying23 rfl ?_; exact ⟨rfl, S⟩
            · clear hi
              refine step_of rfl rfl rfl ?_
              intro u G w hf S
              simp only [resOf, spec, RSpec.resAt, z0, z1, z2, z3, z4, z5, z6, z7, ptrBlk] at S ⊢
              simp only [does]
              go_simp
              try first | exact S | exact ⟨vv, S⟩ | exact vv
            · clear hi
              refine step_of rfl rfl rfl ?_
              intro u G w hf S
              simp only [resOf, spec, RSpec.resAt, z0, z1, z2, z3, z4, z5, z6, z7, ptrBlk] at S ⊢
              simp only [does]
              go_simp
              try first | exact S | exact ⟨vv, S⟩ | exact vv
            · clear hi
              refine step_of rfl rfl rfl ?_
              intro u G w hf S
              have f7 : u 7 = (.slice (some ⟨b, off, none⟩) N c0) := hf 7 (by simp)
              have f8 : u 8 = (.int .i64 (k : Int)) := hf 8 (by simp)
              simp only [resOf, spec, RSpec.resAt, z0, z1, z2, z3, z4, z5, z6, z7, ptrBlk] at S ⊢
              simp only [f7, f8]
              simp only [does]
              go_simp
              try first | exact S | exact ⟨vv, S⟩ | exact vv
            · clear hi
              refine step_of rfl rfl rfl ?_
              intro u G w hf S
              have f9 : u 9 = .pointer (some ⟨b, off + k * 4, none⟩) := hf 9 (by simp)
              simp only [resOf, spec, RSpec.resAt, z0, z1, z2, z3, z4, z5, z6, z7, ptrBlk] at S ⊢
              simp only [f9]
              simp only [does]
              go_simp
              try first | exact S | exact ⟨vv, S⟩ | exact vv
            · clear hi
              refine step_of rfl rfl rfl ?_
              intro u G w hf S
              have f10 : u 10 = .pointer (some ⟨b, off + k * 4 + 1, none⟩) := hf 10 (by simp)
              simp only [resOf, spec, RSpec.resAt, z0, z1, z2, z3, z4, z5, z6, z7, ptrBlk] at S ⊢
              simp only [f10]
              refine does_load1 5 (.tmp 96) _ _ rfl (S.old_cell hy) _ Tryd.underlying5 rfl ?_; exact ⟨rfl, S⟩
            · clear hi
              refine step_of rfl rfl rfl ?_
              intro u G w hf S
              simp only [resOf, spec, RSpec.resAt, z0, z1, z2, z3, z4, z5, z6, z7, ptrBlk] at S ⊢
              simp only [does]
              go_simp
              try first | exact S | exact ⟨vv, S⟩ | exact vv
            · clear hi
              refine step_of rfl rfl rfl ?_
              intro u G w hf S
              simp only [resOf, spec, RSpec.resAt, z0, z1, z2, z3, z4, z5, z6, z7, ptrBlk] at S ⊢
              simp only [does]
              go_simp
              try first | exact S | exact ⟨vv, S⟩ | exact vv
            · clear hi
              refine step_of rfl rfl rfl ?_
              intro u G w hf S
              have f12 : u 12 = (.slice (some ⟨b, off, none⟩) N c0) := hf 12 (by simp)
              have f13 : u 13 = (.int .i64 (k : Int)) := hf 13 (by simp)
              simp only [resOf, spec, RSpec.resAt, z0, z1, z2, z3, z4, z5, z6, z7, ptrBlk] at S ⊢
              simp only [f12, f13]
              simp only [does]
              go_simp
              try first | exact S | exact ⟨vv, S⟩ | exact vv
            · clear hi
              refine step_of rfl rfl rfl ?_
              intro u G w hf S
              have f14 : u 14 = .pointer (some ⟨b, off + k * 4, none⟩) := hf 14 (by simp)
              simp only [resOf, spec, RSpec.resAt, z0, z1, z2, z3, z4, z5, z6, z7, ptrBlk] at S ⊢
              simp only [f14]
              simp only [does]
              go_simp
              try first | exact S | exact ⟨vv, S⟩ | exact vv
            · clear hi
              refine step_of rfl rfl rfl ?_
              intro u G w hf S
              have f15 : u 15 = .pointer (some ⟨b, off + k * 4 + 2, none⟩) := hf 15 (by simp)
              simp only [resOf, spec, RSpec.resAt, z0, z1, z2, z3, z4, z5, z6, z7, ptrBlk] at S ⊢
              simp only [f15]
              refine does_load1 80 (.tmp 101) _ _ rfl (S.old_cell hy) _ Tryd.underlying80 rfl ?_; exact ⟨rfl, S⟩
            · clear hi
              refine step_of rfl rfl rfl ?_
              intro u G w hf S
              have f16 : u 16 = .int .u16 (n.code.toNat : Int) := hf 16 (by simp)
              simp only [resOf, spec, RSpec.resAt, z0, z1, z2, z3, z4, z5, z6, z7, ptrBlk] at S ⊢
              simp only [f16]
              simp only [does]
              go_simp
              try first | exact S | exact ⟨vv, S⟩ | exact vv
            · clear hi
              refine step_of rfl rfl rfl ?_
              intro u G w hf S
              simp only [resOf, spec, RSpec.resAt, z0, z1, z2, z3, z4, z5, z6, z7, ptrBlk] at S ⊢
              simp only [does]
              go_simp
              try first | exact S | exact ⟨vv, S⟩ | exact vv
            · clear hi
              refine step_of rfl rfl rfl ?_
              intro u G w hf S
              simp only [resOf, spec, RSpec.resAt, z0, z1, z2, z3, z4, z5, z6, z7, ptrBlk] at S ⊢
              simp only [does]
              go_simp
              try first | exact S | exact ⟨vv, S⟩ | exact vv
            · clear hi
              refine step_of rfl rfl rfl ?_
              intro u G w hf S
              have f18 : u 18 = (.slice (some ⟨b, off, none⟩) N c0) := hf 18 (by simp)
              have f19 : u 19 = (.int .i64 (k : Int)) := hf 19 (by simp)
              simp only [resOf, spec, RSpec.resAt, z0, z1, z2, z3, z4, z5, z6, z7, ptrBlk] at S ⊢
              simp only [f18, f19]
              simp only [does]
              go_simp
              try first | exact S | exact ⟨vv, S⟩ | exact vv
            · clear hi
              refine step_of rfl rfl rfl ?_
              intro u G w hf S
              have f20 : u 20 = .pointer (some ⟨b, off + k * 4, none⟩) := hf 20 (by simp)
              simp only [resOf, spec, RSpec.resAt, z0, z1, z2, z3, z4, z5, z6, z7, ptrBlk] at S ⊢
              simp only [f20]
              simp only [does]
              go_simp
              try first | exact S | exact ⟨vv, S⟩ | exact vv
            · clear hi
              refine step_of rfl rfl rfl ?_
              intro u G w hf S
              have f21 : u 21 = .pointer (some ⟨b, off + k * 4 + 3, none⟩) := hf 21 (by simp)
              simp only [resOf, spec, RSpec.resAt, z0, z1, z2, z3, z4, z5, z6, z7, ptrBlk] at S ⊢
              simp only [f21]
              refine does_load1 25 (.tmp 107) _ _ rfl (S.old_cell hy) _ Tryd.underlying25 rfl ?_; exact ⟨rfl, S⟩
            · clear hi
              refine step_of rfl rfl rfl ?_
              intro u G w hf S
              have f1 : u 1 = .agg (arr8 LQ.link) := hf 1 (by simp)
              have f6 : u 6 = .int .u64 (n.tick.toNat : Int) := hf 6 (by simp)
              have f11 : u 11 = .int .u8 (n.kind.toNat : Int) := hf 11 (by simp)
              have f17 : u 17 = .int .i64 (n.code.toNat : Int) := hf 17 (by simp)
              have f22 : u 22 = .slice ah n.b.length ch := hf 22 (by simp)
              simp only [resOf, spec, RSpec.resAt, z0, z1, z2, z3, z4, z5, z6, z7, ptrBlk] at S ⊢
              simp only [f1, f6, f11, f17, f22]
              refine does_fn (args := [(.agg (arr8 LQ.link)), (.int .u64 (n.tick.toNat : Int)), (.int .u8 (n.kind.toNat : Int)), (.int .i64 (n.code.toNat : Int)), (.slice ah n.b.length ch)]) Tryd.func16 kR kR (P2.out _ w (S.oldB HBN.out) kT) rfl ?_
              rintro e w1 ⟨rfl, T⟩
              exact ⟨_, rfl, rfl, S.call T⟩
            · clear hi
              refine step_of rfl rfl rfl ?_
              intro u G w hf S
              have f23 : u 23 = .tuple #[.agg (arr8 D), .int .i64 0] := hf 23 (by simp)
              simp only [resOf, spec, RSpec.resAt, z0, z1, z2, z3, z4, z5, z6, z7, ptrBlk] at S ⊢
              simp only [f23]
              simp only [does]
              go_simp
              try first | exact S | exact ⟨vv, S⟩ | exact vv
            · clear hi
              refine step_of rfl rfl rfl ?_
              intro u G w hf S
              have f24 : u 24 = (.tuple #[.agg (arr8 D), .int .i64 0]) := hf 24 (by simp)
              simp only [resOf, spec, RSpec.resAt, z0, z1, z2, z3, z4, z5, z6, z7, ptrBlk] at S ⊢
              simp only [f24]
              simp only [does]
              go_simp
              try first | exact S | exact ⟨vv, S⟩ | exact vv
            · clear hi
              refine step_of rfl rfl rfl ?_
              intro u G w hf S
              have f24 : u 24 = (.tuple #[.agg (arr8 D), .int .i64 0]) := hf 24 (by simp)
              simp only [resOf, spec, RSpec.resAt, z0, z1, z2, z3, z4, z5, z6, z7, ptrBlk] at S ⊢
              simp only [f24]
              simp only [does]
              go_simp
              try first | exact S | exact ⟨vv, S⟩ | exact vv
            · clear hi
              refine step_of rfl rfl rfl ?_
              intro u G w hf S
              simp only [resOf, spec, RSpec.resAt, z0, z1, z2, z3, z4, z5, z6, z7, ptrBlk] at S ⊢
              refine does_alloc S 22 (.agg (arr8 (List.replicate 32 0))) (arr8 (List.replicate 32 0)) kR rfl ?_; intro g w1 S; exact ⟨⟨g, rfl⟩, S⟩
            · clear hi
              refine step_of rfl rfl rfl ?_
              intro u G w hf S
              have f25 : u 25 = .agg (arr8 D) := hf 25 (by simp)
              have f27 : ∃ g, u 27 = .pointer (some ⟨g, 0, none⟩) := hf 27 (by simp)
              obtain ⟨g13, f27⟩ := f27
              have m27 : mask [0, 1, 2, 3, 4, 5, 6, 7, 8, 9, 10, 11, 12, 13, 14, 15, 16, 17, 18, 19, 20, 21, 22, 23, 24, 25, 27] u 27 = u 27 := rfl
              simp only [resOf, spec, RSpec.resAt, List.getD_cons_zero, List.getD_cons_succ, List.flatMap_cons, List.flatMap_nil, List.nil_append, List.cons_append, List.append_nil, List.append_assoc, m27, ptrBlk] at S ⊢
              simp only [m27, f25, f27] at S ⊢
              try simp only [ptrBlk] at S
              refine does_store S 22 (.tmp 13) (.tmp 110) _ rfl rfl 32 kR lN lN on1 ?_; intro w1 S; exact ⟨trivial, S⟩
            · clear hi
              refine step_of rfl rfl rfl ?_
              intro u G w hf S
              have f26 : u 26 = .int .i64 0 := hf 26 (by simp)
              have f27 : ∃ g, u 27 = .pointer (some ⟨g, 0, none⟩) := hf 27 (by simp)
              obtain ⟨g13, f27⟩ := f27
              simp only [resOf, spec, RSpec.resAt, z0, z1, z2, z3, z4, z5, z6, z7, ptrBlk] at S ⊢
              simp only [f26, f27]
              simp only [does]
              go_simp
              try first | exact S | exact ⟨vv, S⟩ | exact vv
          case fin2 =>
            intro u w hf S
            have f0 : u 0 = .pointer (some ⟨g6, 1, none⟩) := hf 0 (by simp)
            have f1 : u 1 = .agg (arr8 LQ.link) := hf 1 (by simp)
            have f2 : u 2 = (.slice (some ⟨b, off, none⟩) N c0) := hf 2 (by simp)
            have f3 : u 3 = (.int .i64 (k : Int)) := hf 3 (by simp)
            have f4 : u 4 = .pointer (some ⟨b, off + k * 4, none⟩) := hf 4 (by simp)
            have f5 : u 5 = .pointer (some ⟨b, off + k * 4, none⟩) := hf 5 (by simp)
            have f6 : u 6 = .int .u64 (n.tick.toNat : Int) := hf 6 (by simp)
            have f7 : u 7 = (.slice (some ⟨b, off, none⟩) N c0) := hf 7 (by simp)
            have f8 : u 8 = (.int .i64 (k : Int)) := hf 8 (by simp)
            have f9 : u 9 = .pointer (some ⟨b, off + k * 4, none⟩) := hf 9 (by simp)
            have f10 : u 10 = .pointer (some ⟨b, off + k * 4 + 1, none⟩) := hf 10 (by simp)
            have f11 : u 11 = .int .u8 (n.kind.toNat : Int) := hf 11 (by simp)
            have f12 : u 12 = (.slice (some ⟨b, off, none⟩) N c0) := hf 12 (by simp)
            have f13 : u 13 = (.int .i64 (k : Int)) := hf 13 (by simp)
            have f14 : u 14 = .pointer (some ⟨b, off + k * 4, none⟩) := hf 14 (by simp)
            have f15 : u 15 = .pointer (some ⟨b, off + k * 4 + 2, none⟩) := hf 15 (by simp)
            have f16 : u 16 = .int .u16 (n.code.toNat : Int) := hf 16 (by simp)
            have f17 : u 17 = .int .i64 (n.code.toNat : Int) := hf 17 (by simp)
            have f18 : u 18 = (.slice (some ⟨b, off, none⟩) N c0) := hf 18 (by simp)
            have f19 : u 19 = (.int .i64 (k : Int)) := hf 19 (by simp)
            have f20 : u 20 = .pointer (some ⟨b, off + k * 4, none⟩) := hf 20 (by simp)
            have f21 : u 21 = .pointer (some ⟨b, off + k * 4 + 3, none⟩) := hf 21 (by simp)
            have f22 : u 22 = .slice ah n.b.length ch := hf 22 (by simp)
            have f23 : u 23 = .tuple #[.agg (arr8 D), .int .i64 0] := hf 23 (by simp)
            have f24 : u 24 = (.tuple #[.agg (arr8 D), .int .i64 0]) := hf 24 (by simp)
            have f25 : u 25 = .agg (arr8 D) := hf 25 (by simp)
            have f26 : u 26 = .int .i64 0 := hf 26 (by simp)
            have f27 : ∃ g, u 27 = .pointer (some ⟨g, 0, none⟩) := hf 27 (by simp)
            obtain ⟨g13, f27⟩ := f27
            have f29 : u 29 = (.int .i64 0) := hf 29 (by simp)
            have m28_27 : mask [0, 1, 2, 3, 4, 5, 6, 7, 8, 9, 10, 11, 12, 13, 14, 15, 16, 17, 18, 19, 20, 21, 22, 23, 24, 25, 27] u 27 = u 27 := rfl
            simp only [resOf, spec, RSpec.resAt, List.getD_cons_zero, List.getD_cons_succ, List.flatMap_cons, List.flatMap_nil, List.nil_append, List.cons_append, List.append_nil, List.append_assoc, m28_27, ptrBlk] at S
            clear hf
            simp only [List.length_cons, List.length_nil, Nat.zero_add, Nat.reduceAdd, List.drop_succ_cons, List.drop_zero, f0, f1, f2, f3, f4, f5, f6, f7, f8, f9, f10, f11, f12, f13, f14, f15, f16, f17, f18, f19, f20, f21, f22, f23, f24, f25, f26, f27, f29]
            try simp only [f0, f1, f2, f3, f4, f5, f6, f7, f8, f9, f10, f11, f12, f13, f14, f15, f16, f17, f18, f19, f20, f21, f22, f23, f24, f25, f26, f27, f29, ptrBlk] at S
            clear f0 f1 f2 f3 f4 f5 f6 f7 f8 f9 f10 f11 f12 f13 f14 f15 f16 f17 f18 f19 f20 f21 f22 f23 f24 f25 f26 f27 f29 m28_27
            go_upto_region 18 with (first | ((with_reducible refine iD 121 (.load 22 (.tmp 13)) ?_); refine step_load S 22 (.tmp 13) g13 rfl _ (arr8 D) _ pk _ Tryd.underlying22 rfl 32 kR lN gw ?_) | ((with_reducible refine iD 120 (.load 22 (.tmp 119)) ?_); refine step_loadP S 22 (.tmp 119) g11 1 rfl _ (lgL GX y57).toArray _ pk 32 (arr8 D) (QG.out _) lN _ Tryd.underlying22 rfl kR gw ?_) | ((with_reducible refine iD 6 (.alloc 40) ?_); refine step_alloc (dst := some 6) S 40 (.agg ((lgL lgZ (.slice none 0 0)).toArray)) ((lgL lgZ (.slice none 0 0)).toArray) kR rfl gw ?_; clear S; intro g6 w S) | ((with_reducible refine iO none (.store 40 (.tmp 6) (.tmp 25)) ?_); refine step_store S 40 (.tmp 6) (.tmp 25) _ _ rfl rfl _ _ pk 34 kR lN lN on1 gw ?_; clear S; intro w S) | ((with_reducible refine iO _ (.load 40 _) ?_); first | (refine step_load S 40 _ _ rfl _ _ _ pk _ Tryd.underlying40 rfl 34 kR lN gw ?_) | (refine step_loadO 40 _ _ rfl _ _ _ (S.old_heap (Hid.out (by assumption))) _ Tryd.underlying40 rfl 34 kR lN gw ?_) | (refine step_loadR 40 _ _ _ rfl _ (S.old_range hy) _ Tryd.underlying40 rfl 34 kR lN _ rfl gw ?_)) | ((with_reducible refine iO _ (.load 23 _) ?_); refine step_load1 23 _ _ _ rfl (cL) _ Tryd.underlying23 rfl gw ?_) | ((with_reducible refine iO _ (.load 5 _) ?_); refine step_load1 5 _ _ _ rfl (cL) _ Tryd.underlying5 rfl gw ?_) | ((with_reducible refine iO _ (.load 80 _) ?_); refine step_load1 80 _ _ _ rfl (cL) _ Tryd.underlying80 rfl gw ?_) | ((with_reducible refine iO _ (.load 25 _) ?_); refine step_load1 25 _ _ _ rfl (cL) _ Tryd.underlying25 rfl gw ?_) | ((with_reducible refine iD 11 (.alloc 40) ?_); refine step_alloc (dst := some 11) S 40 (.agg ((lgL lgZ (.slice none 0 0)).toArray)) ((lgL lgZ (.slice none 0 0)).toArray) kR rfl gw ?_; clear S; intro g11 w S) | ((with_reducible refine iO none (.store 40 (.tmp 11) (.tmp 58)) ?_); refine step_store S 40 (.tmp 11) (.tmp 58) _ _ rfl rfl _ _ pk 34 kR lN lN on1 gw ?_; clear S; intro w S) | ((with_reducible refine iO _ (.load 22 _) ?_); first | (refine step_loadR 22 _ _ _ rfl _ (S.old_range hy) _ Tryd.underlying22 rfl 32 kR lN _ rfl gw ?_) | (refine step_loadP S 22 _ _ _ rfl _ _ _ pk 32 _ pT lN _ Tryd.underlying22 rfl kR gw ?_)) | ((with_reducible refine iD 13 (.alloc 22) ?_); refine step_alloc (dst := some 13) S 22 (.agg (arr8 (List.replicate 32 0))) (arr8 (List.replicate 32 0)) kR rfl gw ?_; clear S; intro g13 w S) | ((with_reducible refine iO none (.store 22 (.tmp 13) (.tmp 110)) ?_); refine step_store S 22 (.tmp 13) (.tmp 110) _ _ rfl rfl _ _ pk 32 kR lN lN on1 gw ?_; clear S; intro w S) | (go_at_call 23; (with_reducible refine (P3.out _ _ (S.sl (v := y57) (xs := GX.recs.flatMap rcdL) pk)).mono ?_); rintro e w1 ⟨rfl, T⟩; replace S := S.call T; clear T; (try simp only [z4, z5] at S)) | ((with_reducible refine iO _ (.load 22 _) ?_); first | (refine step_load S 22 _ _ rfl _ _ _ pk _ Tryd.underlying22 rfl 32 kR lN gw ?_) | (refine step_loadO 22 _ _ rfl _ _ _ (S.old_heap (Hid.out (by assumption))) _ Tryd.underlying22 rfl 32 kR lN gw ?_) | (refine step_loadR 22 _ _ _ rfl _ (S.old_range hy) _ Tryd.underlying22 rfl 32 kR lN _ rfl gw ?_)) | ((with_reducible refine iO none (.store 40 (.tmp 6) (.tmp 162)) ?_); refine step_store S 40 (.tmp 6) (.tmp 162) _ _ rfl rfl _ _ pk 34 kR lN lN on1 gw ?_; clear S; intro w S) | ((with_reducible refine iO _ (.load 38 _) ?_); refine step_load1 38 _ _ _ rfl (cL) _ Tryd.underlying38 rfl gw ?_) | ((with_reducible refine iO _ (.load 31 _) ?_); refine step_load1 31 _ _ _ rfl (cL) _ Tryd.underlying31 rfl gw ?_) | ((with_reducible refine iO _ (.slice 31 _ _ _ _) ?_); refine step_cutL 31 50 35 _ _ _ _ _ _ _ _ rfl rfl (by first | rfl | omega) (by first | (first | omega | assumption | (exact Hid.out (by assumption)) | (simp only [List.length_append, List.length_cons, List.length_nil]; omega)) | decide) Tryd.underlying31 kR gw ?_) | ((with_reducible refine iO _ (.slice 32 _ _ _ _) ?_); refine step_cutL 32 25 1 _ _ _ _ _ _ _ _ rfl rfl (by first | rfl | omega) (by first | (first | omega | assumption | (exact Hid.out (by assumption)) | (simp only [List.length_append, List.length_cons, List.length_nil]; omega)) | decide) Tryd.underlying32 kR gw ?_) | fail)
            clear he eg
            refine wp_relyW (e1 := noRes) 20 (S.pick (r := rowRc u7 A) pk) [⟨[], [], [], fun _ v => v = (u7), fun _ v => []⟩, ⟨[], [], [], fun _ v => v = (.slice (some ⟨b, off, none⟩) N c0), fun _ v => []⟩, ⟨[], [], [], fun _ v => v = (.int .i64 (k : Int)), fun _ v => []⟩, ⟨[1, 2], [], [], fun _ v => v = .pointer (some ⟨b, off + k * 4, none⟩), fun _ v => []⟩, ⟨[1, 2, 3], [], [], fun _ v => v = .pointer (some ⟨b, off + k * 4, none⟩), fun _ v => []⟩, ⟨[1, 2, 3, 4], [], [], fun _ v => v = .int .u64 (n.tick.toNat : Int), fun _ v => []⟩, ⟨[], [], [], fun _ v => v = (.slice (some ⟨b, off, none⟩) N c0), fun _ v => []⟩, ⟨[], [], [], fun _ v => v = (.int .i64 (k : Int)), fun _ v => []⟩, ⟨[6, 7], [], [], fun _ v => v = .pointer (some ⟨b, off + k * 4, none⟩), fun _ v => []⟩, ⟨[6, 7, 8], [], [], fun _ v => v = .pointer (some ⟨b, off + k * 4 + 1, none⟩), fun _ v => []⟩, ⟨[6, 7, 8, 9], [], [], fun _ v => v = .int .u8 (n.kind.toNat : Int), fun _ v => []⟩, ⟨[], [], [], fun _ v => v = (.slice (some ⟨b, off, none⟩) N c0), fun _ v => []⟩, ⟨[], [], [], fun _ v => v = (.int .i64 (k : Int)), fun _ v => []⟩, ⟨[11, 12], [], [], fun _ v => v = .pointer (some ⟨b, off + k * 4, none⟩), fun _ v => []⟩, ⟨[11, 12, 13], [], [], fun _ v => v = .pointer (some ⟨b, off + k * 4 + 2, none⟩), fun _ v => []⟩, ⟨[11, 12, 13, 14], [], [], fun _ v => v = .int .u16 (n.code.toNat : Int), fun _ v => []⟩, ⟨[11, 12, 13, 14, 15], [], [], fun _ v => v = .int .i64 (n.code.toNat : Int), fun _ v => []⟩, ⟨[], [], [], fun _ v => v = .agg (arr8 D), fun _ v => []⟩, ⟨[1, 2, 3, 4, 5, 6, 7, 8, 9, 10, 11, 12, 13, 14, 15, 16, 17], [], [], fun _ v => v = .agg (rcdL x).toArray, fun _ v => []⟩, ⟨[1, 2, 3, 4, 5, 6, 7, 8, 9, 10, 11, 12, 13, 14, 15, 16, 17, 18], [], [], fun _ v => ∃ y, v = y, fun _ v => [rowRc v [x]]⟩, ⟨[0, 1, 2, 3, 4, 5, 6, 7, 8, 9, 10, 11, 12, 13, 14, 15, 16, 17, 18, 19], [19], [], fun _ v => ∃ y, v = y, fun _ v => [rowRc v (A ++ [x])]⟩] ?A3 ?hA3 kR kR kR [0, 1, 2, 3, 4, 5, 6, 7, 8, 9, 10, 11, 12, 13, 14, 15, 16, 17, 18, 20] kR (of_decide_eq_true rfl) ?hok3 ?fin3
            case hA3 => intro u; simp only [putAll, List.length_cons, List.length_nil, Nat.zero_add, Nat.reduceAdd, dstAt, List.getElem?_toArray, List.getElem?_cons_zero, List.getElem?_cons_succ, Option.bind_some, Act.put, List.setIfInBounds_toArray, List.set_cons_zero, List.set_cons_succ]; rfl
            case hok3 =>
              intro i hi
              obtain rfl | rfl | rfl | rfl | rfl | rfl | rfl | rfl | rfl | rfl | rfl | rfl | rfl | rfl | rfl | rfl | rfl | rfl | rfl | rfl | rfl : i = 0 ∨ i = 1 ∨ i = 2 ∨ i = 3 ∨ i = 4 ∨ i = 5 ∨ i = 6 ∨ i = 7 ∨ i = 8 ∨ i = 9 ∨ i = 10 ∨ i = 11 ∨ i = 12 ∨ i = 13 ∨ i = 14 ∨ i = 15 ∨ i = 16 ∨ i = 17 ∨ i = 18 ∨ i = 19 ∨ i = 20 := by simp only [List.length_cons, List.length_nil, Nat.zero_add, Nat.reduceAdd] at hi; omega
              · clear hi
                rw [if_neg (by decide)]; intro r0
                refine step_of rfl rfl rfl ?_
                intro u G w hf S
                simp only [resOf, spec, RSpec.resAt, z0, z1, z2, z3, z4, z5, z6, z7, ptrBlk] at S ⊢
                simp only [does]
                go_simp
                try first | exact S | exact ⟨vv, S⟩ | exact vv
              · clear hi
                rw [if_neg (by decide)]; intro r0
                refine step_of rfl rfl rfl ?_
                intro u G w hf S
                simp only [resOf, spec, RSpec.resAt, z0, z1, z2, z3, z4, z5, z6, z7, ptrBlk] at S ⊢
                simp only [does]
                go_simp
                try first | exact S | exact ⟨vv, S⟩ | exact vv
              · clear hi
                rw [if_neg (by decide)]; intro r0
                refine step_of rfl rfl rfl ?_
                intro u G w hf S
                simp only [resOf, spec, RSpec.resAt, z0, z1, z2, z3, z4, z5, z6, z7, ptrBlk] at S ⊢
                simp only [does]
                go_simp
                try first | exact S | exact ⟨vv, S⟩ | exact vv
              · clear hi
                rw [if_neg (by decide)]; intro r0
                refine step_of rfl rfl rfl ?_
                intro u G w hf S
                have f1 : u 1 = (.slice (some ⟨b, off, none⟩) N c0) := hf 1 (by simp)
                have f2 : u 2 = (.int .i64 (k : Int)) := hf 2 (by simp)
                simp only [resOf, spec, RSpec.resAt, z0, z1, z2, z3, z4, z5, z6, z7, ptrBlk] at S ⊢
                simp only [f1, f2]
                simp only [does]
                go_simp
                try first | exact S | exact ⟨vv, S⟩ | exact vv
              · clear hi
                rw [if_neg (by decide)]; intro r0
                refine step_of rfl rfl rfl ?_
                intro u G w hf S
                have f3 : u 3 = .pointer (some ⟨b, off + k * 4, none⟩) := hf 3 (by simp)
                simp only [resOf, spec, RSpec.resAt, z0, z1, z2, z3, z4, z5, z6, z7, ptrBlk] at S ⊢
                simp only [f3]
                simp only [does]
                go_simp
                try first | exact S | exact ⟨vv, S⟩ | exact vv
              · clear hi
                rw [if_neg (by decide)]; intro r0
                refine step_of rfl rfl rfl ?_
                intro u G w hf S
                have f4 : u 4 = .pointer (some ⟨b, off + k * 4, none⟩) := hf 4 (by simp)
                simp only [resOf, spec, RSpec.resAt, z0, z1, z2, z3, z4, z5, z6, z7, ptrBlk] at S ⊢
                simp only [f4]
                refine does_load1 23 (.tmp 133) _ _ rfl (S.old_cell hy) _ Tryd.underlying23 rfl ?_; exact ⟨rfl, S⟩
              · clear hi
                rw [if_neg (by decide)]; intro r0
                refine step_of rfl rfl rfl ?_
                intro u G w hf S
                simp only [resOf, spec, RSpec.resAt, z0, z1, z2, z3, z4, z5, z6, z7, ptrBlk] at S ⊢
                simp only [does]
                go_simp
                try first | exact S | exact ⟨vv, S⟩ | exact vv
              · clear hi
                rw [if_neg (by decide)]; intro r0
                refine step_of rfl rfl rfl ?_
                intro u G w hf S
                simp only [resOf, spec, RSpec.resAt, z0, z1, z2, z3, z4, z5, z6, z7, ptrBlk] at S ⊢
                simp only [does]
                go_simp
                try first | exact S | exact ⟨vv, S⟩ | exact vv
              · clear hi
                rw [if_neg (by decide)]; intro r0
                refine step_of rfl rfl rfl ?_
                intro u G w hf S
                have f6 : u 6 = (.slice (some ⟨b, off, none⟩) N c0) := hf 6 (by simp)
                have f7 : u 7 = (.int .i64 (k : Int)) := hf 7 (by simp)
                simp only [resOf, spec, RSpec.resAt, z0, z1, z2, z3, z4, z5, z6, z7, ptrBlk] at S ⊢
                simp only [f6, f7]
                simp only [does]
                go_simp
                try first | exact S | exact ⟨vv, S⟩ | exact vv
              · clear hi
                rw [if_neg (by decide)]; intro r0
                refine step_of rfl rfl rfl ?_
                intro u G w hf S
                have f8 : u 8 = .pointer (some ⟨b, off + k * 4, none⟩) := hf 8 (by simp)
                simp only [resOf, spec, RSpec.resAt, z0, z1, z2, z3, z4, z5, z6, z7, ptrBlk] at S ⊢
                simp only [f8]
                simp only [does]
                go_simp
                try first | exact S | exact ⟨vv, S⟩ | exact vv
              · clear hi
                rw [if_neg (by decide)]; intro r0
                refine step_of rfl rfl rfl ?_
                intro u G w hf S
                have f9 : u 9 = .pointer (some ⟨b, off + k * 4 + 1, none⟩) := hf 9 (by simp)
                simp only [resOf, spec, RSpec.resAt, z0, z1, z2, z3, z4, z5, z6, z7, ptrBlk] at S ⊢
                simp only [f9]
                refine does_load1 5 (.tmp 138) _ _ rfl (S.old_cell hy) _ Tryd.underlying5 rfl ?_; exact ⟨rfl, S⟩
              · clear hi
                rw [if_neg (by decide)]; intro r0
                refine step_of rfl rfl rfl ?_
                intro u G w hf S
                simp only [resOf, spec, RSpec.resAt, z0, z1, z2, z3, z4, z5, z6, z7, ptrBlk] at S ⊢
                simp only [does]
                go_simp
                try first | exact S | exact ⟨vv, S⟩ | exact vv
              · clear hi
                rw [if_neg (by decide)]; intro r0
                refine step_of rfl rfl rfl ?_
                intro u G w hf S
                simp only [resOf, spec, RSpec.resAt, z0, z1, z2, z3, z4, z5, z6, z7, ptrBlk] at S ⊢
                simp only [does]
                go_simp
                try first | exact S | exact ⟨vv, S⟩ | exact vv
              · clear hi
                rw [if_neg (by decide)]; intro r0
                refine step_of rfl rfl rfl ?_
                intro u G w hf S
                have f11 : u 11 = (.slice (some ⟨b, off, none⟩) N c0) := hf 11 (by simp)
                have f12 : u 12 = (.int .i64 (k : Int)) := hf 12 (by simp)
                simp only [resOf, spec, RSpec.resAt, z0, z1, z2, z3, z4, z5, z6, z7, ptrBlk] at S ⊢
                simp only [f11, f12]
                simp only [does]
                go_simp
                try first | exact S | exact ⟨vv, S⟩ | exact vv
              · clear hi
                rw [if_neg (by decide)]; intro r0
                refine step_of rfl rfl rfl ?_
                intro u G w hf S
                have f13 : u 13 = .pointer (some ⟨b, off + k * 4, none⟩) := hf 13 (by simp)
                simp only [resOf, spec, RSpec.resAt, z0, z1, z2, z3, z4, z5, z6, z7, ptrBlk] at S ⊢
                simp only [f13]
                simp only [does]
                go_simp
                try first | exact S | exact ⟨vv, S⟩ | exact vv
              · clear hi
                rw [if_neg (by decide)]; intro r0
                refine step_of rfl rfl rfl ?_
                intro u G w hf S
                have f14 : u 14 = .pointer (some ⟨b, off + k * 4 + 2, none⟩) := hf 14 (by simp)
                simp only [resOf, spec, RSpec.resAt, z0, z1, z2, z3, z4, z5, z6, z7, ptrBlk] at S ⊢
                simp only [f14]
                refine does_load1 80 (.tmp 143) _ _ rfl (S.old_cell hy) _ Tryd.underlying80 rfl ?_; exact ⟨rfl, S⟩
              · clear hi
                rw [if_neg (by decide)]; intro r0
                refine step_of rfl rfl rfl ?_
                intro u G w hf S
                have f15 : u 15 = .int .u16 (n.code.toNat : Int) := hf 15 (by simp)
                simp only [resOf, spec, RSpec.resAt, z0, z1, z2, z3, z4, z5, z6, z7, ptrBlk] at S ⊢
                simp only [f15]
                simp only [does]
                go_simp
                try first | exact S | exact ⟨vv, S⟩ | exact vv
              · clear hi
                rw [if_neg (by decide)]; intro r0
                refine step_of rfl rfl rfl ?_
                intro u G w hf S
                simp only [resOf, spec, RSpec.resAt, z0, z1, z2, z3, z4, z5, z6, z7, ptrBlk] at S ⊢
                refine does_load 22 (.tmp 13) g13 rfl _ _ _ (S.get (r := blk g13 _) pk) _ Tryd.underlying22 rfl 32 kR lN ?_; exact ⟨rfl, S⟩
              · clear hi
                rw [if_neg (by decide)]; intro r0
                refine step_of rfl rfl rfl ?_
                intro u G w hf S
                have f5 : u 5 = .int .u64 (n.tick.toNat : Int) := hf 5 (by simp)
                have f10 : u 10 = .int .u8 (n.kind.toNat : Int) := hf 10 (by simp)
                have f16 : u 16 = .int .i64 (n.code.toNat : Int) := hf 16 (by simp)
                have f17 : u 17 = .agg (arr8 D) := hf 17 (by simp)
                simp only [resOf, spec, RSpec.resAt, z0, z1, z2, z3, z4, z5, z6, z7, ptrBlk] at S ⊢
                simp only [f5, f10, f16, f17]
                refine does_buildRc4 (.tmp 134) (.tmp 139) (.tmp 145) (.tmp 146) x (by rw [HX0.out]; rfl) (by rw [HX1.out]; rfl) (by rw [HX2.out]; rfl) (by rw [HX3.out]; rfl) ?_; exact ⟨rfl, S⟩
              · clear hi
                rw [if_neg (by decide)]; intro r0
                refine step_of rfl rfl rfl ?_
                intro u G w hf S
                have f18 : u 18 = .agg (rcdL x).toArray := hf 18 (by simp)
                simp only [resOf, spec, RSpec.resAt, z0, z1, z2, z3, z4, z5, z6, z7, ptrBlk] at S ⊢
                simp only [f18]
                refine does_buildRc1 S (.tmp 147) x rfl ?_; intro y w1 S; exact ⟨⟨y, rfl⟩, S⟩
              · clear hi
                rw [if_pos rfl]
                refine step_ofW rfl rfl rfl ?_
                intro u G w hf S
                have f0 : u 0 = (u7) := hf 0 (by simp)
                have f19 : ∃ y, u 19 = y := hf 19 (by simp)
                obtain ⟨y148, f19⟩ := f19
                simp only [resOf, spec, RSpec.resAt, z0, z1, z2, z3, z4, z5, z6, z7, ptrBlk] at S ⊢
                simp only [f0, f19] at S ⊢
                try simp only [ptrBlk] at S
                refine does_appendRc (.tmp 129) (.tmp 148) u7 A rfl (S.pick (r := rowRc u7 A) pk) y148 [x] rfl (S.sl (v := y148) pk) HLE1.out ?_; intro v' w' S; exact ⟨⟨_, rfl⟩, (S.drop (Pick.tail (Pick.head _ _))).unit.perm (List.Perm.swap _ _ _)⟩
            case fin3 =>
              intro u w hf S
              have f0 : u 0 = (u7) := hf 0 (by simp)
              have f1 : u 1 = (.slice (some ⟨b, off, none⟩) N c0) := hf 1 (by simp)
              have f2 : u 2 = (.int .i64 (k : Int)) := hf 2 (by simp)
              have f3 : u 3 = .pointer (some ⟨b, off + k * 4, none⟩) := hf 3 (by simp)
              have f4 : u 4 = .pointer (some ⟨b, off + k * 4, none⟩) := hf 4 (by simp)
              have f5 : u 5 = .int .u64 (n.tick.toNat : Int) := hf 5 (by simp)
              have f6 : u 6 = (.slice (some ⟨b, off, none⟩) N c0) := hf 6 (by simp)
              have f7 : u 7 = (.int .i64 (k : Int)) := hf 7 (by simp)
              have f8 : u 8 = .pointer (some ⟨b, off + k * 4, none⟩) := hf 8 (by simp)
              have f9 : u 9 = .pointer (some ⟨b, off + k * 4 + 1, none⟩) := hf 9 (by simp)
              have f10 : u 10 = .int .u8 (n.kind.toNat : Int) := hf 10 (by simp)
              have f11 : u 11 = (.slice (some ⟨b, off, none⟩) N c0) := hf 11 (by simp)
              have f12 : u 12 = (.int .i64 (k : Int)) := hf 12 (by simp)
              have f13 : u 13 = .pointer (some ⟨b, off + k * 4, none⟩) := hf 13 (by simp)
              have f14 : u 14 = .pointer (some ⟨b, off + k * 4 + 2, none⟩) := hf 14 (by simp)
              have f15 : u 15 = .int .u16 (n.code.toNat : Int) := hf 15 (by simp)
              have f16 : u 16 = .int .i64 (n.code.toNat : Int) := hf 16 (by simp)
              have f17 : u 17 = .agg (arr8 D) := hf 17 (by simp)
              have f18 : u 18 = .agg (rcdL x).toArray := hf 18 (by simp)
              have f19 : ∃ y, u 19 = y := hf 19 (by simp)
              obtain ⟨y148, f19⟩ := f19
              have f20 : ∃ y, u 20 = y := hf 20 (by simp)
              obtain ⟨y149, f20⟩ := f20
              simp only [resOf, spec, RSpec.resAt, z0, z1, z2, z3, z4, z5, z6, z7, ptrBlk] at S
              clear hf
              simp only [List.length_cons, List.length_nil, Nat.zero_add, Nat.reduceAdd, List.drop_succ_cons, List.drop_zero, f0, f1, f2, f3, f4, f5, f6, f7, f8, f9, f10, f11, f12, f13, f14, f15, f16, f17, f18, f19, f20]
              try simp only [f0, f1, f2, f3, f4, f5, f6, f7, f8, f9, f10, f11, f12, f13, f14, f15, f16, f17, f18, f19, f20, ptrBlk] at S
              clear f0 f1 f2 f3 f4 f5 f6 f7 f8 f9 f10 f11 f12 f13 f14 f15 f16 f17 f18 f19 f20
              go_wp2_with (first | ((with_reducible refine iD 159 (.load 22 (.tmp 13)) ?_); refine step_load S 22 (.tmp 13) g13 rfl _ (arr8 D) _ pk _ Tryd.underlying22 rfl 32 kR lN gw ?_) | ((with_reducible refine iD 156 (.buildSlice 32 1 _) ?_); refine step_buildF1 S (.tmp 155) (.slice ah n.b.length ch) rfl rfl gw ?_; clear S; intro v156 w S) | (at_builtin; refine step_appendF S (.tmp 150) (.tmp 156) u8 P rfl pk v156 [.slice ah n.b.length ch] rfl (S.sl (v := v156) pk) (one1 rfl) HLE2.out gw ?_; clear S; intro v157 w S) | ((with_reducible refine iD 160 (.buildSlice 97 1 _) ?_); refine step_buildK1 S (.tmp 159) Kn (show Value.agg _ = Value.agg _ by rw [HKD.out]) gw ?_; clear S; intro v160 w S) | (at_builtin; refine step_appendK S (.tmp 158) (.tmp 160) u9 KS rfl pk v160 [Kn] rfl (S.sl (v := v160) pk) HLE3.out gw ?_; clear S; intro v161 w S) | ((with_reducible refine iO none (.store 40 (.tmp 6) (.tmp 162)) ?_); refine step_store S 40 (.tmp 6) (.tmp 162) g6 _ rfl rfl _ _ pk 34 kR (lgL_size _ _) (lgL_size _ _) (lgL_one _ _ (one_sl (S.sl (v := y57) (xs := GX.recs.flatMap rcdL) pk)).1) gw ?_; clear S; intro w S) | ((with_reducible refine iD 6 (.alloc 40) ?_); refine step_alloc (dst := some 6) S 40 (.agg ((lgL lgZ (.slice none 0 0)).toArray)) ((lgL lgZ (.slice none 0 0)).toArray) kR rfl gw ?_; clear S; intro g6 w S) | ((with_reducible refine iO none (.store 40 (.tmp 6) (.tmp 25)) ?_); refine step_store S 40 (.tmp 6) (.tmp 25) _ _ rfl rfl _ _ pk 34 kR lN lN on1 gw ?_; clear S; intro w S) | ((with_reducible refine iO _ (.load 40 _) ?_); first | (refine step_load S 40 _ _ rfl _ _ _ pk _ Tryd.underlying40 rfl 34 kR lN gw ?_) | (refine step_loadO 40 _ _ rfl _ _ _ (S.old_heap (Hid.out (by assumption))) _ Tryd.underlying40 rfl 34 kR lN gw ?_) | (refine step_loadR 40 _ _ _ rfl _ (S.old_range hy) _ Tryd.underlying40 rfl 34 kR lN _ rfl gw ?_)) | ((with_reducible refine iO _ (.load 23 _) ?_); refine step_load1 23 _ _ _ rfl (cL) _ Tryd.underlying23 rfl gw ?_) | ((with_reducible refine iO _ (.load 5 _) ?_); refine step_load1 5 _ _ _ rfl (cL) _ Tryd.underlying5 rfl gw ?_) | ((with_reducible refine iO _ (.load 80 _) ?_); refine step_load1 80 _ _ _ rfl (cL) _ Tryd.underlying80 rfl gw ?_) | ((with_reducible refine iO _ (.load 25 _) ?_); refine step_load1 25 _ _ _ rfl (cL) _ Tryd.underlying25 rfl gw ?_) | ((with_reducible refine iD 11 (.alloc 40) ?_); refine step_alloc (dst := some 11) S 40 (.agg ((lgL lgZ (.slice none 0 0)).toArray)) ((lgL lgZ (.slice none 0 0)).toArray) kR rfl gw ?_; clear S; intro g11 w S) | ((with_reducible refine iO none (.store 40 (.tmp 11) (.tmp 58)) ?_); refine step_store S 40 (.tmp 11) (.tmp 58) _ _ rfl rfl _ _ pk 34 kR lN lN on1 gw ?_; clear S; intro w S) | ((with_reducible refine iO _ (.load 22 _) ?_); first | (refine step_loadR 22 _ _ _ rfl _ (S.old_range hy) _ Tryd.underlying22 rfl 32 kR lN _ rfl gw ?_) | (refine step_loadP S 22 _ _ _ rfl _ _ _ pk 32 _ pT lN _ Tryd.underlying22 rfl kR gw ?_)) | ((with_reducible refine iD 13 (.alloc 22) ?_); refine step_alloc (dst := some 13) S 22 (.agg (arr8 (List.replicate 32 0))) (arr8 (List.replicate 32 0)) kR rfl gw ?_; clear S; intro g13 w S) | ((with_reducible refine iO none (.store 22 (.tmp 13) (.tmp 110)) ?_); refine step_store S 22 (.tmp 13) (.tmp 110) _ _ rfl rfl _ _ pk 32 kR lN lN on1 gw ?_; clear S; intro w S) | ((with_reducible refine iO _ (.load 22 _) ?_); first | (refine step_load S 22 _ _ rfl _ _ _ pk _ Tryd.underlying22 rfl 32 kR lN gw ?_) | (refine step_loadO 22 _ _ rfl _ _ _ (S.old_heap (Hid.out (by assumption))) _ Tryd.underlying22 rfl 32 kR lN gw ?_) | (refine step_loadR 22 _ _ _ rfl _ (S.old_range hy) _ Tryd.underlying22 rfl 32 kR lN _ rfl gw ?_)) | ((with_reducible refine iO none (.store 40 (.tmp 6) (.tmp 162)) ?_); refine step_store S 40 (.tmp 6) (.tmp 162) _ _ rfl rfl _ _ pk 34 kR lN lN on1 gw ?_; clear S; intro w S) | ((with_reducible refine iO _ (.load 38 _) ?_); refine step_load1 38 _ _ _ rfl (cL) _ Tryd.underlying38 rfl gw ?_) | ((with_reducible refine iO _ (.load 31 _) ?_); refine step_load1 31 _ _ _ rfl (cL) _ Tryd.underlying31 rfl gw ?_) | ((with_reducible refine iO _ (.slice 31 _ _ _ _) ?_); refine step_cutL 31 50 35 _ _ _ _ _ _ _ _ rfl rfl (by first | rfl | omega) (by first | (first | omega | assumption | (exact Hid.out (by assumption)) | (simp only [List.length_append, List.length_cons, List.length_nil]; omega)) | decide) Tryd.underlying31 kR gw ?_) | ((with_reducible refine iO _ (.slice 32 _ _ _ _) ?_); refine step_cutL 32 25 1 _ _ _ _ _ _ _ _ rfl rfl (by first | rfl | omega) (by first | (first | omega | assumption | (exact Hid.out (by assumption)) | (simp only [List.length_append, List.length_cons, List.length_nil]; omega)) | decide) Tryd.underlying32 kR gw ?_) | fail)
              go_roundw
              case rel => exact ⟨k + 1, A ++ [x], P ++ [(.slice ah n.b.length ch, n.b)], KS ++ [Kn], GX, _, by omega, HA1.out, by go_num, HC3.out, HP2.out, by rw [HRF.out]; exact S.sub (by repeat (first | exact Sub.nil _ | refine Sub.cons pk ?_))⟩
              case measure => simp [intOf]; omega
    · obtain rfl : k = N := by omega
      have hki : ¬ (k : Int) < (k : Int) := by omega
      obtain ⟨L, hL, hLl, hvf⟩ := chn_end hC
      have hsn := chn_since hC first
      have hcnt := hC.cnt
      have hrc := hC.recs
      have hnp := hC.np
      have hnk := hC.nk
      rw [List.length_map] at hnk
      have hlgv : lgE LQ = 0 := if_pos hC.v
      have hM200 : A.length ≤ 200 := by have := HN200.out; omega
      obtain ⟨kk, hkk, hkd⟩ : ∃ kk, KS[A.length - 32]? = some kk ∧ kk.d = L := by
        rw [List.getElem?_map] at hL
        cases hq : KS[A.length - 32]? with
        | none => rw [hq] at hL; cases hL
        | some kk => rw [hq] at hL; exact ⟨kk, rfl, Option.some.inj hL⟩
      obtain ⟨M, hM⟩ : ∃ M, M = A.length := ⟨_, rfl⟩
      obtain ⟨lo, hlo⟩ : ∃ lo, lo = M - 32 := ⟨_, rfl⟩
      rw [← hM] at hsn hcnt hrc hnp hnk hM200 hkk hvf
      rw [← hlo] at hkk hvf hrc hsn
      have hlk2 : KS.length ≠ 0 := by omega
      obtain ⟨a7, c7, rfl, k71, k72⟩ := Sl.shape (S.sl (v := u7) (xs := A.flatMap rcdL) pk)
      obtain ⟨a8, c8, rfl, k81, k82⟩ := Sl.shape (S.sl (v := u8) (xs := P.map (·.1)) pk)
      obtain ⟨g9, c9, rfl, _⟩ := S.row_at (v := u9) (xs := KS.flatMap kyL) pk hlk2
      obtain ⟨ag, cg, rfl, _, _⟩ := Sl.shape (S.sl (v := gv) (xs := LQ.recs.flatMap rcdL) pk)
      have S : Has w0 wr [blk g6 (.cells (lgL LQ (.slice ag LQ.recs.length cg)).toArray 40 (0, 0)), row (.slice ag LQ.recs.length cg) 50 35 LQ.recs.length (LQ.recs.flatMap rcdL), row (.slice a7 A.length c7) 50 35 A.length (A.flatMap rcdL), row (.slice a8 P.length c8) 25 1 P.length (P.map (·.1)), row (.slice (some ⟨g9, 0, none⟩) KS.length c9) 22 32 KS.length (KS.flatMap kyL)] := S
      have hM0 := hM
      rw [← hM, hnp] at S
      rw [← hM] at k71
      rw [hnp] at k81
      rw [← hM, hnp]
      have e1 : IntKind.i64.wrap ((M : Int) - 32) = (M : Int) - 32 := by rw [IntKind.wrap_i64]; omega
      have HP := Lib.hid hP; have HC := Lib.hid hC; have HL := Lib.hid hL; have HLL := Lib.hid hLl; have HVF := Lib.hid hvf; have HSN := Lib.hid hsn; have HCNT := Lib.hid hcnt; have HRC := Lib.hid hrc; have HNP := Lib.hid hnp; have HNK := Lib.hid hnk; have HLGV := Lib.hid hlgv; have HKK := Lib.hid hkk; have HKD := Lib.hid hkd; have HLK2 := Lib.hid hlk2; have HM0 := Lib.hid hM0; have HM200 := Lib.hid hM200; have HLO := Lib.hid hlo; have K71 := Lib.hid k71; have K72 := Lib.hid k72; have K81 := Lib.hid k81; have K82 := Lib.hid k82; clear hP hC hL hLl hvf hsn hcnt hrc hnp hnk hlgv hkk hkd hlk2 hM0 hM200 hlo k71 k72 k81 k82
      clear hM hAk
      go_upto_region 23 with (first | ((with_reducible refine iD 6 (.alloc 40) ?_); refine step_alloc (dst := some 6) S 40 (.agg ((lgL lgZ (.slice none 0 0)).toArray)) ((lgL lgZ (.slice none 0 0)).toArray) kR rfl gw ?_; clear S; intro g6 w S) | ((with_reducible refine iO none (.store 40 (.tmp 6) (.tmp 25)) ?_); refine step_store S 40 (.tmp 6) (.tmp 25) _ _ rfl rfl _ _ pk 34 kR lN lN on1 gw ?_; clear S; intro w S) | ((with_reducible refine iO _ (.load 40 _) ?_); first | (refine step_load S 40 _ _ rfl _ _ _ pk _ Tryd.underlying40 rfl 34 kR lN gw ?_) | (refine step_loadO 40 _ _ rfl _ _ _ (S.old_heap (Hid.out (by assumption))) _ Tryd.underlying40 rfl 34 kR lN gw ?_) | (refine step_loadR 40 _ _ _ rfl _ (S.old_range hy) _ Tryd.underlying40 rfl 34 kR lN _ rfl gw ?_)) | ((with_reducible refine iO _ (.load 23 _) ?_); refine step_load1 23 _ _ _ rfl (cL) _ Tryd.underlying23 rfl gw ?_) | ((with_reducible refine iO _ (.load 5 _) ?_); refine step_load1 5 _ _ _ rfl (cL) _ Tryd.underlying5 rfl gw ?_) | ((with_reducible refine iO _ (.load 80 _) ?_); refine step_load1 80 _ _ _ rfl (cL) _ Tryd.underlying80 rfl gw ?_) | ((with_reducible refine iO _ (.load 25 _) ?_); refine step_load1 25 _ _ _ rfl (cL) _ Tryd.underlying25 rfl gw ?_) | ((with_reducible refine iD 11 (.alloc 40) ?_); refine step_alloc (dst := some 11) S 40 (.agg ((lgL lgZ (.slice none 0 0)).toArray)) ((lgL lgZ (.slice none 0 0)).toArray) kR rfl gw ?_; clear S; intro g11 w S) | ((with_reducible refine iO none (.store 40 (.tmp 11) (.tmp 58)) ?_); refine step_store S 40 (.tmp 11) (.tmp 58) _ _ rfl rfl _ _ pk 34 kR lN lN on1 gw ?_; clear S; intro w S) | ((with_reducible refine iO _ (.load 22 _) ?_); first | (refine step_loadR 22 _ _ _ rfl _ (S.old_range hy) _ Tryd.underlying22 rfl 32 kR lN _ rfl gw ?_) | (refine step_loadP S 22 _ _ _ rfl _ _ _ pk 32 _ pT lN _ Tryd.underlying22 rfl kR gw ?_)) | ((with_reducible refine iD 13 (.alloc 22) ?_); refine step_alloc (dst := some 13) S 22 (.agg (arr8 (List.replicate 32 0))) (arr8 (List.replicate 32 0)) kR rfl gw ?_; clear S; intro g13 w S) | ((with_reducible refine iO none (.store 22 (.tmp 13) (.tmp 110)) ?_); refine step_store S 22 (.tmp 13) (.tmp 110) _ _ rfl rfl _ _ pk 32 kR lN lN on1 gw ?_; clear S; intro w S) | ((with_reducible refine iO _ (.load 22 _) ?_); first | (refine step_load S 22 _ _ rfl _ _ _ pk _ Tryd.underlying22 rfl 32 kR lN gw ?_) | (refine step_loadO 22 _ _ rfl _ _ _ (S.old_heap (Hid.out (by assumption))) _ Tryd.underlying22 rfl 32 kR lN gw ?_) | (refine step_loadR 22 _ _ _ rfl _ (S.old_range hy) _ Tryd.underlying22 rfl 32 kR lN _ rfl gw ?_)) | ((with_reducible refine iO none (.store 40 (.tmp 6) (.tmp 162)) ?_); refine step_store S 40 (.tmp 6) (.tmp 162) _ _ rfl rfl _ _ pk 34 kR lN lN on1 gw ?_; clear S; intro w S) | ((with_reducible refine iO _ (.load 38 _) ?_); refine step_load1 38 _ _ _ rfl (cL) _ Tryd.underlying38 rfl gw ?_) | ((with_reducible refine iO _ (.load 31 _) ?_); refine step_load1 31 _ _ _ rfl (cL) _ Tryd.underlying31 rfl gw ?_) | ((with_reducible refine iO _ (.slice 31 _ _ _ _) ?_); refine step_cutL 31 50 35 _ _ _ _ _ _ _ _ rfl rfl (by first | rfl | omega) (by first | (first | omega | assumption | (exact Hid.out (by assumption)) | (simp only [List.length_append, List.length_cons, List.length_nil]; omega)) | decide) Tryd.underlying31 kR gw ?_) | ((with_reducible refine iO _ (.slice 32 _ _ _ _) ?_); refine step_cutL 32 25 1 _ _ _ _ _ _ _ _ rfl rfl (by first | rfl | omega) (by first | (first | omega | assumption | (exact Hid.out (by assumption)) | (simp only [List.length_append, List.length_cons, List.length_nil]; omega)) | decide) Tryd.underlying32 kR gw ?_) | fail)
      have hli : (if (M : Int) - 32 < 0 then (0 : Int) else (M : Int) - 32) = (lo : Int) := by have := HLO.out; split <;> omega
      rw [hli]
      clear hli
      have c0' : ((LQ.cnt.toNat : Int) != (M : Int)) = false := by rw [bne_eq_false_iff_eq]; have := HCNT.out; omega
      have e2 : IntKind.u32.wrap (M : Int) = (M : Int) := by rw [IntKind.wrap_u32]; have := HM200.out; omega
      have hloM : lo ≤ M := by have := HLO.out; omega
      have hq0 := lgL_0 LQ (.slice ag LQ.recs.length cg)
      have hq33 := lgL_33 LQ (.slice ag LQ.recs.length cg)
      have ps := fun v1 v2 w h1 h2 => sameRecords_s v1 v2 LQ.recs w h1 h2
      have hcutA : ∀ w, Sl w 35 (.slice a7 M c7) M (A.flatMap rcdL) → Sl w 35 (.slice (cutA a7 c7 lo 35) (M - lo) (c7 - lo)) LQ.recs.length (LQ.recs.flatMap rcdL) := fun w h => by
        have := h.cut lo (M - lo) (by omega)
        rw [drop_flat rcdL 35 rcdL_length, ← HRC.out, List.take_of_length_le (by rw [flat_len rcdL 35 rcdL_length, HRC.out, List.length_drop, ← HM0.out]; exact Nat.le_refl _)] at this
        rw [show LQ.recs.length = M - lo by rw [HRC.out, List.length_drop, ← HM0.out]]
        exact this
      have HQ0 := Lib.hid hq0; have HQ33 := Lib.hid hq33; have PS := Lib.hid ps; have HCUTA := Lib.hid hcutA; have HLOM := Lib.hid hloM; clear hq0 hq33 ps hcutA hloM
      refine wp_rely S [⟨[], [], [], fun _ v => v = .pointer (some ⟨g6, 0, none⟩), fun _ v => []⟩, ⟨[0], [], [], fun _ v => v = .int .u32 (LQ.cnt.toNat : Int), fun _ v => []⟩, ⟨[], [], [], fun _ v => v = (.slice a7 M c7), fun _ v => []⟩, ⟨[2], [], [], fun _ v => v = .int .i64 (M : Int), fun _ v => []⟩, ⟨[2, 3], [], [], fun _ v => v = .int .u32 (M : Int), fun _ v => []⟩, ⟨[0, 1, 2, 3, 4], [], [], fun _ v => v = .bool false, fun _ v => []⟩, ⟨[0, 1, 2, 3, 4, 5], [], [], fun _ v => v = (.bool false), fun _ v => []⟩, ⟨[0, 1, 2, 3, 4, 5, 6], [], [], fun _ v => v = .pointer (some ⟨g6, 33, none⟩), fun _ v => []⟩, ⟨[0, 1, 2, 3, 4, 5, 6, 7], [], [], fun _ v => v = .slice ag LQ.recs.length cg, fun _ v => []⟩, ⟨[0, 1, 2, 3, 4, 5, 6], [], [], fun _ v => v = (.slice a7 M c7), fun _ v => []⟩, ⟨[0, 1, 2, 3, 4, 5, 6], [], [], fun _ v => v = (.int .i64 (lo : Int)), fun _ v => []⟩, ⟨[0, 1, 2, 3, 4, 5, 6, 9, 10], [], [], fun _ v => v = .slice (cutA a7 c7 lo 35) (M - lo) (c7 - lo), fun _ v => []⟩, ⟨[0, 1, 2, 3, 4, 5, 6, 7, 8, 9, 10, 11], [], [], fun _ v => v = .bool true, fun _ v => []⟩, ⟨[0, 1, 2, 3, 4, 5, 6, 7, 8, 9, 10, 11, 12], [], [], fun _ v => v = .bool false, fun _ v => []⟩, ⟨[0, 1, 2, 3, 4, 5, 6, 7, 8, 9, 10, 11, 12, 13], [], [], fun _ v => v = .bool false, fun _ v => []⟩] ?A4 ?hA4 kR kR kR [0, 1, 2, 3, 4, 5, 6, 7, 8, 9, 10, 11, 12, 13, 14] kR ?hok4 ?fin4
      case hA4 => intro u; simp only [putAll, List.length_cons, List.length_nil, Nat.zero_add, Nat.reduceAdd, dstAt, List.getElem?_toArray, List.getElem?_cons_zero, List.getElem?_cons_succ, Option.bind_some, Act.put, List.setIfInBounds_toArray, List.set_cons_zero, List.set_cons_succ]; rfl
      case hok4 =>
        intro i hi
        obtain rfl | rfl | rfl | rfl | rfl | rfl | rfl | rfl | rfl | rfl | rfl | rfl | rfl | rfl | rfl : i = 0 ∨ i = 1 ∨ i = 2 ∨ i = 3 ∨ i = 4 ∨ i = 5 ∨ i = 6 ∨ i = 7 ∨ i = 8 ∨ i = 9 ∨ i = 10 ∨ i = 11 ∨ i = 12 ∨ i = 13 ∨ i = 14 := by simp only [List.length_cons, List.length_nil, Nat.zero_add, Nat.reduceAdd] at hi; omega
        · clear hi
          refine step_of rfl rfl rfl ?_
          intro u G w hf S
          simp only [resOf, spec, RSpec.resAt, z0, z1, z2, z3, z4, z5, z6, z7, ptrBlk] at S ⊢
          simp only [does]
          go_simp
          try first | exact S | exact ⟨vv, S⟩ | exact vv
        · clear hi
          refine step_of rfl rfl rfl ?_
          intro u G w hf S
          have f0 : u 0 = .pointer (some ⟨g6, 0, none⟩) := hf 0 (by simp)
          simp only [resOf, spec, RSpec.resAt, z0, z1, z2, z3, z4, z5, z6, z7, ptrBlk] at S ⊢
          simp only [f0]
          refine does_load1 38 (.tmp 167) _ _ rfl (S.cell (g := g6) pk co) _ Tryd.underlying38 rfl ?_; exact ⟨rfl, S⟩
        · clear hi
          refine step_of rfl rfl rfl ?_
          intro u G w hf S
          simp only [resOf, spec, RSpec.resAt, z0, z1, z2, z3, z4, z5, z6, z7, ptrBlk] at S ⊢
          simp only [does]
          go_simp
          try first | exact S | exact ⟨vv, S⟩ | exact vv
        · clear hi
          refine step_of rfl rfl rfl ?_
          intro u G w hf S
          have f2 : u 2 = (.slice a7 M c7) := hf 2 (by simp)
          simp only [resOf, spec, RSpec.resAt, z0, z1, z2, z3, z4, z5, z6, z7, ptrBlk] at S ⊢
          simp only [f2]
          simp only [does]
          go_simp
          try first | exact S | exact ⟨vv, S⟩ | exact vv
        · clear hi
          refine step_of rfl rfl rfl ?_
          intro u G w hf S
          have f3 : u 3 = .int .i64 (M : Int) := hf 3 (by simp)
          simp only [resOf, spec, RSpec.resAt, z0, z1, z2, z3, z4, z5, z6, z7, ptrBlk] at S ⊢
          simp only [f3]
          simp only [does]
          go_simp
          try first | exact S | exact ⟨vv, S⟩ | exact vv
        · clear hi
          refine step_of rfl rfl rfl ?_
          intro u G w hf S
          have f1 : u 1 = .int .u32 (LQ.cnt.toNat : Int) := hf 1 (by simp)
          have f4 : u 4 = .int .u32 (M : Int) := hf 4 (by simp)
          simp only [resOf, spec, RSpec.resAt, z0, z1, z2, z3, z4, z5, z6, z7, ptrBlk] at S ⊢
          simp only [f1, f4]
          simp only [does]
          go_simp
          try first | exact S | exact ⟨vv, S⟩ | exact vv
        · clear hi
          refine step_of rfl rfl rfl ?_
          intro u G w hf S
          have f5 : u 5 = .bool false := hf 5 (by simp)
          simp only [resOf, spec, RSpec.resAt, z0, z1, z2, z3, z4, z5, z6, z7, ptrBlk] at S ⊢
          simp only [f5]
          simp only [does]
          go_simp
          try first | exact S | exact ⟨vv, S⟩ | exact vv
        · clear hi
          refine step_of_g rfl rfl ?_
          intro u G w hf S
          have f6 : u 6 = (.bool false) := hf 6 (by simp)
          simp only [resOf, spec, RSpec.resAt, z0, z1, z2, z3, z4, z5, z6, z7, ptrBlk] at S ⊢
          simp only [f6]
          refine ⟨rfl, ?_⟩
          simp only [does]
          go_simp
          try first | exact S | exact ⟨vv, S⟩ | exact vv
        · clear hi
          refine step_of_g rfl rfl ?_
          intro u G w hf S
          have f6 : u 6 = (.bool false) := hf 6 (by simp)
          have f7 : u 7 = .pointer (some ⟨g6, 33, none⟩) := hf 7 (by simp)
          simp only [resOf, spec, RSpec.resAt, z0, z1, z2, z3, z4, z5, z6, z7, ptrBlk] at S ⊢
          simp only [f6, f7]
          refine ⟨rfl, ?_⟩
          refine does_load1 31 (.tmp 174) _ _ rfl (S.cell (g := g6) pk co) _ Tryd.underlying31 rfl ?_; exact ⟨rfl, S⟩
        · clear hi
          refine step_of_g rfl rfl ?_
          intro u G w hf S
          have f6 : u 6 = (.bool false) := hf 6 (by simp)
          simp only [resOf, spec, RSpec.resAt, z0, z1, z2, z3, z4, z5, z6, z7, ptrBlk] at S ⊢
          simp only [f6]
          refine ⟨rfl, ?_⟩
          simp only [does]
          go_simp
          try first | exact S | exact ⟨vv, S⟩ | exact vv
        · clear hi
          refine step_of_g rfl rfl ?_
          intro u G w hf S
          have f6 : u 6 = (.bool false) := hf 6 (by simp)
          simp only [resOf, spec, RSpec.resAt, z0, z1, z2, z3, z4, z5, z6, z7, ptrBlk] at S ⊢
          simp only [f6]
          refine ⟨rfl, ?_⟩
          simp only [does]
          go_simp
          try first | exact S | exact ⟨vv, S⟩ | exact vv
        · clear hi
          refine step_of_g rfl rfl ?_
          intro u G w hf S
          have f6 : u 6 = (.bool false) := hf 6 (by simp)
          have f9 : u 9 = (.slice a7 M c7) := hf 9 (by simp)
          have f10 : u 10 = (.int .i64 (lo : Int)) := hf 10 (by simp)
          simp only [resOf, spec, RSpec.resAt, z0, z1, z2, z3, z4, z5, z6, z7, ptrBlk] at S ⊢
          simp only [f6, f9, f10]
          refine ⟨rfl, ?_⟩
          refine does_cutL 31 50 35 (.tmp 176) (.tmp 177) a7 M c7 .i64 _ lo rfl rfl rfl HLOM.out Tryd.underlying31 kR ?_; exact ⟨rfl, S⟩
        · clear hi
          refine step_of_g rfl rfl ?_
          intro u G w hf S
          have f6 : u 6 = (.bool false) := hf 6 (by simp)
          have f8 : u 8 = .slice ag LQ.recs.length cg := hf 8 (by simp)
          have f11 : u 11 = .slice (cutA a7 c7 lo 35) (M - lo) (c7 - lo) := hf 11 (by simp)
          simp only [resOf, spec, RSpec.resAt, z0, z1, z2, z3, z4, z5, z6, z7, ptrBlk] at S ⊢
          simp only [f6, f8, f11]
          refine ⟨rfl, ?_⟩
          refine does_fn (args := [(.slice ag LQ.recs.length cg), (.slice (cutA a7 c7 lo 35) (M - lo) (c7 - lo))]) Tryd.func28 kR kR (PS.out _ _ w (S.sl (v := .slice ag LQ.recs.length cg) pk) (HCUTA.out w (S.sl (v := .slice a7 M c7) pk))) rfl ?_
          rintro e w1 ⟨rfl, T⟩
          exact ⟨_, rfl, rfl, S.call T⟩
        · clear hi
          refine step_of_g rfl rfl ?_
          intro u G w hf S
          have f6 : u 6 = (.bool false) := hf 6 (by simp)
          have f12 : u 12 = .bool true := hf 12 (by simp)
          simp only [resOf, spec, RSpec.resAt, z0, z1, z2, z3, z4, z5, z6, z7, ptrBlk] at S ⊢
          simp only [f6, f12]
          refine ⟨rfl, ?_⟩
          simp only [does]
          go_simp
          try first | exact S | exact ⟨vv, S⟩ | exact vv
        · clear hi
          refine step_of rfl rfl rfl ?_
          intro u G w hf S
          have f6 : u 6 = (.bool false) := hf 6 (by simp)
          have f13 : u 13 = .bool false := hf 13 (by simp)
          simp only [resOf, spec, RSpec.resAt, z0, z1, z2, z3, z4, z5, z6, z7, ptrBlk] at S ⊢
          simp only [f6, f13]
          simp only [does]
          go_simp
          try first | exact S | exact ⟨vv, S⟩ | exact vv
      case fin4 =>
        intro u w hf S
        have f0 : u 0 = .pointer (some ⟨g6, 0, none⟩) := hf 0 (by simp)
        have f1 : u 1 = .int .u32 (LQ.cnt.toNat : Int) := hf 1 (by simp)
        have f2 : u 2 = (.slice a7 M c7) := hf 2 (by simp)
        have f3 : u 3 = .int .i64 (M : Int) := hf 3 (by simp)
        have f4 : u 4 = .int .u32 (M : Int) := hf 4 (by simp)
        have f5 : u 5 = .bool false := hf 5 (by simp)
        have f6 : u 6 = (.bool false) := hf 6 (by simp)
        have f7 : u 7 = .pointer (some ⟨g6, 33, none⟩) := hf 7 (by simp)
        have f8 : u 8 = .slice ag LQ.recs.length cg := hf 8 (by simp)
        have f9 : u 9 = (.slice a7 M c7) := hf 9 (by simp)
        have f10 : u 10 = (.int .i64 (lo : Int)) := hf 10 (by simp)
        have f11 : u 11 = .slice (cutA a7 c7 lo 35) (M - lo) (c7 - lo) := hf 11 (by simp)
        have f12 : u 12 = .bool true := hf 12 (by simp)
        have f13 : u 13 = .bool false := hf 13 (by simp)
        have f14 : u 14 = .bool false := hf 14 (by simp)
        simp only [resOf, spec, RSpec.resAt, z0, z1, z2, z3, z4, z5, z6, z7, ptrBlk] at S
        clear hf
        simp only [List.length_cons, List.length_nil, Nat.zero_add, Nat.reduceAdd, List.drop_succ_cons, List.drop_zero, f0, f1, f2, f3, f4, f5, f6, f7, f8, f9, f10, f11, f12, f13, f14]
        clear f0 f1 f2 f3 f4 f5 f6 f7 f8 f9 f10 f11 f12 f13 f14
        clear c0' e2
        have hrange : ∀ w, Has w0 w [row (.slice (some ⟨g9, 0, none⟩) KS.length c9) 22 32 KS.length (KS.flatMap kyL)] → w.rangeAt g9 (lo * 32) (L.map by8) := fun w S => by
          have := S.row_range (f := kyL) (n := KS.length) pk kyL_length (by decide) lo kk HKK.out
          rw [← HKD.out]
          exact this
        have hlk3 : lo < KS.length := by rw [HNK.out]; have := HLOM.out; omega
        have pv := fun fv w h1 h2 h3 => verify_s L (.slice ag LQ.recs.length cg) fv LQ.recs (P.drop lo) w HLL.out h1 h2 h3
        rw [HVF.out] at pv
        have hcutP : ∀ w, Sl w 1 (.slice a8 M c8) M (P.map (·.1)) → Sl w 1 (.slice (cutA a8 c8 lo 1) (M - lo) (c8 - lo)) (P.drop lo).length ((P.drop lo).map (·.1)) := fun w h => by
          have := h.cut lo (M - lo) (by have := HLOM.out; omega)
          rw [Nat.mul_one, Nat.mul_one, ← List.map_drop, List.take_of_length_le (by rw [List.length_map, List.length_drop, HNP.out]; exact Nat.le_refl _)] at this
          rw [show (P.drop lo).length = M - lo by rw [List.length_drop, HNP.out]]
          exact this
        have hPd : ∀ p ∈ P.drop lo, Bs w0 p.1 p.2 := fun p hp => HP.out p (List.mem_of_mem_drop hp)
        have hlk4 : (lo : Int) < (KS.length : Int) := by omega
        have HRANGE := Lib.hid hrange; have PV := Lib.hid pv; have HCUTP := Lib.hid hcutP; have HPD := Lib.hid hPd; clear hrange pv hcutP hPd
        go_upto_region 25 with (first | ((with_reducible refine iD 6 (.alloc 40) ?_); refine step_alloc (dst := some 6) S 40 (.agg ((lgL lgZ (.slice none 0 0)).toArray)) ((lgL lgZ (.slice none 0 0)).toArray) kR rfl gw ?_; clear S; intro g6 w S) | ((with_reducible refine iO none (.store 40 (.tmp 6) (.tmp 25)) ?_); refine step_store S 40 (.tmp 6) (.tmp 25) _ _ rfl rfl _ _ pk 34 kR lN lN on1 gw ?_; clear S; intro w S) | ((with_reducible refine iO _ (.load 40 _) ?_); first | (refine step_load S 40 _ _ rfl _ _ _ pk _ Tryd.underlying40 rfl 34 kR lN gw ?_) | (refine step_loadO 40 _ _ rfl _ _ _ (S.old_heap (Hid.out (by assumption))) _ Tryd.underlying40 rfl 34 kR lN gw ?_) | (refine step_loadR 40 _ _ _ rfl _ (S.old_range hy) _ Tryd.underlying40 rfl 34 kR lN _ rfl gw ?_)) | ((with_reducible refine iO _ (.load 23 _) ?_); refine step_load1 23 _ _ _ rfl (cL) _ Tryd.underlying23 rfl gw ?_) | ((with_reducible refine iO _ (.load 5 _) ?_); refine step_load1 5 _ _ _ rfl (cL) _ Tryd.underlying5 rfl gw ?_) | ((with_reducible refine iO _ (.load 80 _) ?_); refine step_load1 80 _ _ _ rfl (cL) _ Tryd.underlying80 rfl gw ?_) | ((with_reducible refine iO _ (.load 25 _) ?_); refine step_load1 25 _ _ _ rfl (cL) _ Tryd.underlying25 rfl gw ?_) | ((with_reducible refine iD 11 (.alloc 40) ?_); refine step_alloc (dst := some 11) S 40 (.agg ((lgL lgZ (.slice none 0 0)).toArray)) ((lgL lgZ (.slice none 0 0)).toArray) kR rfl gw ?_; clear S; intro g11 w S) | ((with_reducible refine iO none (.store 40 (.tmp 11) (.tmp 58)) ?_); refine step_store S 40 (.tmp 11) (.tmp 58) _ _ rfl rfl _ _ pk 34 kR lN lN on1 gw ?_; clear S; intro w S) | ((with_reducible refine iO _ (.load 22 _) ?_); first | (refine step_loadR 22 _ _ _ rfl _ (S.old_range hy) _ Tryd.underlying22 rfl 32 kR lN _ rfl gw ?_) | (refine step_loadP S 22 _ _ _ rfl _ _ _ pk 32 _ pT lN _ Tryd.underlying22 rfl kR gw ?_)) | ((with_reducible refine iD 13 (.alloc 22) ?_); refine step_alloc (dst := some 13) S 22 (.agg (arr8 (List.replicate 32 0))) (arr8 (List.replicate 32 0)) kR rfl gw ?_; clear S; intro g13 w S) | ((with_reducible refine iO none (.store 22 (.tmp 13) (.tmp 110)) ?_); refine step_store S 22 (.tmp 13) (.tmp 110) _ _ rfl rfl _ _ pk 32 kR lN lN on1 gw ?_; clear S; intro w S) | ((with_reducible refine iO _ (.load 22 _) ?_); first | (refine step_load S 22 _ _ rfl _ _ _ pk _ Tryd.underlying22 rfl 32 kR lN gw ?_) | (refine step_loadO 22 _ _ rfl _ _ _ (S.old_heap (Hid.out (by assumption))) _ Tryd.underlying22 rfl 32 kR lN gw ?_) | (refine step_loadR 22 _ _ _ rfl _ (S.old_range hy) _ Tryd.underlying22 rfl 32 kR lN _ rfl gw ?_)) | ((with_reducible refine iO none (.store 40 (.tmp 6) (.tmp 162)) ?_); refine step_store S 40 (.tmp 6) (.tmp 162) _ _ rfl rfl _ _ pk 34 kR lN lN on1 gw ?_; clear S; intro w S) | ((with_reducible refine iO _ (.load 38 _) ?_); refine step_load1 38 _ _ _ rfl (cL) _ Tryd.underlying38 rfl gw ?_) | ((with_reducible refine iO _ (.load 31 _) ?_); refine step_load1 31 _ _ _ rfl (cL) _ Tryd.underlying31 rfl gw ?_) | ((with_reducible refine iO _ (.slice 31 _ _ _ _) ?_); refine step_cutL 31 50 35 _ _ _ _ _ _ _ _ rfl rfl (by first | rfl | omega) (by first | (first | omega | assumption | (exact Hid.out (by assumption)) | (simp only [List.length_append, List.length_cons, List.length_nil]; omega)) | decide) Tryd.underlying31 kR gw ?_) | ((with_reducible refine iO _ (.slice 32 _ _ _ _) ?_); refine step_cutL 32 25 1 _ _ _ _ _ _ _ _ rfl rfl (by first | rfl | omega) (by first | (first | omega | assumption | (exact Hid.out (by assumption)) | (simp only [List.length_append, List.length_cons, List.length_nil]; omega)) | decide) Tryd.underlying32 kR gw ?_) | fail)
        refine wp_rely S [⟨[], [], [], fun _ v => v = (.slice (some ⟨g9, 0, none⟩) KS.length c9), fun _ v => []⟩, ⟨[], [], [], fun _ v => v = (.int .i64 (lo : Int)), fun _ v => []⟩, ⟨[0, 1], [], [], fun _ v => v = .pointer (some ⟨g9, lo * 32, none⟩), fun _ v => []⟩, ⟨[0, 1, 2], [], [], fun _ v => v = .agg (arr8 L), fun _ v => []⟩, ⟨[], [], [], fun _ v => v = .pointer (some ⟨g6, 33, none⟩), fun _ v => []⟩, ⟨[4], [], [], fun _ v => v = .slice ag LQ.recs.length cg, fun _ v => []⟩, ⟨[], [], [], fun _ v => v = (.slice a8 M c8), fun _ v => []⟩, ⟨[], [], [], fun _ v => v = (.int .i64 (lo : Int)), fun _ v => []⟩, ⟨[6, 7], [], [], fun _ v => v = .slice (cutA a8 c8 lo 1) (M - lo) (c8 - lo), fun _ v => []⟩, ⟨[0, 1, 2, 3, 4, 5, 6, 7, 8], [], [], fun _ v => v = .tuple #[.int .i64 (LQ.recs.length : Int), .int .i64 0], fun _ v => []⟩, ⟨[0, 1, 2, 3, 4, 5, 6, 7, 8, 9], [], [], fun _ v => v = (.tuple #[.int .i64 (LQ.recs.length : Int), .int .i64 0]), fun _ v => []⟩, ⟨[0, 1, 2, 3, 4, 5, 6, 7, 8, 9, 10], [], [], fun _ v => v = .int .i64 (LQ.recs.length : Int), fun _ v => []⟩, ⟨[0, 1, 2, 3, 4, 5, 6, 7, 8, 9, 10], [], [], fun _ v => v = .int .i64 0, fun _ v => []⟩, ⟨[0, 1, 2, 3, 4, 5, 6, 7, 8, 9, 10, 11], [], [], fun _ v => v = (.int .i64 (LQ.recs.length : Int)), fun _ v => []⟩, ⟨[0, 1, 2, 3, 4, 5, 6, 7, 8, 9, 10, 11, 12, 13], [], [], fun _ v => v = (.int .i64 0), fun _ v => []⟩] ?A5 ?hA5 kR kR kR [0, 1, 2, 3, 4, 5, 6, 7, 8, 9, 10, 11, 12, 13, 14] kR ?hok5 ?fin5
        case hA5 => intro u; simp only [putAll, List.length_cons, List.length_nil, Nat.zero_add, Nat.reduceAdd, dstAt, List.getElem?_toArray, List.getElem?_cons_zero, List.getElem?_cons_succ, Option.bind_some, Act.put, List.setIfInBounds_toArray, List.set_cons_zero, List.set_cons_succ]; rfl
        case hok5 =>
          intro i hi
          obtain rfl | rfl | rfl | rfl | rfl | rfl | rfl | rfl | rfl | rfl | rfl | rfl | rfl | rfl | rfl : i = 0 ∨ i = 1 ∨ i = 2 ∨ i = 3 ∨ i = 4 ∨ i = 5 ∨ i = 6 ∨ i = 7 ∨ i = 8 ∨ i = 9 ∨ i = 10 ∨ i = 11 ∨ i = 12 ∨ i = 13 ∨ i = 14 := by simp only [List.length_cons, List.length_nil, Nat.zero_add, Nat.reduceAdd] at hi; omega
          · clear hi
            refine step_of rfl rfl rfl ?_
            intro u G w hf S
            simp only [resOf, spec, RSpec.resAt, z0, z1, z2, z3, z4, z5, z6, z7, ptrBlk] at S ⊢
            simp only [does]
            go_simp
            try first | exact S | exact ⟨vv, S⟩ | exact vv
          · clear hi
            refine step_of rfl rfl rfl ?_
            intro u G w hf S
            simp only [resOf, spec, RSpec.resAt, z0, z1, z2, z3, z4, z5, z6, z7, ptrBlk] at S ⊢
            simp only [does]
            go_simp
            try first | exact S | exact ⟨vv, S⟩ | exact vv
          · clear hi
            refine step_of rfl rfl rfl ?_
            intro u G w hf S
            have f0 : u 0 = (.slice (some ⟨g9, 0, none⟩) KS.length c9) := hf 0 (by simp)
            have f1 : u 1 = (.int .i64 (lo : Int)) := hf 1 (by simp)
            simp only [resOf, spec, RSpec.resAt, z0, z1, z2, z3, z4, z5, z6, z7, ptrBlk] at S ⊢
            simp only [f0, f1]
            simp only [does]
            go_simp
            try first | exact S | exact ⟨vv, S⟩ | exact vv
          · clear hi
            refine step_of rfl rfl rfl ?_
            intro u G w hf S
            have f2 : u 2 = .pointer (some ⟨g9, lo * 32, none⟩) := hf 2 (by simp)
            simp only [resOf, spec, RSpec.resAt, z0, z1, z2, z3, z4, z5, z6, z7, ptrBlk] at S ⊢
            simp only [f2]
            refine does_loadR 22 (.tmp 185) _ _ rfl _ (HRANGE.out w (S.sub (by repeat (first | exact Sub.nil _ | refine Sub.cons pk ?_)))) _ Tryd.underlying22 rfl 32 kR (by rw [List.length_map]; exact HLL.out) _ rfl ?_; exact ⟨rfl, S⟩
          · clear hi
            refine step_of rfl rfl rfl ?_
            intro u G w hf S
            simp only [resOf, spec, RSpec.resAt, z0, z1, z2, z3, z4, z5, z6, z7, ptrBlk] at S ⊢
            simp only [does]
            go_simp
            try first | exact S | exact ⟨vv, S⟩ | exact vv
          · clear hi
            refine step_of rfl rfl rfl ?_
            intro u G w hf S
            have f4 : u 4 = .pointer (some ⟨g6, 33, none⟩) := hf 4 (by simp)
            simp only [resOf, spec, RSpec.resAt, z0, z1, z2, z3, z4, z5, z6, z7, ptrBlk] at S ⊢
            simp only [f4]
            refine does_load1 31 (.tmp 187) _ _ rfl (S.cell (g := g6) pk co) _ Tryd.underlying31 rfl ?_; exact ⟨rfl, S⟩
          · clear hi
            refine step_of rfl rfl rfl ?_
            intro u G w hf S
            simp only [resOf, spec, RSpec.resAt, z0, z1, z2, z3, z4, z5, z6, z7, ptrBlk] at S ⊢
            simp only [does]
            go_simp
            try first | exact S | exact ⟨vv, S⟩ | exact vv
          · clear hi
            refine step_of rfl rfl rfl ?_
            intro u G w hf S
            simp only [resOf, spec, RSpec.resAt, z0, z1, z2, z3, z4, z5, z6, z7, ptrBlk] at S ⊢
            simp only [does]
            go_simp
            try first | exact S | exact ⟨vv, S⟩ | exact vv
          · clear hi
            refine step_of rfl rfl rfl ?_
            intro u G w hf S
            have f6 : u 6 = (.slice a8 M c8) := hf 6 (by simp)
            have f7 : u 7 = (.int .i64 (lo : Int)) := hf 7 (by simp)
            simp only [resOf, spec, RSpec.resAt, z0, z1, z2, z3, z4, z5, z6, z7, ptrBlk] at S ⊢
            simp only [f6, f7]
            refine does_cutL 32 25 1 (.tmp 189) (.tmp 190) a8 M c8 .i64 _ lo rfl rfl rfl HLOM.out Tryd.underlying32 kR ?_; exact ⟨rfl, S⟩
          · clear hi
            refine step_of rfl rfl rfl ?_
            intro u G w hf S
            have f3 : u 3 = .agg (arr8 L) := hf 3 (by simp)
            have f5 : u 5 = .slice ag LQ.recs.length cg := hf 5 (by simp)
            have f8 : u 8 = .slice (cutA a8 c8 lo 1) (M - lo) (c8 - lo) := hf 8 (by simp)
            simp only [resOf, spec, RSpec.resAt, z0, z1, z2, z3, z4, z5, z6, z7, ptrBlk] at S ⊢
            simp only [f3, f5, f8]
            refine does_fn (args := [(.agg (arr8 L)), (.slice ag LQ.recs.length cg), (.slice (cutA a8 c8 lo 1) (M - lo) (c8 - lo))]) Tryd.func18 kR kR (PV.out _ w (S.sl (v := .slice ag LQ.recs.length cg) pk) ⟨HCUTP.out w (S.sl (v := .slice a8 M c8) pk), fun p hp => S.oldB (HPD.out p hp)⟩ kT) rfl ?_
            rintro e w1 ⟨rfl, T⟩
            exact ⟨_, rfl, rfl, S.call T⟩
          · clear hi
            refine step_of rfl rfl rfl ?_
            intro u G w hf S
            have f9 : u 9 = .tuple #[.int .i64 (LQ.recs.length : Int), .int .i64 0] := hf 9 (by simp)
            simp only [resOf, spec, RSpec.resAt, z0, z1, z2, z3, z4, z5, z6, z7, ptrBlk] at S ⊢
            simp only [f9]
            simp only [does]
            go_simp
            try first | exact S | exact ⟨vv, S⟩ | exact vv
          · clear hi
            refine step_of rfl rfl rfl ?_
            intro u G w hf S
            have f10 : u 10 = (.tuple #[.int .i64 (LQ.recs.length : Int), .int .i64 0]) := hf 10 (by simp)
            simp only [resOf, spec, RSpec.resAt, z0, z1, z2, z3, z4, z5, z6, z7, ptrBlk] at S ⊢
            simp only [f10]
            simp only [does]
            go_simp
            try first | exact S | exact ⟨vv, S⟩ | exact vv
          · clear hi
            refine step_of rfl rfl rfl ?_
            intro u G w hf S
            have f10 : u 10 = (.tuple #[.int .i64 (LQ.recs.length : Int), .int .i64 0]) := hf 10 (by simp)
            simp only [resOf, spec, RSpec.resAt, z0, z1, z2, z3, z4, z5, z6, z7, ptrBlk] at S ⊢
            simp only [f10]
            simp only [does]
            go_simp
            try first | exact S | exact ⟨vv, S⟩ | exact vv
          · clear hi
            refine step_of rfl rfl rfl ?_
            intro u G w hf S
            have f11 : u 11 = .int .i64 (LQ.recs.length : Int) := hf 11 (by simp)
            simp only [resOf, spec, RSpec.resAt, z0, z1, z2, z3, z4, z5, z6, z7, ptrBlk] at S ⊢
            simp only [f11]
            simp only [does]
            go_simp
            try first | exact S | exact ⟨vv, S⟩ | exact vv
          · clear hi
            refine step_of rfl rfl rfl ?_
            intro u G w hf S
            have f12 : u 12 = .int .i64 0 := hf 12 (by simp)
            simp only [resOf, spec, RSpec.resAt, z0, z1, z2, z3, z4, z5, z6, z7, ptrBlk] at S ⊢
            simp only [f12]
            simp only [does]
            go_simp
            try first | exact S | exact ⟨vv, S⟩ | exact vv
        case fin5 =>
          intro u w hf S
          have f0 : u 0 = (.slice (some ⟨g9, 0, none⟩) KS.length c9) := hf 0 (by simp)
          have f1 : u 1 = (.int .i64 (lo : Int)) := hf 1 (by simp)
          have f2 : u 2 = .pointer (some ⟨g9, lo * 32, none⟩) := hf 2 (by simp)
          have f3 : u 3 = .agg (arr8 L) := hf 3 (by simp)
          have f4 : u 4 = .pointer (some ⟨g6, 33, none⟩) := hf 4 (by simp)
          have f5 : u 5 = .slice ag LQ.recs.length cg := hf 5 (by simp)
          have f6 : u 6 = (.slice a8 M c8) := hf 6 (by simp)
          have f7 : u 7 = (.int .i64 (lo : Int)) := hf 7 (by simp)
          have f8 : u 8 = .slice (cutA a8 c8 lo 1) (M - lo) (c8 - lo) := hf 8 (by simp)
          have f9 : u 9 = .tuple #[.int .i64 (LQ.recs.length : Int), .int .i64 0] := hf 9 (by simp)
          have f10 : u 10 = (.tuple #[.int .i64 (LQ.recs.length : Int), .int .i64 0]) := hf 10 (by simp)
          have f11 : u 11 = .int .i64 (LQ.recs.length : Int) := hf 11 (by simp)
          have f12 : u 12 = .int .i64 0 := hf 12 (by simp)
          have f13 : u 13 = (.int .i64 (LQ.recs.length : Int)) := hf 13 (by simp)
          have f14 : u 14 = (.int .i64 0) := hf 14 (by simp)
          simp only [resOf, spec, RSpec.resAt, z0, z1, z2, z3, z4, z5, z6, z7, ptrBlk] at S
          clear hf
          simp only [List.length_cons, List.length_nil, Nat.zero_add, Nat.reduceAdd, List.drop_succ_cons, List.drop_zero, f0, f1, f2, f3, f4, f5, f6, f7, f8, f9, f10, f11, f12, f13, f14]
          clear f0 f1 f2 f3 f4 f5 f6 f7 f8 f9 f10 f11 f12 f13 f14
          clear hlk3 hlk4
          have pn := fun w h => since_s LQ (.slice ag LQ.recs.length cg) first w h
          rw [HLGV.out] at pn
          have hsn := HSN.out
          obtain ⟨R, hR⟩ : ∃ R, R = sinceR LQ first := ⟨_, rfl⟩
          rw [← hR] at pn hsn
          have hf32 := first.toNat_lt
          have hM2 := HM200.out
          have f1 : IntKind.u64.wrap (first.toNat : Int) = (first.toNat : Int) := by rw [IntKind.wrap_u64]; omega
          have f2 : IntKind.u64.wrap (M : Int) = (M : Int) := by rw [IntKind.wrap_u64]; omega
          have f3 : IntKind.i64.wrap (first.toNat : Int) = (first.toNat : Int) := by rw [IntKind.wrap_i64]; omega
          have ps2 := fun v1 v2 w h1 h2 => sameRecords_s v1 v2 R w h1 h2
          obtain ⟨wn, hwn⟩ : ∃ wn, wn = if first.toNat < M then max first.toNat lo else M := ⟨_, rfl⟩
          have hwnM : wn ≤ M := by have := HLOM.out; rw [hwn]; split <;> omega
          rw [← hwn] at hsn
          have hcutW : ∀ w, Sl w 35 (.slice a7 M c7) M (A.flatMap rcdL) → Sl w 35 (.slice (cutA a7 c7 wn 35) (M - wn) (c7 - wn)) R.length (R.flatMap rcdL) := fun w h => by
            have := h.cut wn (M - wn) (by omega)
            rw [drop_flat rcdL 35 rcdL_length, ← hsn, List.take_of_length_le (by rw [flat_len rcdL 35 rcdL_length, hsn, List.length_drop, ← HM0.out]; exact Nat.le_refl _)] at this
            rw [show R.length = M - wn by rw [hsn, List.length_drop, ← HM0.out]]
            exact this
          clear hR hsn hf32 hM2
          by_cases hfm : first.toNat < M
          · rw [if_pos hfm] at hwn
            have j1 : (first.toNat : Int) < (M : Int) := by omega
            have hmx : (if first.toNat < lo then (lo : Int) else (first.toNat : Int)) = (wn : Int) := by rw [hwn]; split <;> omega
            clear hwn hfm
            have PN := Lib.hid pn; have PS2 := Lib.hid ps2; have HWNM := Lib.hid hwnM; have HCUTW := Lib.hid hcutW; have HMX := Lib.hid hmx; clear pn ps2 hwnM hcutW hmx
            go_upto_region 32 with (first | ((with_reducible refine iD 6 (.alloc 40) ?_); refine step_alloc (dst := some 6) S 40 (.agg ((lgL lgZ (.slice none 0 0)).toArray)) ((lgL lgZ (.slice none 0 0)).toArray) kR rfl gw ?_; clear S; intro g6 w S) | ((with_reducible refine iO none (.store 40 (.tmp 6) (.tmp 25)) ?_); refine step_store S 40 (.tmp 6) (.tmp 25) _ _ rfl rfl _ _ pk 34 kR lN lN on1 gw ?_; clear S; intro w S) | ((with_reducible refine iO _ (.load 40 _) ?_); first | (refine step_load S 40 _ _ rfl _ _ _ pk _ Tryd.underlying40 rfl 34 kR lN gw ?_) | (refine step_loadO 40 _ _ rfl _ _ _ (S.old_heap (Hid.out (by assumption))) _ Tryd.underlying40 rfl 34 kR lN gw ?_) | (refine step_loadR 40 _ _ _ rfl _ (S.old_range hy) _ Tryd.underlying40 rfl 34 kR lN _ rfl gw ?_)) | ((with_reducible refine iO _ (.load 23 _) ?_); refine step_load1 23 _ _ _ rfl (cL) _ Tryd.underlying23 rfl gw ?_) | ((with_reducible refine iO _ (.load 5 _) ?_); refine step_load1 5 _ _ _ rfl (cL) _ Tryd.underlying5 rfl gw ?_) | ((with_reducible refine iO _ (.load 80 _) ?_); refine step_load1 80 _ _ _ rfl (cL) _ Tryd.underlying80 rfl gw ?_) | ((with_reducible refine iO _ (.load 25 _) ?_); refine step_load1 25 _ _ _ rfl (cL) _ Tryd.underlying25 rfl gw ?_) | ((with_reducible refine iD 11 (.alloc 40) ?_); refine step_alloc (dst := some 11) S 40 (.agg ((lgL lgZ (.slice none 0 0)).toArray)) ((lgL lgZ (.slice none 0 0)).toArray) kR rfl gw ?_; clear S; intro g11 w S) | ((with_reducible refine iO none (.store 40 (.tmp 11) (.tmp 58)) ?_); refine step_store S 40 (.tmp 11) (.tmp 58) _ _ rfl rfl _ _ pk 34 kR lN lN on1 gw ?_; clear S; intro w S) | ((with_reducible refine iO _ (.load 22 _) ?_); first | (refine step_loadR 22 _ _ _ rfl _ (S.old_range hy) _ Tryd.underlying22 rfl 32 kR lN _ rfl gw ?_) | (refine step_loadP S 22 _ _ _ rfl _ _ _ pk 32 _ pT lN _ Tryd.underlying22 rfl kR gw ?_)) | ((with_reducible refine iD 13 (.alloc 22) ?_); refine step_alloc (dst := some 13) S 22 (.agg (arr8 (List.replicate 32 0))) (arr8 (List.replicate 32 0)) kR rfl gw ?_; clear S; intro g13 w S) | ((with_reducible refine iO none (.store 22 (.tmp 13) (.tmp 110)) ?_); refine step_store S 22 (.tmp 13) (.tmp 110) _ _ rfl rfl _ _ pk 32 kR lN lN on1 gw ?_; clear S; intro w S) | ((with_reducible refine iO _ (.load 22 _) ?_); first | (refine step_load S 22 _ _ rfl _ _ _ pk _ Tryd.underlying22 rfl 32 kR lN gw ?_) | (refine step_loadO 22 _ _ rfl _ _ _ (S.old_heap (Hid.out (by assumption))) _ Tryd.underlying22 rfl 32 kR lN gw ?_) | (refine step_loadR 22 _ _ _ rfl _ (S.old_range hy) _ Tryd.underlying22 rfl 32 kR lN _ rfl gw ?_)) | ((with_reducible refine iO none (.store 40 (.tmp 6) (.tmp 162)) ?_); refine step_store S 40 (.tmp 6) (.tmp 162) _ _ rfl rfl _ _ pk 34 kR lN lN on1 gw ?_; clear S; intro w S) | ((with_reducible refine iO _ (.load 38 _) ?_); refine step_load1 38 _ _ _ rfl (cL) _ Tryd.underlying38 rfl gw ?_) | ((with_reducible refine iO _ (.load 31 _) ?_); refine step_load1 31 _ _ _ rfl (cL) _ Tryd.underlying31 rfl gw ?_) | ((with_reducible refine iO _ (.slice 31 _ _ _ _) ?_); refine step_cutL 31 50 35 _ _ _ _ _ _ _ _ rfl rfl (by first | rfl | omega) (by first | (first | omega | assumption | (exact Hid.out (by assumption)) | (simp only [List.length_append, List.length_cons, List.length_nil]; omega)) | decide) Tryd.underlying31 kR gw ?_) | ((with_reducible refine iO _ (.slice 32 _ _ _ _) ?_); refine step_cutL 32 25 1 _ _ _ _ _ _ _ _ rfl rfl (by first | rfl | omega) (by first | (first | omega | assumption | (exact Hid.out (by assumption)) | (simp only [List.length_append, List.length_cons, List.length_nil]; omega)) | decide) Tryd.underlying32 kR gw ?_) | (go_at_call 26; (with_reducible refine (PN.out _ (S.sl (v := .slice ag LQ.recs.length cg) pk)).mono ?_); rintro e w1 ⟨v207, rfl, T⟩; replace S := S.call T; clear T; (try simp only [z4, z5] at S)) | fail)
            rw [HMX.out]
            go_wp2_with (first | ((with_reducible refine iD 230 (.slice 31 _ _ _ _) ?_); refine step_cutL 31 50 35 (.tmp 228) (.tmp 229) a7 M c7 _ _ wn rfl rfl rfl HWNM.out Tryd.underlying31 kR gw ?_) | ((with_reducible refine iD 6 (.alloc 40) ?_); refine step_alloc (dst := some 6) S 40 (.agg ((lgL lgZ (.slice none 0 0)).toArray)) ((lgL lgZ (.slice none 0 0)).toArray) kR rfl gw ?_; clear S; intro g6 w S) | ((with_reducible refine iO none (.store 40 (.tmp 6) (.tmp 25)) ?_); refine step_store S 40 (.tmp 6) (.tmp 25) _ _ rfl rfl _ _ pk 34 kR lN lN on1 gw ?_; clear S; intro w S) | ((with_reducible refine iO _ (.load 40 _) ?_); first | (refine step_load S 40 _ _ rfl _ _ _ pk _ Tryd.underlying40 rfl 34 kR lN gw ?_) | (refine step_loadO 40 _ _ rfl _ _ _ (S.old_heap (Hid.out (by assumption))) _ Tryd.underlying40 rfl 34 kR lN gw ?_) | (refine step_loadR 40 _ _ _ rfl _ (S.old_range hy) _ Tryd.underlying40 rfl 34 kR lN _ rfl gw ?_)) | ((with_reducible refine iO _ (.load 23 _) ?_); refine step_load1 23 _ _ _ rfl (cL) _ Tryd.underlying23 rfl gw ?_) | ((with_reducible refine iO _ (.load 5 _) ?_); refine step_load1 5 _ _ _ rfl (cL) _ Tryd.underlying5 rfl gw ?_) | ((with_reducible refine iO _ (.load 80 _) ?_); refine step_load1 80 _ _ _ rfl (cL) _ Tryd.underlying80 rfl gw ?_) | ((with_reducible refine iO _ (.load 25 _) ?_); refine step_load1 25 _ _ _ rfl (cL) _ Tryd.underlying25 rfl gw ?_) | ((with_reducible refine iD 11 (.alloc 40) ?_); refine step_alloc (dst := some 11) S 40 (.agg ((lgL lgZ (.slice none 0 0)).toArray)) ((lgL lgZ (.slice none 0 0)).toArray) kR rfl gw ?_; clear S; intro g11 w S) | ((with_reducible refine iO none (.store 40 (.tmp 11) (.tmp 58)) ?_); refine step_store S 40 (.tmp 11) (.tmp 58) _ _ rfl rfl _ _ pk 34 kR lN lN on1 gw ?_; clear S; intro w S) | ((with_reducible refine iO _ (.load 22 _) ?_); first | (refine step_loadR 22 _ _ _ rfl _ (S.old_range hy) _ Tryd.underlying22 rfl 32 kR lN _ rfl gw ?_) | (refine step_loadP S 22 _ _ _ rfl _ _ _ pk 32 _ pT lN _ Tryd.underlying22 rfl kR gw ?_)) | ((with_reducible refine iD 13 (.alloc 22) ?_); refine step_alloc (dst := some 13) S 22 (.agg (arr8 (List.replicate 32 0))) (arr8 (List.replicate 32 0)) kR rfl gw ?_; clear S; intro g13 w S) | ((with_reducible refine iO none (.store 22 (.tmp 13) (.tmp 110)) ?_); refine step_store S 22 (.tmp 13) (.tmp 110) _ _ rfl rfl _ _ pk 32 kR lN lN on1 gw ?_; clear S; intro w S) | ((with_reducible refine iO _ (.load 22 _) ?_); first | (refine step_load S 22 _ _ rfl _ _ _ pk _ Tryd.underlying22 rfl 32 kR lN gw ?_) | (refine step_loadO 22 _ _ rfl _ _ _ (S.old_heap (Hid.out (by assumption))) _ Tryd.underlying22 rfl 32 kR lN gw ?_) | (refine step_loadR 22 _ _ _ rfl _ (S.old_range hy) _ Tryd.underlying22 rfl 32 kR lN _ rfl gw ?_)) | ((with_reducible refine iO none (.store 40 (.tmp 6) (.tmp 162)) ?_); refine step_store S 40 (.tmp 6) (.tmp 162) _ _ rfl rfl _ _ pk 34 kR lN lN on1 gw ?_; clear S; intro w S) | ((with_reducible refine iO _ (.load 38 _) ?_); refine step_load1 38 _ _ _ rfl (cL) _ Tryd.underlying38 rfl gw ?_) | ((with_reducible refine iO _ (.load 31 _) ?_); refine step_load1 31 _ _ _ rfl (cL) _ Tryd.underlying31 rfl gw ?_) | ((with_reducible refine iO _ (.slice 31 _ _ _ _) ?_); refine step_cutL 31 50 35 _ _ _ _ _ _ _ _ rfl rfl (by first | rfl | omega) (by first | (first | omega | assumption | (exact Hid.out (by assumption)) | (simp only [List.length_append, List.length_cons, List.length_nil]; omega)) | decide) Tryd.underlying31 kR gw ?_) | (go_at_call 28; (with_reducible refine (PS2.out _ _ _ (S.sl (v := v207) (xs := R.flatMap rcdL) pk) (HCUTW.out _ (S.sl (v := .slice a7 M c7) (xs := A.flatMap rcdL) pk))).mono ?_); rintro e w1 ⟨rfl, T⟩; replace S := S.call T; clear T; (try simp only [z4, z5] at S)) | ((with_reducible refine iO _ (.slice 32 _ _ _ _) ?_); refine step_cutL 32 25 1 _ _ _ _ _ _ _ _ rfl rfl (by first | rfl | omega) (by first | (first | omega | assumption | (exact Hid.out (by assumption)) | (simp only [List.length_append, List.length_cons, List.length_nil]; omega)) | decide) Tryd.underlying32 kR gw ?_) | fail)
            go_ret
            exact ⟨rfl, S.nil⟩
          · rw [if_neg hfm] at hwn
            have j1 : ¬ (first.toNat : Int) < (M : Int) := by omega
            clear hfm
            have PN := Lib.hid pn; have PS2 := Lib.hid ps2; have HWNM := Lib.hid hwnM; have HCUTW := Lib.hid hcutW; have HWN := Lib.hid hwn; clear pn ps2 hwnM hcutW hwn
            go_wp2_with (first | ((with_reducible refine iD 230 (.slice 31 _ _ _ _) ?_); refine step_cutL 31 50 35 (.tmp 228) (.tmp 229) a7 M c7 _ _ wn rfl rfl (by rw [HWN.out]) HWNM.out Tryd.underlying31 kR gw ?_) | ((with_reducible refine iD 6 (.alloc 40) ?_); refine step_alloc (dst := some 6) S 40 (.agg ((lgL lgZ (.slice none 0 0)).toArray)) ((lgL lgZ (.slice none 0 0)).toArray) kR rfl gw ?_; clear S; intro g6 w S) | ((with_reducible refine iO none (.store 40 (.tmp 6) (.tmp 25)) ?_); refine step_store S 40 (.tmp 6) (.tmp 25) _ _ rfl rfl _ _ pk 34 kR lN lN on1 gw ?_; clear S; intro w S) | ((with_reducible refine iO _ (.load 40 _) ?_); first | (refine step_load S 40 _ _ rfl _ _ _ pk _ Tryd.underlying40 rfl 34 kR lN gw ?_) | (refine step_loadO 40 _ _ rfl _ _ _ (S.old_heap (Hid.out (by assumption))) _ Tryd.underlying40 rfl 34 kR lN gw ?_) | (refine step_loadR 40 _ _ _ rfl _ (S.old_range hy) _ Tryd.underlying40 rfl 34 kR lN _ rfl gw ?_)) | ((with_reducible refine iO _ (.load 23 _) ?_); refine step_load1 23 _ _ _ rfl (cL) _ Tryd.underlying23 rfl gw ?_) | ((with_reducible refine iO _ (.load 5 _) ?_); refine step_load1 5 _ _ _ rfl (cL) _ Tryd.underlying5 rfl gw ?_) | ((with_reducible refine iO _ (.load 80 _) ?_); refine step_load1 80 _ _ _ rfl (cL) _ Tryd.underlying80 rfl gw ?_) | ((with_reducible refine iO _ (.load 25 _) ?_); refine step_load1 25 _ _ _ rfl (cL) _ Tryd.underlying25 rfl gw ?_) | ((with_reducible refine iD 11 (.alloc 40) ?_); refine step_alloc (dst := some 11) S 40 (.agg ((lgL lgZ (.slice none 0 0)).toArray)) ((lgL lgZ (.slice none 0 0)).toArray) kR rfl gw ?_; clear S; intro g11 w S) | ((with_reducible refine iO none (.store 40 (.tmp 11) (.tmp 58)) ?_); refine step_store S 40 (.tmp 11) (.tmp 58) _ _ rfl rfl _ _ pk 34 kR lN lN on1 gw ?_; clear S; intro w S) | ((with_reducible refine iO _ (.load 22 _) ?_); first | (refine step_loadR 22 _ _ _ rfl _ (S.old_range hy) _ Tryd.underlying22 rfl 32 kR lN _ rfl gw ?_) | (refine step_loadP S 22 _ _ _ rfl _ _ _ pk 32 _ pT lN _ Tryd.underlying22 rfl kR gw ?_)) | ((with_reducible refine iD 13 (.alloc 22) ?_); refine step_alloc (dst := some 13) S 22 (.agg (arr8 (List.replicate 32 0))) (arr8 (List.replicate 32 0)) kR rfl gw ?_; clear S; intro g13 w S) | ((with_reducible refine iO none (.store 22 (.tmp 13) (.tmp 110)) ?_); refine step_store S 22 (.tmp 13) (.tmp 110) _ _ rfl rfl _ _ pk 32 kR lN lN on1 gw ?_; clear S; intro w S) | ((with_reducible refine iO _ (.load 22 _) ?_); first | (refine step_load S 22 _ _ rfl _ _ _ pk _ Tryd.underlying22 rfl 32 kR lN gw ?_) | (refine step_loadO 22 _ _ rfl _ _ _ (S.old_heap (Hid.out (by assumption))) _ Tryd.underlying22 rfl 32 kR lN gw ?_) | (refine step_loadR 22 _ _ _ rfl _ (S.old_range hy) _ Tryd.underlying22 rfl 32 kR lN _ rfl gw ?_)) | ((with_reducible refine iO none (.store 40 (.tmp 6) (.tmp 162)) ?_); refine step_store S 40 (.tmp 6) (.tmp 162) _ _ rfl rfl _ _ pk 34 kR lN lN on1 gw ?_; clear S; intro w S) | ((with_reducible refine iO _ (.load 38 _) ?_); refine step_load1 38 _ _ _ rfl (cL) _ Tryd.underlying38 rfl gw ?_) | ((with_reducible refine iO _ (.load 31 _) ?_); refine step_load1 31 _ _ _ rfl (cL) _ Tryd.underlying31 rfl gw ?_) | ((with_reducible refine iO _ (.slice 31 _ _ _ _) ?_); refine step_cutL 31 50 35 _ _ _ _ _ _ _ _ rfl rfl (by first | rfl | omega) (by first | (first | omega | assumption | (exact Hid.out (by assumption)) | (simp only [List.length_append, List.length_cons, List.length_nil]; omega)) | decide) Tryd.underlying31 kR gw ?_) | (go_at_call 28; (with_reducible refine (PS2.out _ _ _ (S.sl (v := v207) (xs := R.flatMap rcdL) pk) (HCUTW.out _ (S.sl (v := .slice a7 M c7) (xs := A.flatMap rcdL) pk))).mono ?_); rintro e w1 ⟨rfl, T⟩; replace S := S.call T; clear T; (try simp only [z4, z5] at S)) | ((with_reducible refine iO _ (.slice 32 _ _ _ _) ?_); refine step_cutL 32 25 1 _ _ _ _ _ _ _ _ rfl rfl (by first | rfl | omega) (by first | (first | omega | assumption | (exact Hid.out (by assumption)) | (simp only [List.length_append, List.length_cons, List.length_nil]; omega)) | decide) Tryd.underlying32 kR gw ?_) | (go_at_call 26; (with_reducible refine (PN.out _ (S.sl (v := .slice ag LQ.recs.length cg) pk)).mono ?_); rintro e w1 ⟨v207, rfl, T⟩; replace S := S.call T; clear T; (try simp only [z4, z5] at S)) | fail)
            go_ret
            exact ⟨rfl, S.nil⟩
end Go.Proofs.YtfhkmmagpnojmaaDoor
