/- WireFull's walk. No condition but the table of constants and the reach. -/
import Derived.Test.YtfhkmmagpnojmaaDoorBd
import Derived.Test.YtfhkmmagpnojmaaDoorAlv7
import Derived.Test.YtfhkmmagpnojmaaDoorLnkR
import Derived.Test.YtfhkmmagpnojmaaDoorLgS
import Derived.Test.YtfhkmmagpnojmaaDoorLgR
set_option linter.unusedSimpArgs false
set_option linter.unusedVariables false
namespace Go.Proofs.YtfhkmmagpnojmaaDoor
open Go.RowKit

theorem lgV_apR (g : Lg) (t : UInt64) (k : UInt8) (c : I64) (b : List UInt8) (G : Lg) (D : List UInt8) (x : Rcd) (ok : ApOk g t k c b G D x) (hv : lgV g = true) (ht : t.toNat ≤ 4611686018427387904) (hk : k.toNat ≤ 6) : lgE G = 0 := by
  obtain ⟨h1, h2, _⟩ := lgV_parts g hv
  have hl : (keepR g.recs).length = g.recs.length - (g.recs.length + 1 - 32) := by simp [keepR]
  have hx : rcdV x = true := by unfold rcdV; rw [ok.x0, ok.x1, ok.x2, decide_eq_true ⟨ht, hk, ok.c0, ok.c1⟩]
  have hm : G.recs.length = (keepR g.recs).length + 1 := by rw [ok.g2]; simp
  have hc := ok.g0
  have hlen : G.recs.length = min G.cnt.toNat 32 := by omega
  have hch : chV G.recs = true := (chV_iff _).2 ⟨by omega, fun y hy => by
    rw [ok.g2] at hy
    rcases List.mem_append.1 hy with h | h
    · exact h2 y (List.mem_of_mem_drop h)
    · rw [List.mem_singleton.1 h]; exact hx⟩
  have hlast : G.link = lastK G.recs := by
    rw [lastK_at G.recs (keepR g.recs).length x hm (by rw [ok.g2]; simp), ok.x3, ok.g1]
  have : lgV G = true := by unfold lgV; rw [decide_eq_true hlen, hch, decide_eq_true hlast]; rfl
  unfold lgE
  rw [if_pos this]

theorem Sl.cutH0 {w : World} {a : Option Addr} {m c : Nat} {KK : List Rcd} {x : Rcd} (h : Sl w 35 (.slice a (m + 1) c) (m + 1) ((KK ++ [x]).flatMap rcdL)) (hm : m = KK.length) : Sl w 35 (.slice (cutA a c 0 35) m c) m (KK.flatMap rcdL) := by
  have h2 := h.cut 0 m (by omega)
  simp only [Nat.zero_mul, List.drop_zero, Nat.sub_zero, List.flatMap_append] at h2
  rw [List.take_left' (by rw [flat_len rcdL 35 rcdL_length, hm])] at h2
  exact h2
theorem Sl.relog {w : World} {v : Value} {m n : Nat} {KK l : List Rcd} (h : Sl w 35 v m (KK.flatMap rcdL)) (hn : n = m) (hl : l = KK) : Sl w 35 v n (l.flatMap rcdL) := by rw [hn, hl]; exact h
theorem rcdL_0' (x : Rcd) : (rcdL x)[0]? = some (.int .u64 (x.tick.toNat : Int)) := rfl
theorem rcdL_1' (x : Rcd) : (rcdL x)[1]? = some (.int .u8 (x.kind.toNat : Int)) := rfl
theorem rcdL_2' (x : Rcd) : (rcdL x)[2]? = some (.int .i64 x.code.v) := rfl
set_option maxRecDepth 100000 in
set_option maxHeartbeats 8000000 in
theorem wireFull_walk (g : Lg) (rv : Value) (t : UInt64) (k : UInt8) (c : Nat) (hc : c < 65536) (bv : Value) (b : List UInt8) (w0 : World) (hr : Sl w0 35 rv g.recs.length (g.recs.flatMap rcdL)) (hb : Bs w0 bv b) (hK : KT w0) (hl : b.length ≤ 140737488351232) :
    Calls Tryd.prog 13 #[.agg (lgL g rv).toArray, .int .u64 (t.toNat : Int), by8 k, .int .u16 (c : Int), bv] w0 fun e w' => e = .returned (.bool true) ∧ Has w0 w' [] := by
  have S := Has.start w0
  obtain ⟨a0, c0, rfl, k1, k2⟩ := Sl.shape hr
  obtain ⟨a1, c1, rfl, k3, k4⟩ := Sl.shape hb
  unfold maxLen at k2 k4
  obtain ⟨C, hC⟩ : ∃ C : I64, C.v = (c : Int) := ⟨⟨c, by omega⟩, rfl⟩
  have p1 := fun w h1 h2 h3 => append_s g (.slice a0 g.recs.length c0) t k C (.slice a1 b.length c1) b w h1 h2 h3 hl
  rw [hC] at p1
  have pa := fun w h => alive_s w h
  have pv := fun w h => refValidLog_s g (.slice a0 g.recs.length c0) w h
  have q0 := lgL_0 g (.slice a0 g.recs.length c0)
  have q33 := lgL_33 g (.slice a0 g.recs.length c0)
  have e1 : IntKind.i64.wrap (c : Int) = c := by rw [IntKind.wrap_i64]; omega
  have hvd : lkV t k C = decide (t.toNat ≤ 4611686018427387904 ∧ k.toNat ≤ 6 ∧ 0 ≤ C.v ∧ C.v ≤ 65535) := rfl
  cases hv : lgV g
  · have hE : apE g t k C b.length = 8 := if_pos hv
    have hR : apR g t k C b = lgZ := if_neg (by rw [hE]; decide)
    rw [hv] at pv
    rw [hE, hR] at p1
    have P1 := Lib.hid p1; have PA := Lib.hid pa; have PV := Lib.hid pv; have HR := Lib.hid hr; have HB := Lib.hid hb; have HK := Lib.hid hK; have Q0 := Lib.hid q0; have Q33 := Lib.hid q33; clear p1 pa pv hr hb hK q0 q33
    clear hE hR hv hvd hC hc
    go_enter Tryd.func13, Tryd.ntmps13
    go_wp2_with (first | ((with_reducible refine iO none (.store 40 (.tmp 12) (.tmp 25)) ?_); refine step_store S 40 (.tmp 12) (.tmp 25) g12 _ rfl rfl _ _ pk 34 kR (lgL_size _ _) (lgL_size _ _) (lgL_one _ _ (one_sl (S.sl (v := v25) pk)).1) gw ?_; clear S; intro w S) | ((with_reducible refine iD 5 (.box 40 (.tmp 0)) ?_); refine step_boxA (dst := some 5) S 40 (.tmp 0) _ rfl gw ?_; clear S; intro g5 w S) | (go_at_call 29; (with_reducible refine (PA.out _ kT).mono ?_); rintro e w1 ⟨rfl, T⟩; replace S := S.call T; clear T; (try simp only [z4, z5] at S)) | ((with_reducible refine iO _ (.load 40 _) ?_); first | (refine step_load S 40 _ _ rfl _ _ _ pk _ Tryd.underlying40 rfl 34 kR lN gw ?_) | (refine step_loadO 40 _ _ rfl _ _ _ (S.old_heap (Hid.out (by assumption))) _ Tryd.underlying40 rfl 34 kR lN gw ?_) | (refine step_loadR 40 _ _ _ rfl _ (S.old_range hy) _ Tryd.underlying40 rfl 34 kR lN _ rfl gw ?_)) | (go_at_call 21; (with_reducible refine (P1.out _ (S.old HR.out) (S.oldB HB.out) kT).mono ?_); rintro e w1 ⟨v25, rfl, T⟩; replace S := S.call T; clear T; (try simp only [z4, z5] at S)) | ((with_reducible refine iD 12 (.alloc 40) ?_); refine step_alloc (dst := some 12) S 40 (.agg ((lgL lgZ (.slice none 0 0)).toArray)) ((lgL lgZ (.slice none 0 0)).toArray) kR rfl gw ?_; clear S; intro g12 w S) | ((with_reducible refine iO none (.store 40 (.tmp 12) (.tmp 25)) ?_); refine step_store S 40 (.tmp 12) (.tmp 25) _ _ rfl rfl _ _ pk 34 kR lN lN on1 gw ?_; clear S; intro w S) | (go_at_call 45; (with_reducible refine (PV.out _ (S.old HR.out)).mono ?_); rintro e w1 ⟨rfl, T⟩; replace S := S.call T; clear T; (try simp only [z4, z5] at S)) | ((with_reducible refine iO _ (.load 38 _) ?_); refine step_load1 38 _ _ _ rfl (cL) _ Tryd.underlying38 rfl gw ?_) | ((with_reducible refine iO _ (.load 31 _) ?_); refine step_load1 31 _ _ _ rfl (cL) _ Tryd.underlying31 rfl gw ?_) | ((with_reducible refine iO _ (.slice 31 _ _ _ _) ?_); refine step_cutL 31 50 35 _ _ _ _ _ _ _ _ rfl rfl (by first | rfl | omega) (by first | (first | omega | assumption | (exact Hid.out (by assumption)) | (simp only [List.length_append, List.length_cons, List.length_nil]; omega)) | decide) Tryd.underlying31 kR gw ?_) | ((with_reducible refine iO _ (.slice 31 _ _ _ _) ?_); refine step_cutH 31 50 35 _ _ _ _ _ _ _ _ rfl rfl (by first | rfl | omega) (by first | (first | omega | assumption | (exact Hid.out (by assumption)) | (simp only [List.length_append, List.length_cons, List.length_nil]; omega)) | decide) Tryd.underlying31 kR gw ?_) | ((with_reducible refine iO _ (.load 23 _) ?_); refine step_load1 23 _ _ _ rfl (cL) _ Tryd.underlying23 rfl gw ?_) | ((with_reducible refine iO _ (.load 5 _) ?_); refine step_load1 5 _ _ _ rfl (cL) _ Tryd.underlying5 rfl gw ?_) | ((with_reducible refine iO _ (.load 24 _) ?_); refine step_load1 24 _ _ _ rfl (cL) _ Tryd.underlying24 rfl gw ?_) | fail)
    go_ret
    exact ⟨rfl, S.nil⟩
  rw [hv] at pv
  have hA0 : apE g t k C b.length = if lnkE t k C b.length ≠ 0 then lnkE t k C b.length else if g.cnt.toNat = 4294967295 then 9 else 0 := if_neg (by rw [hv]; decide)
  cases hlk : lkV t k C
  · have hE0 : lnkE t k C b.length = 2 := if_pos hlk
    have hE : apE g t k C b.length = 2 := by rw [hA0, hE0]; rfl
    have hR : apR g t k C b = lgZ := if_neg (by rw [hE]; decide)
    rw [hE, hR] at p1
    rw [hlk] at hvd
    have hn := of_decide_eq_false hvd.symm
    rw [hC] at hn
    by_cases h1 : t.toNat ≤ 4611686018427387904
    · have i1 : ¬ (4611686018427387904 : Int) < (t.toNat : Int) := by omega
      have i2 : (6 : Int) < (k.toNat : Int) := by omega
      have P1 := Lib.hid p1; have PA := Lib.hid pa; have PV := Lib.hid pv; have HR := Lib.hid hr; have HB := Lib.hid hb; have HK := Lib.hid hK; have Q0 := Lib.hid q0; have Q33 := Lib.hid q33; clear p1 pa pv hr hb hK q0 q33
      clear hE0 hE hA0 hR hv hvd hn hC hc hlk
      go_enter Tryd.func13, Tryd.ntmps13
      go_wp2_with (first | ((with_reducible refine iO none (.store 40 (.tmp 12) (.tmp 25)) ?_); refine step_store S 40 (.tmp 12) (.tmp 25) g12 _ rfl rfl _ _ pk 34 kR (lgL_size _ _) (lgL_size _ _) (lgL_one _ _ (one_sl (S.sl (v := v25) pk)).1) gw ?_; clear S; intro w S) | ((with_reducible refine iD 5 (.box 40 (.tmp 0)) ?_); refine step_boxA (dst := some 5) S 40 (.tmp 0) _ rfl gw ?_; clear S; intro g5 w S) | (go_at_call 29; (with_reducible refine (PA.out _ kT).mono ?_); rintro e w1 ⟨rfl, T⟩; replace S := S.call T; clear T; (try simp only [z4, z5] at S)) | ((with_reducible refine iO _ (.load 40 _) ?_); first | (refine step_load S 40 _ _ rfl _ _ _ pk _ Tryd.underlying40 rfl 34 kR lN gw ?_) | (refine step_loadO 40 _ _ rfl _ _ _ (S.old_heap (Hid.out (by assumption))) _ Tryd.underlying40 rfl 34 kR lN gw ?_) | (refine step_loadR 40 _ _ _ rfl _ (S.old_range hy) _ Tryd.underlying40 rfl 34 kR lN _ rfl gw ?_)) | (go_at_call 21; (with_reducible refine (P1.out _ (S.old HR.out) (S.oldB HB.out) kT).mono ?_); rintro e w1 ⟨v25, rfl, T⟩; replace S := S.call T; clear T; (try simp only [z4, z5] at S)) | ((with_reducible refine iD 12 (.alloc 40) ?_); refine step_alloc (dst := some 12) S 40 (.agg ((lgL lgZ (.slice none 0 0)).toArray)) ((lgL lgZ (.slice none 0 0)).toArray) kR rfl gw ?_; clear S; intro g12 w S) | ((with_reducible refine iO none (.store 40 (.tmp 12) (.tmp 25)) ?_); refine step_store S 40 (.tmp 12) (.tmp 25) _ _ rfl rfl _ _ pk 34 kR lN lN on1 gw ?_; clear S; intro w S) | (go_at_call 45; (with_reducible refine (PV.out _ (S.old HR.out)).mono ?_); rintro e w1 ⟨rfl, T⟩; replace S := S.call T; clear T; (try simp only [z4, z5] at S)) | ((with_reducible refine iO _ (.load 38 _) ?_); refine step_load1 38 _ _ _ rfl (cL) _ Tryd.underlying38 rfl gw ?_) | ((with_reducible refine iO _ (.load 31 _) ?_); refine step_load1 31 _ _ _ rfl (cL) _ Tryd.underlying31 rfl gw ?_) | ((with_reducible refine iO _ (.slice 31 _ _ _ _) ?_); refine step_cutL 31 50 35 _ _ _ _ _ _ _ _ rfl rfl (by first | rfl | omega) (by first | (first | omega | assumption | (exact Hid.out (by assumption)) | (simp only [List.length_append, List.length_cons, List.length_nil]; omega)) | decide) Tryd.underlying31 kR gw ?_) | ((with_reducible refine iO _ (.slice 31 _ _ _ _) ?_); refine step_cutH 31 50 35 _ _ _ _ _ _ _ _ rfl rfl (by first | rfl | omega) (by first | (first | omega | assumption | (exact Hid.out (by assumption)) | (simp only [List.length_append, List.length_cons, List.length_nil]; omega)) | decide) Tryd.underlying31 kR gw ?_) | ((with_reducible refine iO _ (.load 23 _) ?_); refine step_load1 23 _ _ _ rfl (cL) _ Tryd.underlying23 rfl gw ?_) | ((with_reducible refine iO _ (.load 5 _) ?_); refine step_load1 5 _ _ _ rfl (cL) _ Tryd.underlying5 rfl gw ?_) | ((with_reducible refine iO _ (.load 24 _) ?_); refine step_load1 24 _ _ _ rfl (cL) _ Tryd.underlying24 rfl gw ?_) | fail)
      go_ret
      exact ⟨rfl, S.nil⟩
    · have i1 : (4611686018427387904 : Int) < (t.toNat : Int) := by omega
      have P1 := Lib.hid p1; have PA := Lib.hid pa; have PV := Lib.hid pv; have HR := Lib.hid hr; have HB := Lib.hid hb; have HK := Lib.hid hK; have Q0 := Lib.hid q0; have Q33 := Lib.hid q33; clear p1 pa pv hr hb hK q0 q33
      clear hE0 hE hA0 hR hv hvd hn hC hc hlk
      go_enter Tryd.func13, Tryd.ntmps13
      go_wp2_with (first | ((with_reducible refine iO none (.store 40 (.tmp 12) (.tmp 25)) ?_); refine step_store S 40 (.tmp 12) (.tmp 25) g12 _ rfl rfl _ _ pk 34 kR (lgL_size _ _) (lgL_size _ _) (lgL_one _ _ (one_sl (S.sl (v := v25) pk)).1) gw ?_; clear S; intro w S) | ((with_reducible refine iD 5 (.box 40 (.tmp 0)) ?_); refine step_boxA (dst := some 5) S 40 (.tmp 0) _ rfl gw ?_; clear S; intro g5 w S) | (go_at_call 29; (with_reducible refine (PA.out _ kT).mono ?_); rintro e w1 ⟨rfl, T⟩; replace S := S.call T; clear T; (try simp only [z4, z5] at S)) | ((with_reducible refine iO _ (.load 40 _) ?_); first | (refine step_load S 40 _ _ rfl _ _ _ pk _ Tryd.underlying40 rfl 34 kR lN gw ?_) | (refine step_loadO 40 _ _ rfl _ _ _ (S.old_heap (Hid.out (by assumption))) _ Tryd.underlying40 rfl 34 kR lN gw ?_) | (refine step_loadR 40 _ _ _ rfl _ (S.old_range hy) _ Tryd.underlying40 rfl 34 kR lN _ rfl gw ?_)) | (go_at_call 21; (with_reducible refine (P1.out _ (S.old HR.out) (S.oldB HB.out) kT).mono ?_); rintro e w1 ⟨v25, rfl, T⟩; replace S := S.call T; clear T; (try simp only [z4, z5] at S)) | ((with_reducible refine iD 12 (.alloc 40) ?_); refine step_alloc (dst := some 12) S 40 (.agg ((lgL lgZ (.slice none 0 0)).toArray)) ((lgL lgZ (.slice none 0 0)).toArray) kR rfl gw ?_; clear S; intro g12 w S) | ((with_reducible refine iO none (.store 40 (.tmp 12) (.tmp 25)) ?_); refine step_store S 40 (.tmp 12) (.tmp 25) _ _ rfl rfl _ _ pk 34 kR lN lN on1 gw ?_; clear S; intro w S) | (go_at_call 45; (with_reducible refine (PV.out _ (S.old HR.out)).mono ?_); rintro e w1 ⟨rfl, T⟩; replace S := S.call T; clear T; (try simp only [z4, z5] at S)) | ((with_reducible refine iO _ (.load 38 _) ?_); refine step_load1 38 _ _ _ rfl (cL) _ Tryd.underlying38 rfl gw ?_) | ((with_reducible refine iO _ (.load 31 _) ?_); refine step_load1 31 _ _ _ rfl (cL) _ Tryd.underlying31 rfl gw ?_) | ((with_reducible refine iO _ (.slice 31 _ _ _ _) ?_); refine step_cutL 31 50 35 _ _ _ _ _ _ _ _ rfl rfl (by first | rfl | omega) (by first | (first | omega | assumption | (exact Hid.out (by assumption)) | (simp only [List.length_append, List.length_cons, List.length_nil]; omega)) | decide) Tryd.underlying31 kR gw ?_) | ((with_reducible refine iO _ (.slice 31 _ _ _ _) ?_); refine step_cutH 31 50 35 _ _ _ _ _ _ _ _ rfl rfl (by first | rfl | omega) (by first | (first | omega | assumption | (exact Hid.out (by assumption)) | (simp only [List.length_append, List.length_cons, List.length_nil]; omega)) | decide) Tryd.underlying31 kR gw ?_) | ((with_reducible refine iO _ (.load 23 _) ?_); refine step_load1 23 _ _ _ rfl (cL) _ Tryd.underlying23 rfl gw ?_) | ((with_reducible refine iO _ (.load 5 _) ?_); refine step_load1 5 _ _ _ rfl (cL) _ Tryd.underlying5 rfl gw ?_) | ((with_reducible refine iO _ (.load 24 _) ?_); refine step_load1 24 _ _ _ rfl (cL) _ Tryd.underlying24 rfl gw ?_) | fail)
      go_ret
      exact ⟨rfl, S.nil⟩
  rw [hlk] at hvd
  obtain ⟨ht1, hk1, _⟩ := of_decide_eq_true hvd.symm
  have i1 : ¬ (4611686018427387904 : Int) < (t.toNat : Int) := by omega
  have i2 : ¬ (6 : Int) < (k.toNat : Int) := by omega
  by_cases h64 : 64 < b.length
  · have hE0 : lnkE t k C b.length = 4 := by unfold lnkE; rw [hlk]; exact if_pos h64
    have hE : apE g t k C b.length = 4 := by rw [hA0, hE0]; rfl
    have hR : apR g t k C b = lgZ := if_neg (by rw [hE]; decide)
    rw [hE, hR] at p1
    have i3 : 64 < (b.length : Int) := by omega
    have P1 := Lib.hid p1; have PA := Lib.hid pa; have PV := Lib.hid pv; have HR := Lib.hid hr; have HB := Lib.hid hb; have HK := Lib.hid hK; have Q0 := Lib.hid q0; have Q33 := Lib.hid q33; clear p1 pa pv hr hb hK q0 q33
    clear hE0 hE hA0 hR hv hvd hC hc hlk ht1 hk1 h64
    go_enter Tryd.func13, Tryd.ntmps13
    go_wp2_with (first | ((with_reducible refine iO none (.store 40 (.tmp 12) (.tmp 25)) ?_); refine step_store S 40 (.tmp 12) (.tmp 25) g12 _ rfl rfl _ _ pk 34 kR (lgL_size _ _) (lgL_size _ _) (lgL_one _ _ (one_sl (S.sl (v := v25) pk)).1) gw ?_; clear S; intro w S) | ((with_reducible refine iD 5 (.box 40 (.tmp 0)) ?_); refine step_boxA (dst := some 5) S 40 (.tmp 0) _ rfl gw ?_; clear S; intro g5 w S) | (go_at_call 29; (with_reducible refine (PA.out _ kT).mono ?_); rintro e w1 ⟨rfl, T⟩; replace S := S.call T; clear T; (try simp only [z4, z5] at S)) | ((with_reducible refine iO _ (.load 40 _) ?_); first | (refine step_load S 40 _ _ rfl _ _ _ pk _ Tryd.underlying40 rfl 34 kR lN gw ?_) | (refine step_loadO 40 _ _ rfl _ _ _ (S.old_heap (Hid.out (by assumption))) _ Tryd.underlying40 rfl 34 kR lN gw ?_) | (refine step_loadR 40 _ _ _ rfl _ (S.old_range hy) _ Tryd.underlying40 rfl 34 kR lN _ rfl gw ?_)) | (go_at_call 21; (with_reducible refine (P1.out _ (S.old HR.out) (S.oldB HB.out) kT).mono ?_); rintro e w1 ⟨v25, rfl, T⟩; replace S := S.call T; clear T; (try simp only [z4, z5] at S)) | ((with_reducible refine iD 12 (.alloc 40) ?_); refine step_alloc (dst := some 12) S 40 (.agg ((lgL lgZ (.slice none 0 0)).toArray)) ((lgL lgZ (.slice none 0 0)).toArray) kR rfl gw ?_; clear S; intro g12 w S) | ((with_reducible refine iO none (.store 40 (.tmp 12) (.tmp 25)) ?_); refine step_store S 40 (.tmp 12) (.tmp 25) _ _ rfl rfl _ _ pk 34 kR lN lN on1 gw ?_; clear S; intro w S) | (go_at_call 45; (with_reducible refine (PV.out _ (S.old HR.out)).mono ?_); rintro e w1 ⟨rfl, T⟩; replace S := S.call T; clear T; (try simp only [z4, z5] at S)) | ((with_reducible refine iO _ (.load 38 _) ?_); refine step_load1 38 _ _ _ rfl (cL) _ Tryd.underlying38 rfl gw ?_) | ((with_reducible refine iO _ (.load 31 _) ?_); refine step_load1 31 _ _ _ rfl (cL) _ Tryd.underlying31 rfl gw ?_) | ((with_reducible refine iO _ (.slice 31 _ _ _ _) ?_); refine step_cutL 31 50 35 _ _ _ _ _ _ _ _ rfl rfl (by first | rfl | omega) (by first | (first | omega | assumption | (exact Hid.out (by assumption)) | (simp only [List.length_append, List.length_cons, List.length_nil]; omega)) | decide) Tryd.underlying31 kR gw ?_) | ((with_reducible refine iO _ (.slice 31 _ _ _ _) ?_); refine step_cutH 31 50 35 _ _ _ _ _ _ _ _ rfl rfl (by first | rfl | omega) (by first | (first | omega | assumption | (exact Hid.out (by assumption)) | (simp only [List.length_append, List.length_cons, List.length_nil]; omega)) | decide) Tryd.underlying31 kR gw ?_) | ((with_reducible refine iO _ (.load 23 _) ?_); refine step_load1 23 _ _ _ rfl (cL) _ Tryd.underlying23 rfl gw ?_) | ((with_reducible refine iO _ (.load 5 _) ?_); refine step_load1 5 _ _ _ rfl (cL) _ Tryd.underlying5 rfl gw ?_) | ((with_reducible refine iO _ (.load 24 _) ?_); refine step_load1 24 _ _ _ rfl (cL) _ Tryd.underlying24 rfl gw ?_) | fail)
    go_ret
    exact ⟨rfl, S.nil⟩
  have hE0 : lnkE t k C b.length = 0 := by unfold lnkE; rw [hlk]; exact if_neg h64
  have i3 : ¬ 64 < (b.length : Int) := by omega
  by_cases hfull : g.cnt.toNat = 4294967295
  · have hE : apE g t k C b.length = 9 := by rw [hA0, hE0, if_neg (by decide), if_pos hfull]
    have hR : apR g t k C b = lgZ := if_neg (by rw [hE]; decide)
    rw [hE, hR] at p1
    have i4 : ((g.cnt.toNat : Int) == 4294967295) = true := by rw [hfull]; rfl
    have z0 : ∀ u, (lgL lgZ u).toArray[0]? = some (.int .u32 0) := fun u => rfl
    have z33 : ∀ u, (lgL lgZ u).toArray[33]? = some u := lgL_33 lgZ
    obtain ⟨Z, hZ⟩ : ∃ Z, Z = lgZ := ⟨_, rfl⟩
    have hZr : Z.recs = [] := by rw [hZ]; rfl
    rw [← hZ] at p1 z0 z33
    have P1 := Lib.hid p1; have PA := Lib.hid pa; have PV := Lib.hid pv; have HR := Lib.hid hr; have HB := Lib.hid hb; have HK := Lib.hid hK; have Q0 := Lib.hid q0; have Q33 := Lib.hid q33; have HZR := Lib.hid hZr; clear p1 pa pv hr hb hK q0 q33 hZr
    clear hE0 hE hA0 hR hv hvd hC hc hlk ht1 hk1 h64 hfull hZ
    go_enter Tryd.func13, Tryd.ntmps13
    go_upto_region 9 with (first | ((with_reducible refine iO none (.store 40 (.tmp 12) (.tmp 25)) ?_); refine step_store S 40 (.tmp 12) (.tmp 25) g12 _ rfl rfl _ _ pk 34 kR (lgL_size _ _) (lgL_size _ _) (lgL_one _ _ (one_sl (S.sl (v := v25) pk)).1) gw ?_; clear S; intro w S) | ((with_reducible refine iD 5 (.box 40 (.tmp 0)) ?_); refine step_boxA (dst := some 5) S 40 (.tmp 0) _ rfl gw ?_; clear S; intro g5 w S) | (go_at_call 29; (with_reducible refine (PA.out _ kT).mono ?_); rintro e w1 ⟨rfl, T⟩; replace S := S.call T; clear T; (try simp only [z4, z5] at S)) | ((with_reducible refine iO _ (.load 40 _) ?_); first | (refine step_load S 40 _ _ rfl _ _ _ pk _ Tryd.underlying40 rfl 34 kR lN gw ?_) | (refine step_loadO 40 _ _ rfl _ _ _ (S.old_heap (Hid.out (by assumption))) _ Tryd.underlying40 rfl 34 kR lN gw ?_) | (refine step_loadR 40 _ _ _ rfl _ (S.old_range hy) _ Tryd.underlying40 rfl 34 kR lN _ rfl gw ?_)) | (go_at_call 21; (with_reducible refine (P1.out _ (S.old HR.out) (S.oldB HB.out) kT).mono ?_); rintro e w1 ⟨v25, rfl, T⟩; replace S := S.call T; clear T; (try simp only [z4, z5] at S)) | ((with_reducible refine iD 12 (.alloc 40) ?_); refine step_alloc (dst := some 12) S 40 (.agg ((lgL lgZ (.slice none 0 0)).toArray)) ((lgL lgZ (.slice none 0 0)).toArray) kR rfl gw ?_; clear S; intro g12 w S) | ((with_reducible refine iO none (.store 40 (.tmp 12) (.tmp 25)) ?_); refine step_store S 40 (.tmp 12) (.tmp 25) _ _ rfl rfl _ _ pk 34 kR lN lN on1 gw ?_; clear S; intro w S) | (go_at_call 45; (with_reducible refine (PV.out _ (S.old HR.out)).mono ?_); rintro e w1 ⟨rfl, T⟩; replace S := S.call T; clear T; (try simp only [z4, z5] at S)) | ((with_reducible refine iO _ (.load 38 _) ?_); refine step_load1 38 _ _ _ rfl (cL) _ Tryd.underlying38 rfl gw ?_) | ((with_reducible refine iO _ (.load 31 _) ?_); refine step_load1 31 _ _ _ rfl (cL) _ Tryd.underlying31 rfl gw ?_) | ((with_reducible refine iO _ (.slice 31 _ _ _ _) ?_); refine step_cutL 31 50 35 _ _ _ _ _ _ _ _ rfl rfl (by first | rfl | omega) (by first | (first | omega | assumption | (exact Hid.out (by assumption)) | (simp only [List.length_append, List.length_cons, List.length_nil]; omega)) | decide) Tryd.underlying31 kR gw ?_) | ((with_reducible refine iO _ (.slice 31 _ _ _ _) ?_); refine step_cutH 31 50 35 _ _ _ _ _ _ _ _ rfl rfl (by first | rfl | omega) (by first | (first | omega | assumption | (exact Hid.out (by assumption)) | (simp only [List.length_append, List.length_cons, List.length_nil]; omega)) | decide) Tryd.underlying31 kR gw ?_) | ((with_reducible refine iO _ (.load 23 _) ?_); refine step_load1 23 _ _ _ rfl (cL) _ Tryd.underlying23 rfl gw ?_) | ((with_reducible refine iO _ (.load 5 _) ?_); refine step_load1 5 _ _ _ rfl (cL) _ Tryd.underlying5 rfl gw ?_) | ((with_reducible refine iO _ (.load 24 _) ?_); refine step_load1 24 _ _ _ rfl (cL) _ Tryd.underlying24 rfl gw ?_) | fail)
    have S := S.sub (show Sub _ [blk g12 (.cells (lgL Z v25).toArray 40 (0, 0)), blk g5 (.cells (lgL g (.slice a0 g.recs.length c0)).toArray 40 (0, 0)), rowRc v25 Z.recs] from (by repeat (first | exact Sub.nil _ | refine Sub.cons pk ?_)))
    rw [HZR.out] at S
    obtain ⟨a25, c25, rfl, _, _⟩ := Sl.shape (S.sl (v := v25) pk)
    have z0' := z0 (.slice a25 ([] : List Rcd).length c25)
    have z33' := z33 (.slice a25 ([] : List Rcd).length c25)
    have Z0' := Lib.hid z0'; have Z33' := Lib.hid z33'; clear z0' z33'
    clear z0 z33
    have S : Has w0 w1 [blk g12 (.cells (lgL Z (.slice a25 0 c25)).toArray 40 (0, 0)), blk g5 (.cells (lgL g (.slice a0 g.recs.length c0)).toArray 40 (0, 0)), rowRc (.slice a25 0 c25) []] := S
    go_wp2_with (first | ((with_reducible refine iD 5 (.box 40 (.tmp 0)) ?_); refine step_boxA (dst := some 5) S 40 (.tmp 0) _ rfl gw ?_; clear S; intro g5 w S) | ((with_reducible refine iO _ (.load 40 _) ?_); first | (refine step_load S 40 _ _ rfl _ _ _ pk _ Tryd.underlying40 rfl 34 kR lN gw ?_) | (refine step_loadO 40 _ _ rfl _ _ _ (S.old_heap (Hid.out (by assumption))) _ Tryd.underlying40 rfl 34 kR lN gw ?_) | (refine step_loadR 40 _ _ _ rfl _ (S.old_range hy) _ Tryd.underlying40 rfl 34 kR lN _ rfl gw ?_)) | ((with_reducible refine iD 12 (.alloc 40) ?_); refine step_alloc (dst := some 12) S 40 (.agg ((lgL lgZ (.slice none 0 0)).toArray)) ((lgL lgZ (.slice none 0 0)).toArray) kR rfl gw ?_; clear S; intro g12 w S) | ((with_reducible refine iO none (.store 40 (.tmp 12) (.tmp 25)) ?_); refine step_store S 40 (.tmp 12) (.tmp 25) _ _ rfl rfl _ _ pk 34 kR lN lN on1 gw ?_; clear S; intro w S) | ((with_reducible refine iO _ (.load 38 _) ?_); refine step_load1 38 _ _ _ rfl (cL) _ Tryd.underlying38 rfl gw ?_) | ((with_reducible refine iO _ (.load 31 _) ?_); refine step_load1 31 _ _ _ rfl (cL) _ Tryd.underlying31 rfl gw ?_) | ((with_reducible refine iO _ (.slice 31 _ _ _ _) ?_); refine step_cutL 31 50 35 _ _ _ _ _ _ _ _ rfl rfl (by first | rfl | omega) (by first | (first | omega | assumption | (exact Hid.out (by assumption)) | (simp only [List.length_append, List.length_cons, List.length_nil]; omega)) | decide) Tryd.underlying31 kR gw ?_) | ((with_reducible refine iO _ (.slice 31 _ _ _ _) ?_); refine step_cutH 31 50 35 _ _ _ _ _ _ _ _ rfl rfl (by first | rfl | omega) (by first | (first | omega | assumption | (exact Hid.out (by assumption)) | (simp only [List.length_append, List.length_cons, List.length_nil]; omega)) | decide) Tryd.underlying31 kR gw ?_) | ((with_reducible refine iO _ (.load 23 _) ?_); refine step_load1 23 _ _ _ rfl (cL) _ Tryd.underlying23 rfl gw ?_) | ((with_reducible refine iO _ (.load 5 _) ?_); refine step_load1 5 _ _ _ rfl (cL) _ Tryd.underlying5 rfl gw ?_) | ((with_reducible refine iO _ (.load 24 _) ?_); refine step_load1 24 _ _ _ rfl (cL) _ Tryd.underlying24 rfl gw ?_) | fail)
    go_ret
    exact ⟨rfl, S.nil⟩
  have hE : apE g t k C b.length = 0 := by rw [hA0, hE0, if_neg (by decide), if_neg hfull]
  obtain ⟨D, x, ok⟩ := apOk g t k C b hE
  rw [hE] at p1
  obtain ⟨A, hA⟩ : ∃ A, A = apR g t k C b := ⟨_, rfl⟩
  rw [← hA] at p1 ok
  have hgE := lgV_apR g t k C b A D x ok hv ht1 hk1
  have pk := fun v w h => checkLog_s A v w h
  rw [hgE] at pk
  obtain ⟨KK, hKK⟩ : ∃ K, K = keepR g.recs := ⟨_, rfl⟩
  have hAr : A.recs = KK ++ [x] := by rw [ok.g2, hKK]
  obtain ⟨L0, hL0⟩ : ∃ n, n = g.recs.length := ⟨_, rfl⟩
  obtain ⟨m, hm⟩ : ∃ m, m = KK.length := ⟨_, rfl⟩
  obtain ⟨lo, hlo⟩ : ∃ lo, lo = g.recs.length + 1 - 32 := ⟨_, rfl⟩
  have hKd : KK = g.recs.drop lo := by rw [hKK, hlo]; rfl
  have hml : m = L0 - lo := by rw [hm, hKd, List.length_drop, hL0]
  have hL32 : L0 ≤ 32 := by rw [hL0]; exact ok.n
  have hlo2 : lo = L0 + 1 - 32 := by rw [hlo, hL0]
  have hN : A.recs.length = m + 1 := by rw [hAr, hm]; simp
  have hcA := ok.g0
  have hcn := ok.cnt
  have r0 := lgL_0 A
  rw [← hcA] at r0
  have r33 := lgL_33 A
  have hss : Sl w0 35 (.slice (cutA a0 c0 lo 35) m (c0 - lo)) m (KK.flatMap rcdL) := by
    have h := Sl.cut hr lo m (by omega)
    rw [drop_flat rcdL 35 rcdL_length, ← hKd, List.take_of_length_le (by rw [flat_len rcdL 35 rcdL_length, ← hm]; exact Nat.le_refl _)] at h
    exact h
  have ps := fun v1 v2 w h1 h2 => sameRecords_s v1 v2 KK w h1 h2
  rw [← hm] at ps
  have i4 : ((g.cnt.toNat : Int) == 4294967295) = false := by rw [beq_eq_false_iff_ne]; omega
  have j1 : ¬ ((m : Int) + 1 < 1) := by omega
  have j2 : ¬ (32 < (m : Int) + 1) := by omega
  have j3 : IntKind.i64.wrap ((L0 : Int) + 1) = (L0 : Int) + 1 := by rw [IntKind.wrap_i64]; omega
  have j4 : ¬ ((L0 : Int) + 1 < (m : Int) + 1) := by omega
  have j5 : IntKind.u32.wrap ((g.cnt.toNat : Int) + 1) = (g.cnt.toNat : Int) + 1 := by rw [IntKind.wrap_u32]; omega
  have j6 : IntKind.i64.wrap ((m : Int) + 1 - 1) = (m : Int) := by rw [IntKind.wrap_i64]; omega
  have j7 : IntKind.i64.wrap ((L0 : Int) - (m : Int)) = (lo : Int) := by rw [IntKind.wrap_i64]; omega
  have hcx := ok.x2
  have x0 := flat_cell rcdL 35 rcdL_length (KK ++ [x]) m 0 x _ (by rw [hm]; simp) (rcdL_0' x)
  have x1 := flat_cell rcdL 35 rcdL_length (KK ++ [x]) m 1 x _ (by rw [hm]; simp) (rcdL_1' x)
  have x2 := flat_cell rcdL 35 rcdL_length (KK ++ [x]) m 2 x _ (by rw [hm]; simp) (rcdL_2' x)
  rw [ok.x0] at x0
  rw [ok.x1] at x1
  rw [ok.x2, hC] at x2
  rw [← hL0] at hr p1 pv q0 q33 ⊢
  have P1 := Lib.hid p1; have PA := Lib.hid pa; have PV := Lib.hid pv; have HR := Lib.hid hr; have HB := Lib.hid hb; have HK := Lib.hid hK; have Q0 := Lib.hid q0; have Q33 := Lib.hid q33; have PK := Lib.hid pk; have HAR := Lib.hid hAr; have HN := Lib.hid hN; have HSS := Lib.hid hss; have PS := Lib.hid ps; have R0 := Lib.hid r0; have R33 := Lib.hid r33; have X0 := Lib.hid x0; have X1 := Lib.hid x1; have X2 := Lib.hid x2; have HL32 := Lib.hid hL32; have HLO2 := Lib.hid hlo2; have HML := Lib.hid hml; have HM := Lib.hid hm; clear p1 pa pv hr hb hK q0 q33 pk hAr hN hss ps r0 r33 x0 x1 x2 hL32 hlo2 hml hm
  clear hE0 hE hA0 hv hvd hC hc hlk ht1 hk1 h64 hfull hA ok hgE hKK hL0 hlo hKd hcA hcn hcx
  go_enter Tryd.func13, Tryd.ntmps13
  go_upto_region 9 with (first | ((with_reducible refine iO none (.store 40 (.tmp 12) (.tmp 25)) ?_); refine step_store S 40 (.tmp 12) (.tmp 25) g12 _ rfl rfl _ _ pk 34 kR (lgL_size _ _) (lgL_size _ _) (lgL_one _ _ (one_sl (S.sl (v := v25) pk)).1) gw ?_; clear S; intro w S) | ((with_reducible refine iD 5 (.box 40 (.tmp 0)) ?_); refine step_boxA (dst := some 5) S 40 (.tmp 0) _ rfl gw ?_; clear S; intro g5 w S) | (go_at_call 29; (with_reducible refine (PA.out _ kT).mono ?_); rintro e w1 ⟨rfl, T⟩; replace S := S.call T; clear T; (try simp only [z4, z5] at S)) | ((with_reducible refine iO _ (.load 40 _) ?_); first | (refine step_load S 40 _ _ rfl _ _ _ pk _ Tryd.underlying40 rfl 34 kR lN gw ?_) | (refine step_loadO 40 _ _ rfl _ _ _ (S.old_heap (Hid.out (by assumption))) _ Tryd.underlying40 rfl 34 kR lN gw ?_) | (refine step_loadR 40 _ _ _ rfl _ (S.old_range hy) _ Tryd.underlying40 rfl 34 kR lN _ rfl gw ?_)) | (go_at_call 21; (with_reducible refine (P1.out _ (S.old HR.out) (S.oldB HB.out) kT).mono ?_); rintro e w1 ⟨v25, rfl, T⟩; replace S := S.call T; clear T; (try simp only [z4, z5] at S)) | ((with_reducible refine iD 12 (.alloc 40) ?_); refine step_alloc (dst := some 12) S 40 (.agg ((lgL lgZ (.slice none 0 0)).toArray)) ((lgL lgZ (.slice none 0 0)).toArray) kR rfl gw ?_; clear S; intro g12 w S) | ((with_reducible refine iO none (.store 40 (.tmp 12) (.tmp 25)) ?_); refine step_store S 40 (.tmp 12) (.tmp 25) _ _ rfl rfl _ _ pk 34 kR lN lN on1 gw ?_; clear S; intro w S) | (go_at_call 45; (with_reducible refine (PV.out _ (S.old HR.out)).mono ?_); rintro e w1 ⟨rfl, T⟩; replace S := S.call T; clear T; (try simp only [z4, z5] at S)) | ((with_reducible refine iO _ (.load 38 _) ?_); refine step_load1 38 _ _ _ rfl (cL) _ Tryd.underlying38 rfl gw ?_) | ((with_reducible refine iO _ (.load 31 _) ?_); refine step_load1 31 _ _ _ rfl (cL) _ Tryd.underlying31 rfl gw ?_) | ((with_reducible refine iO _ (.slice 31 _ _ _ _) ?_); refine step_cutL 31 50 35 _ _ _ _ _ _ _ _ rfl rfl (by first | rfl | omega) (by first | (first | omega | assumption | (exact Hid.out (by assumption)) | (simp only [List.length_append, List.length_cons, List.length_nil]; omega)) | decide) Tryd.underlying31 kR gw ?_) | ((with_reducible refine iO _ (.slice 31 _ _ _ _) ?_); refine step_cutH 31 50 35 _ _ _ _ _ _ _ _ rfl rfl (by first | rfl | omega) (by first | (first | omega | assumption | (exact Hid.out (by assumption)) | (simp only [List.length_append, List.length_cons, List.length_nil]; omega)) | decide) Tryd.underlying31 kR gw ?_) | ((with_reducible refine iO _ (.load 23 _) ?_); refine step_load1 23 _ _ _ rfl (cL) _ Tryd.underlying23 rfl gw ?_) | ((with_reducible refine iO _ (.load 5 _) ?_); refine step_load1 5 _ _ _ rfl (cL) _ Tryd.underlying5 rfl gw ?_) | ((with_reducible refine iO _ (.load 24 _) ?_); refine step_load1 24 _ _ _ rfl (cL) _ Tryd.underlying24 rfl gw ?_) | fail)
  have S := S.sub (show Sub _ [blk g12 (.cells (lgL A v25).toArray 40 (0, 0)), blk g5 (.cells (lgL g (.slice a0 L0 c0)).toArray 40 (0, 0)), row v25 50 35 A.recs.length (A.recs.flatMap rcdL)] from (by repeat (first | exact Sub.nil _ | refine Sub.cons pk ?_)))
  obtain ⟨gx, cx, rfl, hcx⟩ := S.row_at (v := v25) pk (by rw [HN.out]; exact Nat.succ_ne_zero _)
  rw [HN.out, HAR.out] at S
  rw [HN.out] at hcx
  have r0' := R0.out (.slice (some ⟨gx, 0, none⟩) (m + 1) cx)
  have r33' := R33.out (.slice (some ⟨gx, 0, none⟩) (m + 1) cx)
  have j8 : (m : Int) < (m : Int) + 1 := by omega
  have hmc : m ≤ cx := by omega
  have hlc : lo ≤ L0 := by have := HLO2.out; have := HL32.out; omega
  have R0' := Lib.hid r0'; have R33' := Lib.hid r33'; have HCX := Lib.hid hcx; clear r0' r33' hcx
  go_upto_region 14 with (first | ((with_reducible refine iD 5 (.box 40 (.tmp 0)) ?_); refine step_boxA (dst := some 5) S 40 (.tmp 0) _ rfl gw ?_; clear S; intro g5 w S) | ((with_reducible refine iO _ (.load 40 _) ?_); first | (refine step_load S 40 _ _ rfl _ _ _ pk _ Tryd.underlying40 rfl 34 kR lN gw ?_) | (refine step_loadO 40 _ _ rfl _ _ _ (S.old_heap (Hid.out (by assumption))) _ Tryd.underlying40 rfl 34 kR lN gw ?_) | (refine step_loadR 40 _ _ _ rfl _ (S.old_range hy) _ Tryd.underlying40 rfl 34 kR lN _ rfl gw ?_)) | ((with_reducible refine iD 12 (.alloc 40) ?_); refine step_alloc (dst := some 12) S 40 (.agg ((lgL lgZ (.slice none 0 0)).toArray)) ((lgL lgZ (.slice none 0 0)).toArray) kR rfl gw ?_; clear S; intro g12 w S) | ((with_reducible refine iO none (.store 40 (.tmp 12) (.tmp 25)) ?_); refine step_store S 40 (.tmp 12) (.tmp 25) _ _ rfl rfl _ _ pk 34 kR lN lN on1 gw ?_; clear S; intro w S) | ((with_reducible refine iO _ (.load 38 _) ?_); refine step_load1 38 _ _ _ rfl (cL) _ Tryd.underlying38 rfl gw ?_) | ((with_reducible refine iO _ (.load 31 _) ?_); refine step_load1 31 _ _ _ rfl (cL) _ Tryd.underlying31 rfl gw ?_) | (go_at_call 23; (with_reducible refine (PK.out _ _ ((S.sl (v := .slice (some ⟨gx, 0, none⟩) (m + 1) cx) pk).relog HN.out HAR.out)).mono ?_); rintro e w1 ⟨rfl, T⟩; replace S := S.call T; clear T; (try simp only [z4, z5] at S)) | ((with_reducible refine iO _ (.slice 31 _ _ _ _) ?_); refine step_cutL 31 50 35 _ _ _ _ _ _ _ _ rfl rfl (by first | rfl | omega) (by first | (first | omega | assumption | (exact Hid.out (by assumption)) | (simp only [List.length_append, List.length_cons, List.length_nil]; omega)) | decide) Tryd.underlying31 kR gw ?_) | ((with_reducible refine iO _ (.slice 31 _ _ _ _) ?_); refine step_cutH 31 50 35 _ _ _ _ _ _ _ _ rfl rfl (by first | rfl | omega) (by first | (first | omega | assumption | (exact Hid.out (by assumption)) | (simp only [List.length_append, List.length_cons, List.length_nil]; omega)) | decide) Tryd.underlying31 kR gw ?_) | ((with_reducible refine iO _ (.load 23 _) ?_); refine step_load1 23 _ _ _ rfl (cL) _ Tryd.underlying23 rfl gw ?_) | ((with_reducible refine iO _ (.load 5 _) ?_); refine step_load1 5 _ _ _ rfl (cL) _ Tryd.underlying5 rfl gw ?_) | ((with_reducible refine iO _ (.load 24 _) ?_); refine step_load1 24 _ _ _ rfl (cL) _ Tryd.underlying24 rfl gw ?_) | fail)
  go_wp2_with (first | ((with_reducible refine iD 115 (.slice 31 _ _ _ _) ?_); refine step_cutL 31 50 35 (.tmp 108) (.tmp 114) a0 L0 c0 _ _ lo rfl rfl rfl hlc Tryd.underlying31 kR gw ?_; rw [← HML.out]) | ((with_reducible refine iD 122 (.slice 31 _ _ _ _) ?_); refine step_cutH 31 50 35 (.tmp 119) (.tmp 121) (some ⟨gx, 0, none⟩) (m + 1) cx _ _ m rfl rfl rfl hmc Tryd.underlying31 kR gw ?_) | ((with_reducible refine iD 5 (.box 40 (.tmp 0)) ?_); refine step_boxA (dst := some 5) S 40 (.tmp 0) _ rfl gw ?_; clear S; intro g5 w S) | ((with_reducible refine iO _ (.load 40 _) ?_); first | (refine step_load S 40 _ _ rfl _ _ _ pk _ Tryd.underlying40 rfl 34 kR lN gw ?_) | (refine step_loadO 40 _ _ rfl _ _ _ (S.old_heap (Hid.out (by assumption))) _ Tryd.underlying40 rfl 34 kR lN gw ?_) | (refine step_loadR 40 _ _ _ rfl _ (S.old_range hy) _ Tryd.underlying40 rfl 34 kR lN _ rfl gw ?_)) | ((with_reducible refine iD 12 (.alloc 40) ?_); refine step_alloc (dst := some 12) S 40 (.agg ((lgL lgZ (.slice none 0 0)).toArray)) ((lgL lgZ (.slice none 0 0)).toArray) kR rfl gw ?_; clear S; intro g12 w S) | ((with_reducible refine iO none (.store 40 (.tmp 12) (.tmp 25)) ?_); refine step_store S 40 (.tmp 12) (.tmp 25) _ _ rfl rfl _ _ pk 34 kR lN lN on1 gw ?_; clear S; intro w S) | ((with_reducible refine iO _ (.load 38 _) ?_); refine step_load1 38 _ _ _ rfl (cL) _ Tryd.underlying38 rfl gw ?_) | ((with_reducible refine iO _ (.load 31 _) ?_); refine step_load1 31 _ _ _ rfl (cL) _ Tryd.underlying31 rfl gw ?_) | (go_at_call 28; (with_reducible refine (PS.out _ _ _ ((S.sl (v := .slice (some ⟨gx, 0, none⟩) (m + 1) cx) pk).cutH0 HM.out) (S.old HSS.out)).mono ?_); rintro e w1 ⟨rfl, T⟩; replace S := S.call T; clear T; (try simp only [z4, z5] at S)) | ((with_reducible refine iO _ (.load 23 _) ?_); refine step_load1 23 _ _ _ rfl (cL) _ Tryd.underlying23 rfl gw ?_) | ((with_reducible refine iO _ (.load 5 _) ?_); refine step_load1 5 _ _ _ rfl (cL) _ Tryd.underlying5 rfl gw ?_) | ((with_reducible refine iO _ (.load 24 _) ?_); refine step_load1 24 _ _ _ rfl (cL) _ Tryd.underlying24 rfl gw ?_) | fail)
  go_ret
  exact ⟨rfl, S.nil⟩

theorem wireFull_c (g : Lg) (rv : Value) (t k c : Nat) (bv : Value) (b : List UInt8) (w0 : World) (hr : Sl w0 35 rv g.recs.length (g.recs.flatMap rcdL)) (ht : t < 18446744073709551616) (hk : k < 256) (hc : c < 65536) (hb : Bs w0 bv b) (hK : KT w0) (hl : b.length ≤ 140737488351232) :
    Calls Tryd.prog 13 #[.agg (lgL g rv).toArray, .int .u64 (t : Int), .int .u8 (k : Int), .int .u16 (c : Int), bv] w0 fun e w' => e = .returned (.bool true) ∧ Has w0 w' [] := by
  have := wireFull_walk g rv (UInt64.ofNat t) (UInt8.ofNat k) c hc bv b w0 hr hb hK hl
  unfold by8 at this
  rw [u64N t ht, u8N k hk] at this
  exact this
end Go.Proofs.YtfhkmmagpnojmaaDoor
