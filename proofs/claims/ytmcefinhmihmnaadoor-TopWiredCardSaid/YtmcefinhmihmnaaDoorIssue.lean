/- Issue of the program and of the specification, and AuthIssues. No condition but the table of constants and the reach. -/
import Derived.Test.YtmcefinhmihmnaaDoorBd
import Derived.Test.YtmcefinhmihmnaaDoorRingE
import Derived.Test.YtmcefinhmihmnaaDoorTokS
set_option linter.unusedSimpArgs false
set_option linter.unusedVariables false
namespace Go.Proofs.YtmcefinhmihmnaaDoor
open Go.RowKit

/-- Whether a number is that of a tenant. -/
def tnB (t : Int) : Bool := decide (0 ≤ t ∧ t < 3)

set_option maxRecDepth 100000 in
set_option maxHeartbeats 1000000 in
theorem tenanted_s (t : Int) (w0 : World) (ht : -9223372036854775808 ≤ t ∧ t ≤ 9223372036854775807) : Calls Tryd.prog 27 #[.int .i64 t] w0 fun e w' => e = .returned (.bool (tnB t)) ∧ Has w0 w' [] := by
  have S := Has.start w0
  by_cases h1 : 0 ≤ t
  · by_cases h2 : t < 3
    · rw [show tnB t = true from decide_eq_true ⟨h1, h2⟩]
      go_enter Tryd.func27, Tryd.ntmps27
      go_wp2
      go_ret
      exact ⟨rfl, S.nil⟩
    · rw [show tnB t = false from decide_eq_false (fun h => h2 h.2)]
      go_enter Tryd.func27, Tryd.ntmps27
      go_wp2
      go_ret
      exact ⟨rfl, S.nil⟩
  · rw [show tnB t = false from decide_eq_false (fun h => h1 h.1)]
    go_enter Tryd.func27, Tryd.ntmps27
    go_wp2
    go_ret
    exact ⟨rfl, S.nil⟩

/-- Issue's error, its ring, its token. -/
def issE (l : List Mnt) (key : List UInt8) (tenant : Int) (role life now : Nat) : Int :=
  if chkR l ≠ 0 then chkR l else if (!tnB tenant || !vkB key) = true then 2 else mintE l role life now
def issR (l : List Mnt) (key : List UInt8) (tenant : Int) (role life now : Nat) : List Mnt := if issE l key tenant role life now = 0 then mintR l role life now else []
/-- The token of an entry, without its tag. -/
def bareT (tenant : Int) (role : Nat) (exp serial : Nat) : Tok := ⟨UInt8.ofNat tenant.toNat, UInt8.ofNat role, UInt64.ofNat exp, UInt32.ofNat serial, zs32, rfl⟩
def issT (l : List Mnt) (key : List UInt8) (tenant : Int) (role life now : Nat) : Tok := if issE l key tenant role life now = 0 then sgT key (bareT tenant role (expM now life) (l.length + 1)) else tokZ

/-- A ring, a token and an error. -/
def MadeMT (w : World) (l : List Mnt) (t : Tok) (E : Int) (e : Ending) (w' : World) : Prop := ∃ v, e = .returned (.tuple #[v, .agg (tokL t).toArray, .int .i64 E]) ∧ Has w w' [rowM v l]

theorem results_tct {fn : Func} {t p u : Tmp} {ty : TypeId} (h : fn.results = #[.tmp t, .cell p ty, .tmp u]) (tmps : Array Value) (P : Program) (w : World) :
    (results fn tmps).run P w =
      ((asAddr (tmps.getD p undef)).run P w).andThen fun a w₁ => ((loadVar ty a).run P w₁).andThen fun v w₂ => .ok (.tuple #[tmps.getD t undef, v, tmps.getD u undef]) w₂ := by
  simp only [results, h]
  simp [Sem.run_bind, Result.andThen]

/-- .. whose second result lies in memory, the others in slots. -/
theorem ret_tct {P : Program} {fn : Func} {R : Ending → World → Prop} {a : Act} {w : World} {t0 p u : Tmp} {ty : TypeId} (h : fn.results = #[.tmp t0, .cell p ty, .tmp u]) (g : Nat) (t : TypeId) (cs : Array Value) (hg : w.heap[g]? = some (.cells cs t (0, 0)))
    (d : TypeDesc) (hu : P.underlying ty = some d) (n : Nat) (hi : (P.info? ty).map (·.size) = some n) (hc : cs.size = n) (hd : (match d with | .struct _ | .array _ _ => true | _ => false) = true)
    (hp : a.tmps.getD p undef = .pointer (some ⟨g, 0, none⟩)) (hdf : a.defers = []) (hR : R (.returned (.tuple #[a.tmps.getD t0 undef, .agg cs, a.tmps.getD u undef])) w) : bodyPost P fn R .ret a w := by
  refine bodyPost_ret (v := .tuple #[a.tmps.getD t0 undef, .agg cs, a.tmps.getD u undef]) ?_ hdf hR
  rw [results_tct h, hp]
  simp only [asAddr, Sem.run_pure, Result.andThen_ok, run_loadVar_row w g t ty cs (0, 0) d hg hu hd (by rw [hc]; exact hi)]

theorem chkR_cases (l : List Mnt) : chkR l = 0 ∨ chkR l = 4 ∨ chkR l = 8 := by
  unfold chkR
  split
  · exact .inr (.inl rfl)
  · split
    · exact .inr (.inr rfl)
    · exact .inl rfl

theorem mintE_cases (l : List Mnt) (role life now : Nat) (h : chkR l = 0) : mintE l role life now = 0 ∨ mintE l role life now = 2 ∨ mintE l role life now = 9 := by
  unfold mintE
  rw [if_neg (by omega)]
  split
  · exact .inr (.inl rfl)
  · split
    · exact .inr (.inr rfl)
    · exact .inl rfl

set_option maxRecDepth 100000 in
set_option maxHeartbeats 8000000 in
theorem issue_err (v1 v2 : Value) (l : List Mnt) (key : List UInt8) (tenant : Int) (role life now : Nat) (w0 : World) (h1 : Rg w0 v1 l) (h2 : Bs w0 v2 key) (ht : -9223372036854775808 ≤ tenant ∧ tenant ≤ 9223372036854775807)
    (R1 : List Mnt) (N1 : Nat) (E1 E : Int) (tb kb : Bool) (p1 : ∀ v w, Rg w v l → Calls Tryd.prog 40 #[v, .int .u8 (role : Int), .int .u64 (life : Int), .int .u64 (now : Int)] w (MadeM3 w R1 N1 E1))
    (p2 : ∀ w, Calls Tryd.prog 27 #[.int .i64 tenant] w fun e w' => e = .returned (.bool tb) ∧ Has w w' [])
    (p3 : ∀ v w, Bs w v key → Calls Tryd.prog 29 #[v] w fun e w' => e = .returned (.bool kb) ∧ Has w w' [])
    (hc : (E1 = 4 ∧ E = 4) ∨ (E1 = 8 ∧ E = 8) ∨ (E1 = 2 ∧ E = 2) ∨ ((E1 = 0 ∨ E1 = 9) ∧ (tb = false ∨ kb = false) ∧ E = 2) ∨ (E1 = 9 ∧ tb = true ∧ kb = true ∧ E = 9)) :
    Calls Tryd.prog 11 #[v1, v2, .int .i64 tenant, .int .u8 (role : Int), .int .u64 (life : Int), .int .u64 (now : Int)] w0 (MadeMT w0 [] tokZ E) := by
  have S := Has.start w0
  obtain ⟨a1, c1, rfl, k1, k2⟩ := Sl.shape h1
  obtain ⟨a2, c2, rfl, k3, k4⟩ := Sl.shape h2
  unfold maxLen at k2 k4
  have H1 := Lib.hid h1; have H2 := Lib.hid h2; have P1 := Lib.hid p1; have P2 := Lib.hid p2; have P3 := Lib.hid p3; clear h1 h2 p1 p2 p3
  rcases hc with ⟨rfl, rfl⟩ | ⟨rfl, rfl⟩ | ⟨rfl, rfl⟩ | ⟨rfl | rfl, hb, rfl⟩ | ⟨rfl, rfl, rfl, rfl⟩
  case inr.inr.inr.inl.inl =>
    cases tb <;> cases kb <;> simp only [Bool.true_eq_false, or_self, or_true, true_or] at hb
    all_goals
      go_enter Tryd.func11, Tryd.ntmps11
      go_wp2_with (first | ((with_reducible refine iD 13 (.alloc 34) ?_); refine step_alloc (dst := some 13) S 34 (.agg ((tokL tokZ).toArray)) ((tokL tokZ).toArray) kR rfl gw ?_; clear S; intro g13 w S) | (go_at_call 40; (with_reducible refine (P1.out _ _ sL).mono ?_); rintro e w1 ⟨v15, rfl, T⟩; replace S := S.call T; clear T; (try simp only [z4, z5] at S)) | (go_at_call 27; (with_reducible refine (P2.out _).mono ?_); rintro e w1 ⟨rfl, T⟩; replace S := S.call T; clear T; (try simp only [z4, z5] at S)) | (go_at_call 29; (with_reducible refine (P3.out _ _ (S.oldB H2.out)).mono ?_); rintro e w1 ⟨rfl, T⟩; replace S := S.call T; clear T; (try simp only [z4, z5] at S)) | ((with_reducible refine iD 46 (.build 34 _) ?_); refine step_buildZ 34 (.agg ((tokL tokZ).toArray)) (fun w => by kernel_rfl) gw ?_) | ((with_reducible refine iO none (.store 34 (.tmp 13) (.tmp 46)) ?_); refine step_store S 34 (.tmp 13) (.tmp 46) _ _ rfl rfl _ _ pk 36 kR lN lN on1 gw ?_; clear S; intro w S) | ((with_reducible refine iO _ (.load 25 _) ?_); refine step_load1 25 _ _ _ rfl (cL) _ Tryd.underlying25 rfl gw ?_) | ((with_reducible refine iD 18 (.alloc 34) ?_); refine step_alloc (dst := some 18) S 34 (.agg ((tokL tokZ).toArray)) ((tokL tokZ).toArray) kR rfl gw ?_; clear S; intro g18 w S) | ((with_reducible refine iO none (.store 34 (.tmp 18) (.tmp 62)) ?_); refine step_store S 34 (.tmp 18) (.tmp 62) _ _ rfl rfl _ _ pk 36 kR lN lN on1 gw ?_; clear S; intro w S) | ((with_reducible refine iO _ (.load 34 _) ?_); first | (refine step_load S 34 _ _ rfl _ _ _ pk _ Tryd.underlying34 rfl 36 kR lN gw ?_) | (refine step_loadO 34 _ _ rfl _ _ _ (S.old_heap (Hid.out (by assumption))) _ Tryd.underlying34 rfl 36 kR lN gw ?_) | (refine step_loadR 34 _ _ _ rfl _ (S.old_range hy) _ Tryd.underlying34 rfl 36 kR lN _ rfl gw ?_)) | ((with_reducible refine iO none (.store 34 (.tmp 13) (.tmp 65)) ?_); refine step_store S 34 (.tmp 13) (.tmp 65) _ _ rfl rfl _ _ pk 36 kR lN lN on1 gw ?_; clear S; intro w S) | fail)
      refine ret_tct rfl g13 34 _ (S.get (r := blk g13 _) pk) _ Tryd.underlying34 36 kR (tokL_size _) rfl rfl rfl ?_
      exact ⟨_, rfl, S.nil.nilM⟩
  case inr.inr.inr.inl.inr =>
    cases tb <;> cases kb <;> simp only [Bool.true_eq_false, or_self, or_true, true_or] at hb
    all_goals
      go_enter Tryd.func11, Tryd.ntmps11
      go_wp2_with (first | ((with_reducible refine iD 13 (.alloc 34) ?_); refine step_alloc (dst := some 13) S 34 (.agg ((tokL tokZ).toArray)) ((tokL tokZ).toArray) kR rfl gw ?_; clear S; intro g13 w S) | (go_at_call 40; (with_reducible refine (P1.out _ _ sL).mono ?_); rintro e w1 ⟨v15, rfl, T⟩; replace S := S.call T; clear T; (try simp only [z4, z5] at S)) | (go_at_call 27; (with_reducible refine (P2.out _).mono ?_); rintro e w1 ⟨rfl, T⟩; replace S := S.call T; clear T; (try simp only [z4, z5] at S)) | (go_at_call 29; (with_reducible refine (P3.out _ _ (S.oldB H2.out)).mono ?_); rintro e w1 ⟨rfl, T⟩; replace S := S.call T; clear T; (try simp only [z4, z5] at S)) | ((with_reducible refine iD 46 (.build 34 _) ?_); refine step_buildZ 34 (.agg ((tokL tokZ).toArray)) (fun w => by kernel_rfl) gw ?_) | ((with_reducible refine iO none (.store 34 (.tmp 13) (.tmp 46)) ?_); refine step_store S 34 (.tmp 13) (.tmp 46) _ _ rfl rfl _ _ pk 36 kR lN lN on1 gw ?_; clear S; intro w S) | ((with_reducible refine iO _ (.load 25 _) ?_); refine step_load1 25 _ _ _ rfl (cL) _ Tryd.underlying25 rfl gw ?_) | ((with_reducible refine iD 18 (.alloc 34) ?_); refine step_alloc (dst := some 18) S 34 (.agg ((tokL tokZ).toArray)) ((tokL tokZ).toArray) kR rfl gw ?_; clear S; intro g18 w S) | ((with_reducible refine iO none (.store 34 (.tmp 18) (.tmp 62)) ?_); refine step_store S 34 (.tmp 18) (.tmp 62) _ _ rfl rfl _ _ pk 36 kR lN lN on1 gw ?_; clear S; intro w S) | ((with_reducible refine iO _ (.load 34 _) ?_); first | (refine step_load S 34 _ _ rfl _ _ _ pk _ Tryd.underlying34 rfl 36 kR lN gw ?_) | (refine step_loadO 34 _ _ rfl _ _ _ (S.old_heap (Hid.out (by assumption))) _ Tryd.underlying34 rfl 36 kR lN gw ?_) | (refine step_loadR 34 _ _ _ rfl _ (S.old_range hy) _ Tryd.underlying34 rfl 36 kR lN _ rfl gw ?_)) | ((with_reducible refine iO none (.store 34 (.tmp 13) (.tmp 65)) ?_); refine step_store S 34 (.tmp 13) (.tmp 65) _ _ rfl rfl _ _ pk 36 kR lN lN on1 gw ?_; clear S; intro w S) | fail)
      refine ret_tct rfl g13 34 _ (S.get (r := blk g13 _) pk) _ Tryd.underlying34 36 kR (tokL_size _) rfl rfl rfl ?_
      exact ⟨_, rfl, S.nil.nilM⟩
  all_goals
    go_enter Tryd.func11, Tryd.ntmps11
    go_wp2_with (first | ((with_reducible refine iD 13 (.alloc 34) ?_); refine step_alloc (dst := some 13) S 34 (.agg ((tokL tokZ).toArray)) ((tokL tokZ).toArray) kR rfl gw ?_; clear S; intro g13 w S) | (go_at_call 40; (with_reducible refine (P1.out _ _ sL).mono ?_); rintro e w1 ⟨v15, rfl, T⟩; replace S := S.call T; clear T; (try simp only [z4, z5] at S)) | (go_at_call 27; (with_reducible refine (P2.out _).mono ?_); rintro e w1 ⟨rfl, T⟩; replace S := S.call T; clear T; (try simp only [z4, z5] at S)) | (go_at_call 29; (with_reducible refine (P3.out _ _ (S.oldB H2.out)).mono ?_); rintro e w1 ⟨rfl, T⟩; replace S := S.call T; clear T; (try simp only [z4, z5] at S)) | ((with_reducible refine iD 46 (.build 34 _) ?_); refine step_buildZ 34 (.agg ((tokL tokZ).toArray)) (fun w => by kernel_rfl) gw ?_) | ((with_reducible refine iO none (.store 34 (.tmp 13) (.tmp 46)) ?_); refine step_store S 34 (.tmp 13) (.tmp 46) _ _ rfl rfl _ _ pk 36 kR lN lN on1 gw ?_; clear S; intro w S) | ((with_reducible refine iO _ (.load 25 _) ?_); refine step_load1 25 _ _ _ rfl (cL) _ Tryd.underlying25 rfl gw ?_) | ((with_reducible refine iD 18 (.alloc 34) ?_); refine step_alloc (dst := some 18) S 34 (.agg ((tokL tokZ).toArray)) ((tokL tokZ).toArray) kR rfl gw ?_; clear S; intro g18 w S) | ((with_reducible refine iO none (.store 34 (.tmp 18) (.tmp 62)) ?_); refine step_store S 34 (.tmp 18) (.tmp 62) _ _ rfl rfl _ _ pk 36 kR lN lN on1 gw ?_; clear S; intro w S) | ((with_reducible refine iO _ (.load 34 _) ?_); first | (refine step_load S 34 _ _ rfl _ _ _ pk _ Tryd.underlying34 rfl 36 kR lN gw ?_) | (refine step_loadO 34 _ _ rfl _ _ _ (S.old_heap (Hid.out (by assumption))) _ Tryd.underlying34 rfl 36 kR lN gw ?_) | (refine step_loadR 34 _ _ _ rfl _ (S.old_range hy) _ Tryd.underlying34 rfl 36 kR lN _ rfl gw ?_)) | ((with_reducible refine iO none (.store 34 (.tmp 13) (.tmp 65)) ?_); refine step_store S 34 (.tmp 13) (.tmp 65) _ _ rfl rfl _ _ pk 36 kR lN lN on1 gw ?_; clear S; intro w S) | fail)
    refine ret_tct rfl g13 34 _ (S.get (r := blk g13 _) pk) _ Tryd.underlying34 36 kR (tokL_size _) rfl rfl rfl ?_
    exact ⟨_, rfl, S.nil.nilM⟩

set_option maxRecDepth 100000 in
set_option maxHeartbeats 8000000 in
theorem issue_ok (v1 v2 : Value) (l : List Mnt) (key : List UInt8) (tenant : Int) (role life now : Nat) (w0 : World) (h1 : Rg w0 v1 l) (h2 : Bs w0 v2 key) (hK : KT w0) (hl : l.length ≤ 32) (ht : 0 ≤ tenant ∧ tenant < 3) (hr : role < 256) (hv : vkB key = true) (T0 : Tok) (M : Mnt)
    (hT0 : T0 = ⟨UInt8.ofNat tenant.toNat, M.role, M.expiry, UInt32.ofNat (l.length + 1), zs32, rfl⟩) (hM : M.role = UInt8.ofNat role)
    (p1 : ∀ v w, Rg w v l → Calls Tryd.prog 40 #[v, .int .u8 (role : Int), .int .u64 (life : Int), .int .u64 (now : Int)] w (MadeM3 w (l ++ [M]) (l.length + 1) 0)) :
    Calls Tryd.prog 11 #[v1, v2, .int .i64 tenant, .int .u8 (role : Int), .int .u64 (life : Int), .int .u64 (now : Int)] w0 (MadeMT w0 (l ++ [M]) (sgT key T0) 0) := by
  have S := Has.start w0
  obtain ⟨a1, c1, rfl, k1, k2⟩ := Sl.shape h1
  obtain ⟨a2, c2, rfl, k3, k4⟩ := Sl.shape h2
  unfold maxLen at k2 k4
  obtain ⟨ht1, ht2⟩ := ht
  have p2 := fun w => tenanted_s tenant w (by omega)
  have p3 := fun v w h => keyed_s v key w h
  have p4 := fun v w h k => sign_s v key T0 w h k
  rw [show tnB tenant = true from decide_eq_true ⟨ht1, ht2⟩] at p2
  rw [hv] at p3
  rw [show snT key T0 = sgT key T0 from if_pos hv, show snE key = 0 from if_pos hv] at p4
  have hxc := flat_cell mintL 3 mintL_length (l ++ [M]) l.length 1 M _ (by simp) rfl
  have f0 : ((UInt8.ofNat tenant.toNat).toNat : Int) = tenant := by rw [UInt8.toNat_ofNat']; omega
  have f1 : (M.role.toNat : Int) = (role : Int) := by rw [hM, UInt8.toNat_ofNat']; omega
  have f3 : ((UInt32.ofNat (l.length + 1)).toNat : Int) = (l.length : Int) + 1 := by rw [UInt32.toNat_ofNat']; omega
  have hl2 : (l ++ [M]).length = l.length + 1 := by simp
  have hl3 : (l ++ [M]).length ≠ 0 := by simp
  obtain ⟨R, hR⟩ : ∃ R, R = l ++ [M] := ⟨_, rfl⟩
  rw [← hR] at p1 hxc hl2 hl3 ⊢
  obtain ⟨T2, hT2⟩ : ∃ T2, T2 = sgT key T0 := ⟨_, rfl⟩
  rw [← hT2] at p4 ⊢
  have hw8 : IntKind.u8.wrap tenant = tenant := by rw [IntKind.wrap_u8]; omega
  have hml := (show (l.length : Int) < 33 by omega)
  clear hT2 hR hv
  have H1 := Lib.hid h1; have H2 := Lib.hid h2; have HK := Lib.hid hK; have P1 := Lib.hid p1; have P2 := Lib.hid p2; have P3 := Lib.hid p3; have P4 := Lib.hid p4; have HXC := Lib.hid hxc; have F0 := Lib.hid f0; have F1 := Lib.hid f1; have F3 := Lib.hid f3; have HL2 := Lib.hid hl2; have HL3 := Lib.hid hl3; have HT0 := Lib.hid hT0; have HM := Lib.hid hM; clear h1 h2 hK p1 p2 p3 p4 hxc f0 f1 f3 hl2 hl3 hT0 hM
  go_enter Tryd.func11, Tryd.ntmps11
  go_wp2_with (first | ((with_reducible refine iD 60 (.build 34 _) ?_); refine step_buildT4 (.tmp 51) (.tmp 52) (.tmp 58) (.tmp 59) (UInt8.ofNat tenant.toNat) M.role M.expiry (UInt32.ofNat (l.length + 1)) (show Value.int IntKind.u8 _ = Value.int IntKind.u8 _ by rw [F0.out]) (show Value.int IntKind.u8 _ = Value.int IntKind.u8 _ by rw [F1.out]) rfl (show Value.int IntKind.u32 _ = Value.int IntKind.u32 _ by rw [F3.out]) gw ?_; rw [← HT0.out]) | ((with_reducible refine iD 13 (.alloc 34) ?_); refine step_alloc (dst := some 13) S 34 (.agg ((tokL tokZ).toArray)) ((tokL tokZ).toArray) kR rfl gw ?_; clear S; intro g13 w S) | (go_at_call 40; (with_reducible refine (P1.out _ _ sL).mono ?_); rintro e w1 ⟨v15, rfl, T⟩; replace S := S.call T; clear T; (try simp only [z4, z5] at S); obtain ⟨g15, c15, rfl, _⟩ := S.row_at (v := v15) pk HL3.out; rw [HL2.out]) | (go_at_call 27; (with_reducible refine (P2.out _).mono ?_); rintro e w1 ⟨rfl, T⟩; replace S := S.call T; clear T; (try simp only [z4, z5] at S)) | (go_at_call 29; (with_reducible refine (P3.out _ _ (S.oldB H2.out)).mono ?_); rintro e w1 ⟨rfl, T⟩; replace S := S.call T; clear T; (try simp only [z4, z5] at S)) | ((with_reducible refine iD 46 (.build 34 _) ?_); refine step_buildZ 34 (.agg ((tokL tokZ).toArray)) (fun w => by kernel_rfl) gw ?_) | ((with_reducible refine iO none (.store 34 (.tmp 13) (.tmp 46)) ?_); refine step_store S 34 (.tmp 13) (.tmp 46) _ _ rfl rfl _ _ pk 36 kR lN lN on1 gw ?_; clear S; intro w S) | ((with_reducible refine iO _ (.load 25 _) ?_); refine step_load1 25 _ _ _ rfl (cL) _ Tryd.underlying25 rfl gw ?_) | (go_at_call 9; (with_reducible refine (P4.out _ _ (S.oldB H2.out) kT).mono ?_); rintro e w1 ⟨rfl, T⟩; replace S := S.call T; clear T; (try simp only [z4, z5] at S)) | ((with_reducible refine iD 18 (.alloc 34) ?_); refine step_alloc (dst := some 18) S 34 (.agg ((tokL tokZ).toArray)) ((tokL tokZ).toArray) kR rfl gw ?_; clear S; intro g18 w S) | ((with_reducible refine iO none (.store 34 (.tmp 18) (.tmp 62)) ?_); refine step_store S 34 (.tmp 18) (.tmp 62) _ _ rfl rfl _ _ pk 36 kR lN lN on1 gw ?_; clear S; intro w S) | ((with_reducible refine iO _ (.load 34 _) ?_); first | (refine step_load S 34 _ _ rfl _ _ _ pk _ Tryd.underlying34 rfl 36 kR lN gw ?_) | (refine step_loadO 34 _ _ rfl _ _ _ (S.old_heap (Hid.out (by assumption))) _ Tryd.underlying34 rfl 36 kR lN gw ?_) | (refine step_loadR 34 _ _ _ rfl _ (S.old_range hy) _ Tryd.underlying34 rfl 36 kR lN _ rfl gw ?_)) | ((with_reducible refine iO none (.store 34 (.tmp 13) (.tmp 65)) ?_); refine step_store S 34 (.tmp 13) (.tmp 65) _ _ rfl rfl _ _ pk 36 kR lN lN on1 gw ?_; clear S; intro w S) | fail)
  refine wp_relyW (e1 := blk g13 (.cells (tokL T2).toArray 34 (0, 0))) 4 (S.pick (r := blk g13 _) pk) [⟨[], [], [], fun _ v => v = (.slice (some ⟨g15, 0, none⟩) (l.length + 1) c15), fun _ v => []⟩, ⟨[], [], [], fun _ v => v = .agg (tokL T2).toArray, fun _ v => []⟩, ⟨[], [], [], fun _ v => v = (.int .i64 0), fun _ v => []⟩, ⟨[0], [], [], fun _ v => v = ((.slice (some ⟨g15, 0, none⟩) (l.length + 1) c15)), fun _ v => []⟩, ⟨[0, 1, 3], [], [], fun _ v => True, fun _ v => []⟩, ⟨[0, 1, 2, 3, 4], [], [], fun _ v => v = ((.int .i64 0)), fun _ v => []⟩] ?A1 ?hA1 kR kR kR [0, 1, 2, 3, 4, 5] kR (of_decide_eq_true rfl) ?hok1 ?fin1
  case hA1 => intro u; simp only [putAll, List.length_cons, List.length_nil, Nat.zero_add, Nat.reduceAdd, dstAt, List.getElem?_toArray, List.getElem?_cons_zero, List.getElem?_cons_succ, Option.bind_some, Act.put, List.setIfInBounds_toArray, List.set_cons_zero, List.set_cons_succ]; rfl
  case hok1 =>
    intro i hi
    obtain rfl | rfl | rfl | rfl | rfl | rfl : i = 0 ∨ i = 1 ∨ i = 2 ∨ i = 3 ∨ i = 4 ∨ i = 5 := by simp only [List.length_cons, List.length_nil, Nat.zero_add, Nat.reduceAdd] at hi; omega
    · clear hi
      rw [if_neg (by decide)]; intro r0
      refine step_of rfl rfl rfl ?_
      intro u G w hf S
      simp only [resOf, spec, RSpec.resAt, z0, z1, z2, z3, z4, z5, z6, z7, ptrBlk] at S ⊢
      simp only [does]
      go_simp
      try first | exact S | exact ⟨vv, S⟩ | exact vv
    · clear hi
      rw [if_neg (by decide)]; intro r0
      refine step_of rfl rfl rfl ?_
      intro u G w hf S
      simp only [resOf, spec, RSpec.resAt, z0, z1, z2, z3, z4, z5, z6, z7, ptrBlk] at S ⊢
      refine does_load 34 (.tmp 18) g18 rfl _ _ _ (S.get (r := blk g18 _) pk) _ Tryd.underlying34 rfl 36 kR lN ?_; exact ⟨rfl, S⟩
    · clear hi
      rw [if_neg (by decide)]; intro r0
      refine step_of rfl rfl rfl ?_
      intro u G w hf S
      simp only [resOf, spec, RSpec.resAt, z0, z1, z2, z3, z4, z5, z6, z7, ptrBlk] at S ⊢
      simp only [does]
      go_simp
      try first | exact S | exact ⟨vv, S⟩ | exact vv
    · clear hi
      rw [if_neg (by decide)]; intro r0
      refine step_of rfl rfl rfl ?_
      intro u G w hf S
      have f0 : u 0 = (.slice (some ⟨g15, 0, none⟩) (l.length + 1) c15) := hf 0 (by simp)
      simp only [resOf, spec, RSpec.resAt, z0, z1, z2, z3, z4, z5, z6, z7, ptrBlk] at S ⊢
      simp only [f0]
      simp only [does]
      go_simp
      try first | exact S | exact ⟨vv, S⟩ | exact vv
    · clear hi
      rw [if_pos rfl]
      refine step_ofW rfl rfl rfl ?_
      intro u G w hf S
      have f1 : u 1 = .agg (tokL T2).toArray := hf 1 (by simp)
      simp only [resOf, spec, RSpec.resAt, z0, z1, z2, z3, z4, z5, z6, z7, ptrBlk] at S ⊢
      simp only [f1]
      refine does_store S 34 (.tmp 13) (.tmp 65) (tokL T2).toArray rfl rfl 36 kR (tokL_size _) (tokL_size _) (tokL_one _) ?_; intro w1 S; exact ⟨trivial, S⟩
    · clear hi
      rw [if_neg (by decide)]; intro r0
      refine step_of rfl rfl rfl ?_
      intro u G w hf S
      have f2 : u 2 = (.int .i64 0) := hf 2 (by simp)
      simp only [resOf, spec, RSpec.resAt, z0, z1, z2, z3, z4, z5, z6, z7, ptrBlk] at S ⊢
      simp only [f2]
      simp only [does]
      go_simp
      try first | exact S | exact ⟨vv, S⟩ | exact vv
  case fin1 =>
    intro u w hf S
    have f0 : u 0 = (.slice (some ⟨g15, 0, none⟩) (l.length + 1) c15) := hf 0 (by simp)
    have f1 : u 1 = .agg (tokL T2).toArray := hf 1 (by simp)
    have f2 : u 2 = (.int .i64 0) := hf 2 (by simp)
    have f3 : u 3 = ((.slice (some ⟨g15, 0, none⟩) (l.length + 1) c15)) := hf 3 (by simp)
    have f5 : u 5 = ((.int .i64 0)) := hf 5 (by simp)
    simp only [resOf, spec, RSpec.resAt, z0, z1, z2, z3, z4, z5, z6, z7, ptrBlk] at S
    clear hf
    simp only [List.length_cons, List.length_nil, Nat.zero_add, Nat.reduceAdd, List.drop_succ_cons, List.drop_zero, f0, f1, f2, f3, f5]
    clear f0 f1 f2 f3 f5
    go_wp2_with (first | ((with_reducible refine iD 13 (.alloc 34) ?_); refine step_alloc (dst := some 13) S 34 (.agg ((tokL tokZ).toArray)) ((tokL tokZ).toArray) kR rfl gw ?_; clear S; intro g13 w S) | ((with_reducible refine iD 46 (.build 34 _) ?_); refine step_buildZ 34 (.agg ((tokL tokZ).toArray)) (fun w => by kernel_rfl) gw ?_) | ((with_reducible refine iO none (.store 34 (.tmp 13) (.tmp 46)) ?_); refine step_store S 34 (.tmp 13) (.tmp 46) _ _ rfl rfl _ _ pk 36 kR lN lN on1 gw ?_; clear S; intro w S) | ((with_reducible refine iO _ (.load 25 _) ?_); refine step_load1 25 _ _ _ rfl (cL) _ Tryd.underlying25 rfl gw ?_) | ((with_reducible refine iD 18 (.alloc 34) ?_); refine step_alloc (dst := some 18) S 34 (.agg ((tokL tokZ).toArray)) ((tokL tokZ).toArray) kR rfl gw ?_; clear S; intro g18 w S) | ((with_reducible refine iO none (.store 34 (.tmp 18) (.tmp 62)) ?_); refine step_store S 34 (.tmp 18) (.tmp 62) _ _ rfl rfl _ _ pk 36 kR lN lN on1 gw ?_; clear S; intro w S) | ((with_reducible refine iO _ (.load 34 _) ?_); first | (refine step_load S 34 _ _ rfl _ _ _ pk _ Tryd.underlying34 rfl 36 kR lN gw ?_) | (refine step_loadO 34 _ _ rfl _ _ _ (S.old_heap (Hid.out (by assumption))) _ Tryd.underlying34 rfl 36 kR lN gw ?_) | (refine step_loadR 34 _ _ _ rfl _ (S.old_range hy) _ Tryd.underlying34 rfl 36 kR lN _ rfl gw ?_)) | ((with_reducible refine iO none (.store 34 (.tmp 13) (.tmp 65)) ?_); refine step_store S 34 (.tmp 13) (.tmp 65) _ _ rfl rfl _ _ pk 36 kR lN lN on1 gw ?_; clear S; intro w S) | fail)
    refine ret_tct rfl g13 34 _ (S.get (r := blk g13 _) pk) _ Tryd.underlying34 36 kR (tokL_size _) rfl rfl rfl ?_
    refine ⟨_, rfl, ?_⟩
    have S2 := S.sub (k := [rowM (.slice (some ⟨g15, 0, none⟩) R.length c15) R]) (by repeat (first | exact Sub.nil _ | refine Sub.cons pk ?_))
    rw [HL2.out] at S2
    show Has w0 _ [row (.slice (some ⟨g15, 0, none⟩) (l.length + 1) c15) 44 3 R.length (R.flatMap mintL)]
    exact S2

set_option maxRecDepth 100000 in
set_option maxHeartbeats 8000000 in
theorem issue_s (v1 v2 : Value) (l : List Mnt) (key : List UInt8) (tenant : Int) (role life now : Nat) (w0 : World) (h1 : Rg w0 v1 l) (h2 : Bs w0 v2 key) (hK : KT w0) (ht : -9223372036854775808 ≤ tenant ∧ tenant ≤ 9223372036854775807) (hr : role < 256) (hlf : life < 18446744073709551616) (hno : now < 18446744073709551616) :
    Calls Tryd.prog 11 #[v1, v2, .int .i64 tenant, .int .u8 (role : Int), .int .u64 (life : Int), .int .u64 (now : Int)] w0 (MadeMT w0 (issR l key tenant role life now) (issT l key tenant role life now) (issE l key tenant role life now)) := by
  have p1 := fun v w h => mint_r v l role life now w h hr hlf hno
  have p2 := fun w => tenanted_s tenant w ht
  have p3 := fun v w h => keyed_s v key w h
  by_cases hE : issE l key tenant role life now = 0
  · have hR : issR l key tenant role life now = mintR l role life now := if_pos hE
    have hT : issT l key tenant role life now = sgT key (bareT tenant role (expM now life) (l.length + 1)) := if_pos hE
    rw [hE, hR, hT]
    unfold issE at hE
    split at hE
    · omega
    · rename_i hc
      split at hE
      · cases hE
      · rename_i hb
        have hc : chkR l = 0 := by omega
        have hR2 : mintR l role life now = l ++ [mintM role life now] := if_pos hE
        have hN2 : mintN l role life now = l.length + 1 := if_pos hE
        rw [hE, hR2, hN2] at p1
        rw [hR2]
        have hb2 : tnB tenant = true ∧ vkB key = true := by
          cases hx : tnB tenant <;> cases hy : vkB key <;> simp_all
        have htn := of_decide_eq_true hb2.1
        exact issue_ok v1 v2 l key tenant role life now w0 h1 h2 hK (chkR_len l hc) htn hr hb2.2 (bareT tenant role (expM now life) (l.length + 1)) (mintM role life now) rfl rfl p1
  · have hR : issR l key tenant role life now = [] := if_neg hE
    have hT : issT l key tenant role life now = tokZ := if_neg hE
    rw [hR, hT]
    refine issue_err v1 v2 l key tenant role life now w0 h1 h2 ht _ _ _ _ _ _ p1 p2 p3 ?_
    have hmc := mintE_cases l role life now
    have hcc := chkR_cases l
    unfold issE at hE ⊢
    by_cases hc : chkR l = 0
    · have hm := hmc hc
      rw [if_neg (by omega)] at hE ⊢
      cases hx : tnB tenant <;> cases hy : vkB key <;> simp only [hx, hy, Bool.not_true, Bool.not_false, Bool.or_self, Bool.or_true, Bool.true_or, Bool.or_false, if_true, Bool.false_eq_true, if_false] at hE ⊢
      all_goals rcases hm with hm | hm | hm <;> simp_all
    · have hme : mintE l role life now = chkR l := if_pos hc
      rw [if_pos hc]
      rw [hme]
      rcases hcc with h | h | h
      · omega
      · exact .inl ⟨h, h⟩
      · exact .inr (.inl ⟨h, h⟩)

end Go.Proofs.YtmcefinhmihmnaaDoor
