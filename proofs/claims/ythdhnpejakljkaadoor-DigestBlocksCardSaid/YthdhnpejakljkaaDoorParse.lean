/- The bytes of a hexadecimal text: what the program's ParseHex and the specification's return for any string. No condition. -/
import Derived.Test.YthdhnpejakljkaaDoorHex
import Derived.Test.YthdhnpejakljkaaDoorPutU
set_option linter.unusedSimpArgs false
set_option linter.unusedVariables false
namespace Go.Proofs.YthdhnpejakljkaaDoor
open Go.RowKit

/-- The bytes of a hexadecimal text; none where it is none. -/
def parseB : List UInt8 → Option (List UInt8)
  | [] => some []
  | [_] => none
  | a :: b :: r => if digV a < 0 ∨ digV b < 0 then none else (parseB r).map fun ys => UInt8.ofNat (16 * (digV a).toNat + (digV b).toNat) :: ys

/-- ParseHex's error and bytes. -/
def parseE (s : List UInt8) : Int := if 16384 < s.length then 4 else if s.length % 2 ≠ 0 then 11 else match parseB s with | none => 11 | some _ => 0
def parseR (s : List UInt8) : List UInt8 := if 16384 < s.length then [] else if s.length % 2 ≠ 0 then [] else (parseB s).getD []

/-- How the text reads from place 2 k on, where the bytes before it are pre. -/
def AtK (s : List UInt8) (k : Nat) (pre : List UInt8) : Prop := parseB s = (parseB (s.drop (2 * k))).map (pre ++ ·) ∧ pre.length = k

theorem AtK.start (s : List UInt8) : AtK s 0 [] := ⟨by simp, rfl⟩

theorem AtK.end' {s : List UInt8} {k : Nat} {pre : List UInt8} (h : AtK s k pre) (hk : s.length = 2 * k) : parseB s = some pre := by
  have := h.1
  rw [List.drop_of_length_le (by omega)] at this
  simpa [parseB] using this

theorem AtK.bad {s : List UInt8} {k : Nat} {pre : List UInt8} (h : AtK s k pre) (a b : UInt8) (r : List UInt8) (hd : s.drop (2 * k) = a :: b :: r) (hb : digV a < 0 ∨ digV b < 0) : parseB s = none := by
  rw [h.1, hd, parseB, if_pos hb]; rfl

theorem AtK.step {s : List UInt8} {k : Nat} {pre : List UInt8} (h : AtK s k pre) (a b : UInt8) (r : List UInt8) (hd : s.drop (2 * k) = a :: b :: r) (hb : ¬ (digV a < 0 ∨ digV b < 0)) :
    AtK s (k + 1) (pre ++ [UInt8.ofNat (16 * (digV a).toNat + (digV b).toNat)]) := by
  refine ⟨?_, by simp [h.2]⟩
  have hd2 : s.drop (2 * (k + 1)) = r := by
    rw [show 2 * (k + 1) = 2 * k + 2 by omega, ← List.drop_drop, hd]
    rfl
  rw [h.1, hd, parseB, if_neg hb, hd2]
  cases parseB r <;> simp

theorem cut2 (s : List UInt8) (m : Nat) (h : m + 1 < s.length) : s.drop m = s[m] :: s[m + 1] :: s.drop (m + 2) := by
  rw [List.drop_eq_getElem_cons (by omega : m < s.length), List.drop_eq_getElem_cons (by omega : m + 1 < s.length)]

theorem byte_join (a b : Int) (h1 : 0 ≤ a) (h2 : a ≤ 15) (h3 : 0 ≤ b) (h4 : b ≤ 15) : 16 * a + b = ((UInt8.ofNat (16 * a.toNat + b.toNat)).toNat : Int) := by
  simp only [UInt8.toNat_ofNat']
  omega

theorem str_index (T : TypeId) (hT : Tryd.prog.underlying T = some .string) (s : ByteArray) (m : Nat) (c : UInt8) (hc : s.data.toList[m]? = some c) (w : World) :
    (Instr.index T (.string s) (.int .i64 (m : Int))).run Tryd.prog w = .ok (.int .u8 (c.toNat : Int)) w := by
  have hm : m < s.size := by
    have := (List.getElem?_eq_some_iff.1 hc).1
    simpa using this
  have hb : s[m] = c := by
    have := (List.getElem?_eq_some_iff.1 hc).2
    rw [← this]
    simp [ByteArray.getElem_eq_getElem_data]
  have hb' : (s[m]'hm).toNat = c.toNat := by rw [hb]
  simp [Instr.index, run_underlying hT, asIntOf, hm, hb']

theorem or16 (a b : Int) (h1 : 0 ≤ a) (h2 : a ≤ 15) (h3 : 0 ≤ b) (h4 : b ≤ 15) : bits .or .i64 (a * 16) b = 16 * a + b := by
  have h : ∀ x y : Fin 16, bits .or .i64 ((x.val : Int) * 16) (y.val : Int) = 16 * (x.val : Int) + (y.val : Int) := by decide +kernel
  have := h ⟨a.toNat, by omega⟩ ⟨b.toNat, by omega⟩
  simp only [Int.toNat_of_nonneg h1, Int.toNat_of_nonneg h3] at this
  exact this

theorem parse_ok {L pre : List UInt8} {k : Nat} (h : AtK L k pre) (h1 : ¬ 16384 < L.length) (h2 : ¬ L.length % 2 ≠ 0) (hk : L.length = 2 * k) : parseE L = 0 ∧ parseR L = pre := by
  have := h.end' hk
  unfold parseE parseR
  rw [if_neg h1, if_neg h2, if_neg h1, if_neg h2, this]
  exact ⟨rfl, rfl⟩

theorem parse_bad {L : List UInt8} (h1 : ¬ 16384 < L.length) (h2 : ¬ L.length % 2 ≠ 0) (h : parseB L = none) : parseE L = 11 ∧ parseR L = [] := by
  unfold parseE parseR
  rw [if_neg h1, if_neg h2, if_neg h1, if_neg h2, h]
  exact ⟨rfl, rfl⟩

set_option maxRecDepth 20000 in
set_option maxHeartbeats 1600000 in
theorem parse_any (s : ByteArray) (L : List UInt8) (w : World) (hL : s.data.toList = L) :
    Calls Tryd.prog 38 #[.string s] w (FreshE w (parseR L) (parseE L)) := by
  have hsz : s.size = L.length := by rw [← hL]; simp
  by_cases h1 : 16384 < L.length
  · have he : parseE L = 4 := if_pos h1
    have hr : parseR L = [] := if_pos h1
    have h1' : 16384 < (s.size : Int) := by omega
    rw [he, hr]; clear he hr h1 hsz hL
    go_enter Tryd.func38, Tryd.ntmps38
    go_wp2_with fail
    go_ret2
    exact ⟨_, rfl, World.ownsRow_nil _ _ _ _, Below.refl _ _⟩
  · by_cases h2 : L.length % 2 ≠ 0
    · have he : parseE L = 11 := by unfold parseE; rw [if_neg h1, if_pos h2]
      have hr : parseR L = [] := by unfold parseR; rw [if_neg h1, if_pos h2]
      have h1' : (s.size : Int) ≤ 16384 := by omega
      have ht : ((s.size : Int) % 2 != 0) = true := by rw [bne_iff_ne]; omega
      rw [he, hr]; clear he hr h1 h2 hsz hL
      go_enter Tryd.func38, Tryd.ntmps38
      go_wp2_with fail
      go_ret2
      exact ⟨_, rfl, World.ownsRow_nil _ _ _ _, Below.refl _ _⟩
    · have h1' : (s.size : Int) ≤ 16384 := by omega
      have hev : ∃ n, L.length = 2 * n := ⟨L.length / 2, by omega⟩
      have ht : ((s.size : Int) % 2 != 0) = false := by simp; omega
      have hd : decide (16384 < (s.size : Int)) = false := by simp; omega
      have HL := Lib.hid hL; have HS := Lib.hid hsz; have H1 := Lib.hid h1; have H2 := Lib.hid h2; have HE := Lib.hid hev; clear hL hsz h1 h2 hev
      go_enter Tryd.func38, Tryd.ntmps38
      go_wp2_with fail
      go_loopw [4, 5] (fun o i wr => ∃ (k m : Nat) (pre : List UInt8), m = 2 * k ∧ m ≤ s.size ∧ i = .int .i64 (m : Int) ∧ AtK L k pre ∧ wr.ownsRow w.heap.size 5 1 o k (pre.map by8) ∧ Below w.heap.size w wr) (fun _ i _ => s.size - (intOf i).toNat)
      case atStart => exact ⟨0, 0, [], rfl, Nat.zero_le _, rfl, AtK.start L, World.ownsRow_nil _ _ _ _, Below.refl _ _⟩
      case round =>
        obtain ⟨k, m, pre, hm, hms, rfl, hat, hown, hb⟩ := hrel
        have HM := Lib.hid hm; have HA := Lib.hid hat; have HO := Lib.hid hown; have HB := Lib.hid hb; clear hm hat hown hb
        by_cases hlt : m < s.size
        · have hm1 : m + 1 < L.length := by obtain ⟨n, hn⟩ := HE.out; have := HM.out; have := HS.out; omega
          obtain ⟨a, ha⟩ : ∃ a, L[m]? = some a := ⟨_, List.getElem?_eq_getElem (by omega)⟩
          obtain ⟨b, hb⟩ : ∃ b, L[m + 1]? = some b := ⟨_, List.getElem?_eq_getElem hm1⟩
          have hcut : L.drop (2 * k) = a :: b :: L.drop (m + 2) := by
            rw [← HM.out, cut2 L m hm1]
            rw [List.getElem?_eq_getElem (by omega)] at ha hb
            simp only [Option.some.injEq] at ha hb
            rw [ha, hb]
          have hi1 := fun w1 => str_index 9 Tryd.underlying9 s m a (by rw [HL.out]; exact ha) w1
          have hi2 : ∀ w1, (Instr.index 9 (.string s) (.int .i64 ((m : Int) + 1))).run Tryd.prog w1 = .ok (.int .u8 (b.toNat : Int)) w1 := fun w1 => str_index 9 Tryd.underlying9 s (m + 1) b (by rw [HL.out]; exact hb) w1
          have hw1 : IntKind.i64.wrap ((m : Int) + 1) = (m : Int) + 1 := IntWalk.i64_in _ (by omega)
          have HC := Lib.hid hcut; clear hcut ha hb
          obtain ⟨ba1, ba2⟩ := digV_bounds a
          obtain ⟨bb1, bb2⟩ := digV_bounds b
          go_wp2_with fail
          go_quiet ((go_at_call 58; exact Calls.quiet_of_same (indexByte_any _ _)))
          clear hi1 hi2 hw1
          by_cases hbad : digV a < 0 ∨ digV b < 0
          · have hp := parse_bad H1.out H2.out (HA.out.bad a b _ HC.out hbad)
            have HP := Lib.hid hp; clear hp
            have hsp : digV a < 0 ∨ (0 ≤ digV a ∧ digV b < 0) := by omega
            clear hbad
            rcases hsp with hsp | ⟨hsp, hsp2⟩
            all_goals
              go_wp2_with fail
              go_ret2
              rw [HP.out.1, HP.out.2]
              exact ⟨_, rfl, World.ownsRow_nil _ _ _ _, below_drewN HB.out _⟩
          · have hst := HA.out.step a b _ HC.out hbad
            have HST := Lib.hid hst; clear hst
            have hge : 0 ≤ digV a ∧ 0 ≤ digV b := by omega
            obtain ⟨hge1, hge2⟩ := hge
            have hor := or16 (digV a) (digV b) hge1 ba2 hge2 bb2
            have hbj := byte_join (digV a) (digV b) hge1 ba2 hge2 bb2
            have HJ := Lib.hid hbj; clear hbj hbad
            have hown2 : (wr.drewN nq).ownsRow w.heap.size 5 1 u4 k (pre.map by8) := HO.out
            have hb2 : Below w.heap.size w (wr.drewN nq) := below_drewN HB.out nq
            have hk2 : k ≤ 8192 := by have := HM.out; omega
            have HO2 := Lib.hid hown2; have HB2 := Lib.hid hb2; clear hown2 hb2
            go_wp2_with (at_builtin; refine wpList_append_grew _ rfl (.tmp 36) (.tmp 42) 27 rfl w.heap.size 5 (.int .u8 0) 1 1 Tryd.underlying27 Tryd.infoB rfl (by decide) _ _ _ rfl (HO2.out.alloc _) _ 1 [.int .u8 (16 * digV a + digV b)] rfl (Sl.one _ _ _) ?c1 ?c2 ?c3 ?c4 ?_)
            case c1 => intro u hu; simp at hu; subst hu; rfl
            case c2 => unfold maxLen; omega
            case c3 => omega
            case c4 => have := HB.out.size; simp; omega
            intro v' w1 hown' hgrow
            have hbel := HB2.out.trans (((Below.refl _ _).alloc HB2.out.size _).trans (hgrow.belowOwn (HO2.out.alloc _) (Nat.le_refl _) (by have := HB.out.size; simp; omega)))
            have hR := own_eq (n' := k + 1) (xs' := (pre ++ [UInt8.ofNat (16 * (digV a).toNat + (digV b).toNat)]).map by8) hown' (by omega) (by rw [HJ.out]; simp)
            have HR := Lib.hid hR; have HBL := Lib.hid hbel; clear hR hbel hown' hgrow HO2 HB2
            go_wp2_with fail
            go_roundw
            case rel => exact ⟨k + 1, m + 2, _, by have := HM.out; omega, by have := HS.out; omega, by go_num, HST.out, HR.out, HBL.out⟩
            case measure => simp [intOf]; omega
        · obtain ⟨n, hn⟩ := HE.out
          have hp := parse_ok HA.out H1.out H2.out (by have := HM.out; have := HS.out; omega)
          have HP := Lib.hid hp; clear hp hn
          have hk := HA.out.2
          have HK := Lib.hid hk; clear hk
          go_wp2_with fail
          go_ret2
          rw [HP.out.1, HP.out.2]
          exact ⟨_, rfl, by rw [HK.out]; exact HO.out, HB.out⟩

/-- What a call leaves that returns bytes in new memory and whether they are right. -/
def FreshI (w : World) (xs : List UInt8) (is : Bool) (e : Ending) (w' : World) : Prop :=
  ∃ v', e = .returned (.tuple #[v', .bool is]) ∧ w'.ownsRow w.heap.size 5 1 v' xs.length (xs.map by8) ∧ Below w.heap.size w w'

theorem digN_bad (a : UInt8) (h : digV a < 0) : digN a = 16 := by unfold digN; rw [if_pos h]
theorem digN_good (a : UInt8) (h : 0 ≤ digV a) : digN a = digV a := by unfold digN; rw [if_neg (by omega)]

end Go.Proofs.YthdhnpejakljkaaDoor
