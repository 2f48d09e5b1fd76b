/- The method 'read' of a body, whichever it is. No condition but the reach. -/
import Derived.Test.YtfhkmmagpnojmaaZRpN
set_option linter.unusedSimpArgs false
set_option linter.unusedVariables false
namespace Go.Proofs.Ytfhkmmagpnojmaa
open Go.RowKit

/-- How many bytes a body takes; its fields as they are read. -/
def rdZ (q : BK) (b : List UInt8) (p : Nat) : Nat := match q with
  | .n => 0 | .o => 2 | .s => 9 | .w => 2 + 4 * atB b p 1 | .c => 5 + 43 * atB b (p + 4) 1 | .t => 46
def rdX (q : BK) (b : List UInt8) (p : Nat) : Rp := match q with
  | .n => rpZ
  | .o => { rpZ with order := i64N (atB b p 2) }
  | .s => { rpZ with state := UInt8.ofNat (atB b p 1), done := UInt64.ofNat (atB b (p + 1) 8) }
  | .w => { rpZ with robots := sgR b p (atB b p 1), queued := i64N (atB b (p + 1 + 4 * atB b p 1) 1) }
  | .c => { rpZ with count := UInt32.ofNat (atB b p 4), records := rcR b p (atB b (p + 4) 1) }
  | .t => { rpZ with tok := decT ((b.drop p).take 46) }
def ReadQ (w0 : World) (g : Nat) (bv : Value) (b : List UInt8) (p : Nat) (q : BK) (F : List Res) (e : Ending) (w' : World) : Prop :=
  (p + rdZ q b p ≤ b.length ∧ ∃ ar nr cr ac nc cc, e = .returned (bodyK q (rdX q b p) (.slice ar nr cr) (.slice ac nc cc)) ∧ Has w0 w' (rdr g bv (p + rdZ q b p) :: rowSg (.slice ar nr cr) (rdX q b p).robots :: rowRc (.slice ac nc cc) (rdX q b p).records :: F)) ∨
  (b.length < p + rdZ q b p ∧ e = .panicked [erl] ∧ ∃ q', Has w0 w' (rdr g bv q' :: F))
theorem Has.nilSgRc {w0 w : World} {r : Res} {F : List Res} (S : Has w0 w (r :: F)) : Has w0 w (r :: rowSg nilV [] :: rowRc nilV [] :: F) := by
  have h1 := S.nil_row 106 35
  have h2 := h1.nil_row 101 3
  exact h2.perm (List.perm_append_comm (l₁ := [rowSg nilV [], rowRc nilV []]) (l₂ := [r]) |>.append_right F)
theorem Has.nilRc1 {w0 w : World} {r s : Res} {F : List Res} (S : Has w0 w (r :: s :: F)) : Has w0 w (r :: s :: rowRc nilV [] :: F) := by
  have h1 := S.nil_row 106 35
  exact h1.perm (List.perm_append_comm (l₁ := [rowRc nilV []]) (l₂ := [r, s]) |>.append_right F)
theorem Has.nilSg1 {w0 w : World} {r s : Res} {F : List Res} (S : Has w0 w (r :: s :: F)) : Has w0 w (r :: rowSg nilV [] :: s :: F) := by
  have h1 := S.nil_row 101 3
  exact h1.perm (List.perm_append_comm (l₁ := [rowSg nilV []]) (l₂ := [r]) |>.append_right (s :: F))
set_option maxRecDepth 100000 in
/-- The method 'read' of a body, whichever it is. -/
theorem bodyRead_s (q : BK) (r : Rp) (ar ac : Option Addr) (nr cr nc cc : Nat) : ∃ f a, (∀ u w, (callMethod (bodyK q r (.slice ar nr cr) (.slice ac nc cc)) "dunnage/wire.read" #[u]).run Try.prog w = .ok (.enter f #[a, u]) w) ∧
    ∀ g bv b p w0 w1 F, Has w0 w1 (rdr g bv p :: F) → Bs w0 bv b → p ≤ b.length → b.length ≤ 140737488355328 → Calls Try.prog f #[a, .pointer (some ⟨g, 0, none⟩)] w1 (ReadQ w0 g bv b p q F) := by
  cases q with
  | n => exact ⟨95, .agg #[], fun u w => by kernel_rfl, fun g bv b p w0 w1 F S hb hp hl => (nothingRead_s _ _ rfl _ w0 w1 _ S).mono fun e w' h => .inl ⟨hp, none, 0, 0, none, 0, 0, h.1, h.2.nilSgRc⟩⟩
  | o => exact ⟨98, .int .i64 r.order.v, fun u w => by kernel_rfl, fun g bv b p w0 w1 F S hb hp hl => (orderRead_s _ g bv b p w0 w1 F S hb hp hl).mono fun e w' h => by
      rcases h with ⟨h1, h2, h3⟩ | h
      · refine .inl ⟨h1, none, 0, 0, none, 0, 0, ?_, h3.nilSgRc⟩
        rw [h2, ← i2_at]
        rfl
      · exact .inr h⟩
  | s => exact ⟨101, .agg #[.int .u8 (r.state.toNat : Int), .int .u64 (r.done.toNat : Int)], fun u w => by kernel_rfl, fun g bv b p w0 w1 F S hb hp hl => (stateRead_s _ g bv b p w0 w1 F S hb hp hl).mono fun e w' h => by
      rcases h with ⟨h1, h2, h3⟩ | h
      · refine .inl ⟨h1, none, 0, 0, none, 0, 0, ?_, h3.nilSgRc⟩
        rw [h2]
        show _ = Ending.returned (.iface _ (.agg #[.int .u8 ((UInt8.ofNat (atB b p 1)).toNat : Int), .int .u64 ((UInt64.ofNat (atB b (p + 1) 8)).toNat : Int)]))
        rw [u8_at, u64_at]
      · exact .inr h⟩
  | w => exact ⟨104, .agg #[.slice ar nr cr, .int .i64 r.queued.v], fun u w => by kernel_rfl, fun g bv b p w0 w1 F S hb hp hl => (watchRead_s _ g bv b p w0 w1 F S hb hp hl).mono fun e w' h => by
      rcases h with ⟨h1, a, c, h2, h3⟩ | ⟨h1, h2, h3⟩
      · have e1 : p + rdZ .w b p = p + 2 + 4 * atB b p 1 := by show p + (2 + 4 * atB b p 1) = _; omega
        refine .inl ⟨by rw [e1]; exact h1, a, atB b p 1, c, none, 0, 0, ?_, by rw [e1]; exact h3.nilRc1⟩
        rw [h2, ← i1_at]
        rfl
      · exact .inr ⟨by show b.length < p + (2 + 4 * atB b p 1); omega, h2, h3⟩⟩
  | c => exact ⟨110, .agg #[.int .u32 (r.count.toNat : Int), .slice ac nc cc], fun u w => by kernel_rfl, fun g bv b p w0 w1 F S hb hp hl => (chainRead_s _ g bv b p w0 w1 F S hb hp hl).mono fun e w' h => by
      rcases h with ⟨h1, a, c, h2, h3⟩ | ⟨h1, h2, h3⟩
      · have e1 : p + rdZ .c b p = p + 5 + 43 * atB b (p + 4) 1 := by show p + (5 + 43 * atB b (p + 4) 1) = _; omega
        refine .inl ⟨by rw [e1]; exact h1, none, 0, 0, a, atB b (p + 4) 1, c, ?_, by rw [e1]; exact h3.nilSg1⟩
        rw [h2]
        show _ = Ending.returned (.iface _ (.agg #[.int .u32 ((UInt32.ofNat (atB b p 4)).toNat : Int), _]))
        rw [u32_at]
      · exact .inr ⟨by show b.length < p + (5 + 43 * atB b (p + 4) 1); omega, h2, h3⟩⟩
  | t => exact ⟨84, .agg (tokL r.tok).toArray, fun u w => by kernel_rfl, fun g bv b p w0 w1 F S hb hp hl => (ticketRead_s _ g bv b p w0 w1 F S hb hp hl).mono fun e w' h => by
      rcases h with ⟨h1, h2, h3⟩ | h
      · exact .inl ⟨h1, none, 0, 0, none, 0, 0, h2, h3.nilSgRc⟩
      · exact .inr h⟩
end Go.Proofs.Ytfhkmmagpnojmaa
