/- The encoding of a request: the program's. No condition but the reach. -/
import Derived.Test.YtfhkmmagpnojmaaZBd
import Derived.Test.YtfhkmmagpnojmaaZChkR
set_option linter.unusedSimpArgs false
set_option linter.unusedVariables false
namespace Go.Proofs.Ytfhkmmagpnojmaa
open Go.RowKit

set_option maxRecDepth 100000 in
set_option maxHeartbeats 4000000 in
theorem ticketWrite_s (t : Tok) (g : Nat) (vv : Value) (xs : List UInt8) (w0 w1 : World) (F : List Res) (S : Has w0 w1 (wrt g vv :: row8 vv xs :: F)) (hl : xs.length + 46 ≤ 140737488355328) :
    Calls Try.prog 27 #[.agg (tokL t).toArray, .pointer (some ⟨g, 0, none⟩)] w1 (Wrote w0 g (xs ++ encT t) F) := by
  have p1 := fun w => enc_s t w
  have h1 : xs.length + (encT t).length ≤ 140737488355328 := by rw [encT_length]; exact hl
  obtain ⟨E, hE⟩ : ∃ E, E = encT t := ⟨_, rfl⟩
  rw [← hE] at p1 h1 ⊢
  have P1 := Lib.hid p1; have H1 := Lib.hid h1; clear p1 h1
  clear hE hl
  go_enter Try.func27, Try.ntmps27
  go_wp2_with (first | ((with_reducible refine iD 2 (.box 73 (.tmp 0)) ?_); refine step_boxA (dst := some 2) S 73 (.tmp 0) _ rfl rfl ?_; clear S; intro g2 w S) | ((with_reducible refine iO _ (.load 22 _) ?_); refine step_load1 22 _ _ _ rfl (cL) _ Try.underlying22 rfl rfl ?_) | ((with_reducible refine iO _ (.load 73 _) ?_); first | (refine step_load S 73 _ _ rfl _ _ _ pk _ Try.underlying73 rfl 36 kR lN rfl ?_) | (refine step_loadO 73 _ _ rfl _ _ _ (S.old_heap (Hid.out (by assumption))) _ Try.underlying73 rfl 36 kR lN rfl ?_) | (refine step_loadR 73 _ _ _ rfl _ (S.old_range hy) _ Try.underlying73 rfl 36 kR lN _ rfl rfl ?_)) | (at_builtin; refine step_append8 S (.tmp 8) (.tmp 10) _ _ rfl pk _ _ rfl bS lE rfl ?_; clear S; intro v11 w S; (try simp only [z4] at S)) | ((with_reducible refine iO none (.store 22 (.tmp 13) (.tmp 11)) ?_); first | (refine step_store1 S 22 (.tmp 13) (.tmp 11) _ _ (.slice _ _ _) rfl rfl _ _ pk kR rfl rfl lN rfl ?_; clear S; intro w S; try simp only [List.setIfInBounds_toArray, List.set_cons_zero, List.set_cons_succ] at S) | (refine step_storeR S 22 (.tmp 13) (.tmp 11) _ _ (.slice _ _ _) rfl rfl _ _ _ _ pk lE kR rfl rfl rfl ?_; clear S; intro w S) | (refine step_storeS S 22 (.tmp 13) (.tmp 11) _ _ (.slice _ _ _) rfl rfl _ _ _ _ _ pk lE kR rfl rfl rfl ?_; clear S; intro w S)) | fail)
  have S := (S.pick2 (r := wrt g vv) (s := row8 vv xs) pk pk).join
  refine wp_relyW (e1 := noRes) 4 (S.pick (r := both (wrt g vv) (row8 vv xs)) pk) [⟨[], [], [], fun _ v => v = (.pointer (some ⟨g, 0, none⟩)), fun _ v => []⟩, ⟨[], [], [], fun _ v => v = (.pointer (some ⟨g, 0, none⟩)), fun _ v => []⟩, ⟨[1], [], [], fun _ v => v = .pointer (some ⟨g, 0, none⟩), fun _ v => []⟩, ⟨[1, 2], [], [], fun _ v => v = .pointer (some ⟨g, 0, none⟩), fun _ v => []⟩, ⟨[1, 2, 3], [], [], fun _ v => v = vv, fun _ v => [wrt g vv, row8 vv xs]⟩, ⟨[], [], [], fun _ v => v = .agg (tokL t).toArray, fun _ v => []⟩, ⟨[5], [], [], fun _ v => ∃ y, v = y, fun _ v => [row8 v E]⟩, ⟨[1, 2, 3, 4, 5, 6], [4, 6], [], fun _ v => True, fun _ v => [wrt g vv, row8 v (xs ++ E)]⟩, ⟨[0, 1, 2, 3, 4, 5, 6, 7], [], [], fun _ v => v = .pointer (some ⟨g, 0, none⟩), fun _ v => []⟩, ⟨[0, 1, 2, 3, 4, 5, 6, 7, 8], [], [], fun _ v => v = .pointer (some ⟨g, 0, none⟩), fun _ v => []⟩, ⟨[0, 1, 2, 3, 4, 5, 6, 7, 8, 9], [7], [], fun _ v => True, fun d v => [wrt g (d 7), row8 (d 7) (xs ++ E)]⟩] ?A1 ?hA1 kR kR kR [0, 1, 2, 3, 5, 8, 9, 10] kR (of_decide_eq_true rfl) ?hok1 ?fin1
  case hA1 => intro u; simp only [putAll, List.length_cons, List.length_nil, Nat.zero_add, Nat.reduceAdd, dstAt, List.getElem?_toArray, List.getElem?_cons_zero, List.getElem?_cons_succ, Option.bind_some, Act.put, List.setIfInBounds_toArray, List.set_cons_zero, List.set_cons_succ]; rfl
  case hok1 =>
    intro i hi
    obtain rfl | rfl | rfl | rfl | rfl | rfl | rfl | rfl | rfl | rfl | rfl : i = 0 ∨ i = 1 ∨ i = 2 ∨ i = 3 ∨ i = 4 ∨ i = 5 ∨ i = 6 ∨ i = 7 ∨ i = 8 ∨ i = 9 ∨ i = 10 := by simp only [List.length_cons, List.length_nil, Nat.zero_add, Nat.reduceAdd] at hi; omega
    · clear hi
      rw [if_neg (by decide)]; intro r0
      refine step_of rfl rfl rfl ?_
      intro u G w hf S
      simp only [resOf, spec, RSpec.resAt, z0, z1, z2, z3, z4, z5, z6, z7, ptrBlk] at S ⊢
      simp only [does]
      go_simp
      try first | exact S | exact ⟨vv, S⟩ | exact vv
    · clear hi
      rw [if_neg (by decide)]; intro r0
      refine step_of rfl rfl rfl ?_
      intro u G w hf S
      simp only [resOf, spec, RSpec.resAt, z0, z1, z2, z3, z4, z5, z6, z7, ptrBlk] at S ⊢
      simp only [does]
      go_simp
      try first | exact S | exact ⟨vv, S⟩ | exact vv
    · clear hi
      rw [if_neg (by decide)]; intro r0
      refine step_of rfl rfl rfl ?_
      intro u G w hf S
      have f1 : u 1 = (.pointer (some ⟨g, 0, none⟩)) := hf 1 (by simp)
      simp only [resOf, spec, RSpec.resAt, z0, z1, z2, z3, z4, z5, z6, z7, ptrBlk] at S ⊢
      simp only [f1]
      simp only [does]
      go_simp
      try first | exact S | exact ⟨vv, S⟩ | exact vv
    · clear hi
      rw [if_neg (by decide)]; intro r0
      refine step_of rfl rfl rfl ?_
      intro u G w hf S
      have f2 : u 2 = .pointer (some ⟨g, 0, none⟩) := hf 2 (by simp)
      simp only [resOf, spec, RSpec.resAt, z0, z1, z2, z3, z4, z5, z6, z7, ptrBlk] at S ⊢
      simp only [f2]
      simp only [does]
      go_simp
      try first | exact S | exact ⟨vv, S⟩ | exact vv
    · clear hi
      rw [if_pos rfl]
      refine step_ofW rfl rfl rfl ?_
      intro u G w hf S
      have f3 : u 3 = .pointer (some ⟨g, 0, none⟩) := hf 3 (by simp)
      simp only [resOf, spec, RSpec.resAt, z0, z1, z2, z3, z4, z5, z6, z7, ptrBlk] at S ⊢
      simp only [f3]
      refine does_load1 22 (.tmp 7) _ _ rfl (S.taken.cell (g := g) (Pick.head _ _) rfl) _ Try.underlying22 rfl ?_; exact ⟨rfl, S.taken⟩
    · clear hi
      rw [if_neg (by decide)]; intro r0
      refine step_of rfl rfl rfl ?_
      intro u G w hf S
      simp only [resOf, spec, RSpec.resAt, z0, z1, z2, z3, z4, z5, z6, z7, ptrBlk] at S ⊢
      refine does_load 73 (.tmp 2) g2 rfl _ _ _ (S.get (r := blk g2 _) pk) _ Try.underlying73 rfl 36 kR lN ?_; exact ⟨rfl, S⟩
    · clear hi
      rw [if_neg (by decide)]; intro r0
      refine step_of rfl rfl rfl ?_
      intro u G w hf S
      have f5 : u 5 = .agg (tokL t).toArray := hf 5 (by simp)
      simp only [resOf, spec, RSpec.resAt, z0, z1, z2, z3, z4, z5, z6, z7, ptrBlk] at S ⊢
      simp only [f5]
      refine does_fn (args := [(.agg (tokL t).toArray)]) Try.func51 kR kR (P1.out w) rfl ?_
      rintro e w1 ⟨y, rfl, T⟩
      exact ⟨_, rfl, ⟨_, rfl⟩, S.call T⟩
    · clear hi
      rw [if_neg (by decide)]; intro r0
      refine step_of rfl rfl rfl ?_
      intro u G w hf S
      have f4 : u 4 = vv := hf 4 (by simp)
      have f6 : ∃ y, u 6 = y := hf 6 (by simp)
      obtain ⟨y10, f6⟩ := f6
      simp only [resOf, spec, RSpec.resAt, z0, z1, z2, z3, z4, z5, z6, z7, ptrBlk] at S ⊢
      simp only [f4, f6] at S ⊢
      try simp only [ptrBlk] at S
      refine does_append8 (.tmp 8) (.tmp 10) vv xs rfl (S.pick (r := row8 vv xs) pk) y10 E rfl (S.bs (xs := E) pk) H1.out ?_; intro v' w' S; exact ⟨trivial, (S.drop (Pick.tail (Pick.tail (Pick.head _ _)))).perm (List.Perm.swap _ _ _)⟩
    · clear hi
      rw [if_neg (by decide)]; intro r0
      refine step_of rfl rfl rfl ?_
      intro u G w hf S
      have f0 : u 0 = (.pointer (some ⟨g, 0, none⟩)) := hf 0 (by simp)
      have f6 : ∃ y, u 6 = y := hf 6 (by simp)
      obtain ⟨y10, f6⟩ := f6
      simp only [resOf, spec, RSpec.resAt, z0, z1, z2, z3, z4, z5, z6, z7, ptrBlk] at S ⊢
      simp only [f0, f6]
      simp only [does]
      go_simp
      try first | exact S | exact ⟨vv, S⟩ | exact vv
    · clear hi
      rw [if_neg (by decide)]; intro r0
      refine step_of rfl rfl rfl ?_
      intro u G w hf S
      have f6 : ∃ y, u 6 = y := hf 6 (by simp)
      obtain ⟨y10, f6⟩ := f6
      have f8 : u 8 = .pointer (some ⟨g, 0, none⟩) := hf 8 (by simp)
      simp only [resOf, spec, RSpec.resAt, z0, z1, z2, z3, z4, z5, z6, z7, ptrBlk] at S ⊢
      simp only [f6, f8]
      simp only [does]
      go_simp
      try first | exact S | exact ⟨vv, S⟩ | exact vv
    · clear hi
      rw [if_neg (by decide)]; intro r0
      refine step_of rfl rfl rfl ?_
      intro u G w hf S
      have f6 : ∃ y, u 6 = y := hf 6 (by simp)
      obtain ⟨y10, f6⟩ := f6
      have f9 : u 9 = .pointer (some ⟨g, 0, none⟩) := hf 9 (by simp)
      have m7 : mask [0, 1, 2, 3, 4, 5, 6, 7, 8, 9] u 7 = u 7 := rfl
      simp only [resOf, spec, RSpec.resAt, List.getD_cons_zero, List.getD_cons_succ, List.flatMap_cons, List.flatMap_nil, List.nil_append, List.cons_append, List.append_nil, List.append_assoc, m7, ptrBlk] at S ⊢
      simp only [m7, f6, f9] at S ⊢
      try simp only [ptrBlk] at S
      refine does_store1 S 22 (.tmp 13) (.tmp 11) 0 (u 7) rfl rfl kR (one_sl (S.bs (xs := xs ++ E) pk)).2 (one_sl (S.bs (xs := xs ++ E) pk)).1 Nat.one_pos ?_; intro w1 S; exact ⟨trivial, S⟩
  case fin1 =>
    intro u w hf S
    have f0 : u 0 = (.pointer (some ⟨g, 0, none⟩)) := hf 0 (by simp)
    have f1 : u 1 = (.pointer (some ⟨g, 0, none⟩)) := hf 1 (by simp)
    have f2 : u 2 = .pointer (some ⟨g, 0, none⟩) := hf 2 (by simp)
    have f3 : u 3 = .pointer (some ⟨g, 0, none⟩) := hf 3 (by simp)
    have f4 : u 4 = vv := hf 4 (by simp)
    have f5 : u 5 = .agg (tokL t).toArray := hf 5 (by simp)
    have f6 : ∃ y, u 6 = y := hf 6 (by simp)
    obtain ⟨y10, f6⟩ := f6
    have f8 : u 8 = .pointer (some ⟨g, 0, none⟩) := hf 8 (by simp)
    have f9 : u 9 = .pointer (some ⟨g, 0, none⟩) := hf 9 (by simp)
    have m10_7 : mask [0, 1, 2, 3, 4, 5, 6, 7, 8, 9] u 7 = u 7 := rfl
    simp only [resOf, spec, RSpec.resAt, List.getD_cons_zero, List.getD_cons_succ, List.flatMap_cons, List.flatMap_nil, List.nil_append, List.cons_append, List.append_nil, List.append_assoc, m10_7, ptrBlk] at S
    clear hf
    simp only [List.length_cons, List.length_nil, Nat.zero_add, Nat.reduceAdd, List.drop_succ_cons, List.drop_zero, f0, f1, f2, f3, f4, f5, f6, f8, f9]
    try simp only [f0, f1, f2, f3, f4, f5, f6, f8, f9, ptrBlk] at S
    clear f0 f1 f2 f3 f4 f5 f6 f8 f9 m10_7
    generalize u 7 = v11 at S ⊢
    go_wp2_with (first | ((with_reducible refine iD 2 (.box 73 (.tmp 0)) ?_); refine step_boxA (dst := some 2) S 73 (.tmp 0) _ rfl rfl ?_; clear S; intro g2 w S) | ((with_reducible refine iO _ (.load 22 _) ?_); refine step_load1 22 _ _ _ rfl (cL) _ Try.underlying22 rfl rfl ?_) | ((with_reducible refine iO _ (.load 73 _) ?_); first | (refine step_load S 73 _ _ rfl _ _ _ pk _ Try.underlying73 rfl 36 kR lN rfl ?_) | (refine step_loadO 73 _ _ rfl _ _ _ (S.old_heap (Hid.out (by assumption))) _ Try.underlying73 rfl 36 kR lN rfl ?_) | (refine step_loadR 73 _ _ _ rfl _ (S.old_range hy) _ Try.underlying73 rfl 36 kR lN _ rfl rfl ?_)) | (at_builtin; refine step_append8 S (.tmp 8) (.tmp 10) _ _ rfl pk _ _ rfl bS lE rfl ?_; clear S; intro v11 w S; (try simp only [z4] at S)) | ((with_reducible refine iO none (.store 22 (.tmp 13) (.tmp 11)) ?_); first | (refine step_store1 S 22 (.tmp 13) (.tmp 11) _ _ (.slice _ _ _) rfl rfl _ _ pk kR rfl rfl lN rfl ?_; clear S; intro w S; try simp only [List.setIfInBounds_toArray, List.set_cons_zero, List.set_cons_succ] at S) | (refine step_storeR S 22 (.tmp 13) (.tmp 11) _ _ (.slice _ _ _) rfl rfl _ _ _ _ pk lE kR rfl rfl rfl ?_; clear S; intro w S) | (refine step_storeS S 22 (.tmp 13) (.tmp 11) _ _ (.slice _ _ _) rfl rfl _ _ _ _ _ pk lE kR rfl rfl rfl ?_; clear S; intro w S)) | fail)
    go_end0
    exact ⟨rfl, _, (S.drop (Pick.tail (Pick.tail (Pick.head _ _)))).drop (Pick.tail (Pick.tail (Pick.head _ _)))⟩
theorem Has.nil8 {w0 w : World} {l : List Res} (S : Has w0 w l) : Has w0 w (row8 (.slice none 0 0) [] :: l) := S.nil_row 5 1
end Go.Proofs.Ytfhkmmagpnojmaa
