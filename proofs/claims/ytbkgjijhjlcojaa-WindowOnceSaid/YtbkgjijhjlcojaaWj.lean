/-
  Walks: the chapter's example, and the law WindowMarks.
-/
import Derived.Test.YtbkgjijhjlcojaaWi
namespace Go.Proofs.Ytbkgjijhjlcojaa
open Go.RowKit Go.Proofs.Ytbkgjijhjlcojaa.Eager
set_option maxHeartbeats 400000
set_option linter.unusedVariables false
set_option linter.unusedSimpArgs false

theorem mark_lt (t : Int) (x y : Nat) (n : Int) (hx : x < 18446744073709551616) (hy : y < 18446744073709551616) : (markL t x y n).2.1 < 18446744073709551616 ∧ (markL t x y n).2.2 < 18446744073709551616 := by
  unfold markL
  split
  · rename_i h
    obtain ⟨hr, hlt⟩ := fresh_bounds h
    obtain ⟨r1, r2, r3, r4⟩ := rightL_true hr
    unfold putL
    split
    · have hb := shL_lt x y (n - t).toNat hx hy
      exact setL_lt _ _ 0 hb.1 hb.2 (by omega)
    · exact setL_lt _ _ _ hx hy (by omega)
  · exact ⟨hx, hy⟩

theorem small0 : Hid ((0 : Nat) < 18446744073709551616) := by show (0 : Nat) < _; omega
theorem small1 : Hid ((1 : Nat) < 18446744073709551616) := by show (1 : Nat) < _; omega
theorem small5 : Hid ((5 : Nat) < 18446744073709551616) := by show (5 : Nat) < _; omega

theorem m1 (W : World) : Calls Try.prog 8 #[.agg #[.int .i64 0, .int .u64 0, .int .u64 0], .int .i64 1] W fun r w' => r = .returned (.agg #[.int .i64 1, .int .u64 1, .int .u64 0]) ∧ Below W.heap.size W w' := by
  have := mark8 0 0 0 1 W small0 small0
  rw [show markL 0 0 0 1 = (1, 1, 0) from by decide +kernel] at this
  exact this
theorem m2 (W : World) : Calls Try.prog 8 #[.agg #[.int .i64 1, .int .u64 1, .int .u64 0], .int .i64 3] W fun r w' => r = .returned (.agg #[.int .i64 3, .int .u64 5, .int .u64 0]) ∧ Below W.heap.size W w' := by
  have := mark8 1 1 0 3 W small1 small0
  rw [show markL 1 1 0 3 = (3, 5, 0) from by decide +kernel] at this
  exact this
theorem f3 (W : World) : Calls Try.prog 6 #[.agg #[.int .i64 3, .int .u64 5, .int .u64 0], .int .i64 3] W fun r w' => r = .returned (.int .i64 22) ∧ Below W.heap.size W w' := by
  have := fresh6 3 5 0 3 W small5 small0
  rw [show freshL 3 5 0 3 = 22 from by decide +kernel] at this
  exact this
theorem f2 (W : World) : Calls Try.prog 6 #[.agg #[.int .i64 3, .int .u64 5, .int .u64 0], .int .i64 2] W fun r w' => r = .returned (.int .i64 0) ∧ Below W.heap.size W w' := by
  have := fresh6 3 5 0 2 W small5 small0
  rw [show freshL 3 5 0 2 = 0 from by decide +kernel] at this
  exact this
theorem f0 (W : World) : Calls Try.prog 6 #[.agg #[.int .i64 3, .int .u64 5, .int .u64 0], .int .i64 0] W fun r w' => r = .returned (.int .i64 2) ∧ Below W.heap.size W w' := by
  have := fresh6 3 5 0 0 W small5 small0
  rw [show freshL 3 5 0 0 = 2 from by decide +kernel] at this
  exact this
theorem s1 (W : World) : Calls Try.prog 10 #[.agg #[.int .i64 3, .int .u64 5, .int .u64 0], .int .i64 1] W fun r w' => r = .returned (.bool true) ∧ Below W.heap.size W w' := by
  have := seen10 3 5 0 1 W small5 small0
  rw [show seenL 3 5 0 1 = true from by decide +kernel] at this
  exact this
theorem s2 (W : World) : Calls Try.prog 10 #[.agg #[.int .i64 3, .int .u64 5, .int .u64 0], .int .i64 2] W fun r w' => r = .returned (.bool false) ∧ Below W.heap.size W w' := by
  have := seen10 3 5 0 2 W small5 small0
  rw [show seenL 3 5 0 2 = false from by decide +kernel] at this
  exact this

theorem works12 (w : World) : Calls Try.prog 12 #[] w fun r w' => r = .returned (.bool true) ∧ Below w.heap.size w w' := by
  go_enter Try.func12, Try.ntmps12
  go_wp2_with fail
  refine (m1 _).mono ?_
  rintro r w1 ⟨rfl, h1⟩
  go_wp2_with fail
  refine (m2 _).mono ?_
  rintro r w2 ⟨rfl, hb2⟩
  replace h1 := below_step h1 hb2
  have E : Cell3 (w2.alloc (.cells #[.int .i64 3, .int .u64 5, .int .u64 0] 24)) w2.heap.size (.int .i64 3) (.int .u64 5) (.int .u64 0) := Cell3.of_block (e := 24) (by rw [heap_alloc_at, if_pos rfl])
  have hal : Below w2.heap.size w2 (w2.alloc (.cells #[.int .i64 3, .int .u64 5, .int .u64 0] 24)) := (Below.refl _ _).alloc (Nat.le_refl _) _
  replace h1 := below_step h1 hal
  obtain ⟨c0, c1, c2, -, -, -⟩ := id E
  clear hb2 hal
  go_wp2_with fail
  refine (f3 _).mono ?_
  rintro r w3 ⟨rfl, hb3⟩
  replace h1 := below_step h1 hb3
  replace E := E.later hb3
  clear hb3 c0 c1 c2
  obtain ⟨c0, c1, c2, -, -, -⟩ := id E
  go_wp2_with fail
  refine (f2 _).mono ?_
  rintro r w4 ⟨rfl, hb4⟩
  replace h1 := below_step h1 hb4
  replace E := E.later hb4
  clear hb4 c0 c1 c2
  obtain ⟨c0, c1, c2, -, -, -⟩ := id E
  go_wp2_with fail
  refine (s1 _).mono ?_
  rintro r w5 ⟨rfl, hb5⟩
  replace h1 := below_step h1 hb5
  replace E := E.later hb5
  clear hb5 c0 c1 c2
  obtain ⟨c0, c1, c2, -, -, -⟩ := id E
  go_wp2_with fail
  refine (s2 _).mono ?_
  rintro r w6 ⟨rfl, hb6⟩
  replace h1 := below_step h1 hb6
  replace E := E.later hb6
  clear hb6 c0 c1 c2
  obtain ⟨c0, c1, c2, -, -, -⟩ := id E
  go_wp2_with fail
  refine (f0 _).mono ?_
  rintro r w7 ⟨rfl, hb7⟩
  replace h1 := below_step h1 hb7
  replace E := E.later hb7
  clear hb7 c0 c1 c2
  obtain ⟨c0, c1, c2, -, -, -⟩ := id E
  go_wp2
  go_ret
  exact ⟨rfl, h1⟩
end Go.Proofs.Ytbkgjijhjlcojaa
