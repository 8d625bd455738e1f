/-
  The law WindowStays: what was seen stays seen; its walk.
-/
import Derived.Test.YtbkgjijhjlcojaaWj
namespace Go.Proofs.Ytbkgjijhjlcojaa
open Go.RowKit Go.Proofs.Ytbkgjijhjlcojaa.Eager
set_option maxHeartbeats 400000
set_option linter.unusedVariables false
set_option linter.unusedSimpArgs false

theorem seenL_iff (t : Int) (x y : Nat) (n : Int) : seenL t x y n = true ↔ 1 ≤ n ∧ n ≤ 1073741824 ∧ 0 ≤ t ∧ t ≤ 1073741824 ∧ n ≤ t ∧ t - n < 128 ∧ bitL x y (t - n).toNat = true := by
  unfold seenL rightL
  simp only [Bool.and_eq_true, decide_eq_true_eq]
  constructor
  · rintro ⟨⟨a, b, c, d⟩, e, f, g⟩; exact ⟨a, b, c, d, e, f, g⟩
  · rintro ⟨a, b, c, d, e, f, g⟩; exact ⟨⟨a, b, c, d⟩, e, f, g⟩

theorem rightL_of {t n : Int} (h1 : 1 ≤ n) (h2 : n ≤ 1073741824) (h3 : 0 ≤ t) (h4 : t ≤ 1073741824) : rightL t n = true := by
  unfold rightL
  simp [h1, h2, h3, h4]

theorem stays_law (t : Int) (x y : Nat) (n m : Int) (hx : x < 18446744073709551616) (hs : seenL t x y n = true) (h1 : 1 ≤ m) (h2 : m ≤ 1073741824) :
    seenL (markL t x y m).1 (markL t x y m).2.1 (markL t x y m).2.2 n = decide (m - n < 128) := by
  have hs' := (seenL_iff _ _ _ _).1 hs
  obtain ⟨a1, a2, a3, a4, a5, a6, a7⟩ := hs'
  have hr := rightL_of h1 h2 a3 a4
  by_cases hf : freshL t x y m = 0
  · by_cases hlt : t < m
    · have e : markL t x y m = (m, setL (shL x y (m - t).toNat).1 (shL x y (m - t).toNat).2 0) := by unfold markL putL; rw [if_pos hf, if_pos hlt]
      rw [e]
      by_cases hd : m - n < 128
      · rw [decide_eq_true hd, seenL_iff]
        refine ⟨a1, a2, by show 0 ≤ m; omega, h2, by show n ≤ m; omega, hd, ?_⟩
        show bitL _ _ (m - n).toNat = true
        rw [set_bit _ _ _ _ (by omega) (by omega), sh_bit _ _ _ _ hx (by omega), decide_eq_true (by omega : (m - t).toNat ≤ (m - n).toNat)]
        rw [show (m - n).toNat - (m - t).toNat = (t - n).toNat from by omega, a7]
        simp
      · rw [decide_eq_false hd]
        cases hc : seenL m _ _ n with
        | false => rfl
        | true => exact absurd ((seenL_iff _ _ _ _).1 hc).2.2.2.2.2.1 hd
    · have e : markL t x y m = (t, setL x y (t - m).toNat) := by unfold markL putL; rw [if_pos hf, if_neg hlt]
      rw [e, decide_eq_true (by omega : m - n < 128), seenL_iff]
      refine ⟨a1, a2, a3, a4, a5, a6, ?_⟩
      have hb := (fresh_bounds hf).2
      rw [set_bit _ _ _ _ (by omega) (by omega), a7]
      simp
  · have e : markL t x y m = (t, x, y) := by unfold markL; rw [if_neg hf]
    rw [e]
    have hmt : m ≤ t := by
      by_cases h : m ≤ t
      · exact h
      · exfalso; apply hf
        unfold freshL
        rw [if_neg (by simp [hr]), if_pos (by omega)]
    rw [decide_eq_true (by omega : m - n < 128)]
    exact hs

theorem stays_a (t : Int) (x y : Nat) (n m : Int) (w : World) (hx : Hid (x < 18446744073709551616)) (hy : Hid (y < 18446744073709551616)) (s : Bool) (hs : seenL t x y n = s)
    (hd : s = false ∨ (s = true ∧ decide (m < 1) = true) ∨ (s = true ∧ decide (m < 1) = false ∧ decide (1073741824 < m) = true)) :
    Calls Try.prog 5 #[.agg #[.int .i64 t, .int .u64 (x : Int), .int .u64 (y : Int)], .int .i64 n, .int .i64 m] w fun r w' => r = .returned (.bool true) ∧ Below w.heap.size w w' := by
  have H := fun W => Lib.hid (seen10 t x y n W hx hy)
  rw [hs] at H
  clear hs
  rcases hd with rfl | ⟨rfl, h1⟩ | ⟨rfl, h1, h2⟩
  all_goals
    have C := Cell3.of_block (w := w.alloc (.cells #[.int .i64 t, .int .u64 (x : Int), .int .u64 (y : Int)] 24)) (b := w.heap.size) (p := .int .i64 t) (q := .int .u64 (x : Int)) (r := .int .u64 (y : Int)) (e := 24) (by rw [heap_alloc_at, if_pos rfl])
    have h0 : Below w.heap.size w (w.alloc (.cells #[.int .i64 t, .int .u64 (x : Int), .int .u64 (y : Int)] 24)) := (Below.refl _ _).alloc (Nat.le_refl _) _
    go_enter Try.func5, Try.ntmps5
    go_wp2_with fail
    refine (works12 _).mono ?_
    rintro r w1 ⟨rfl, hb1⟩
    replace h0 := below_step h0 hb1
    replace C := C.later hb1
    obtain ⟨c0, c1, c2, -, -, -⟩ := id C
    clear hb1
    go_wp2_with fail
    refine (H _).out.mono ?_
    rintro r w2 ⟨rfl, hb2⟩
    replace h0 := below_step h0 hb2
    clear c0 c1 c2 C hb2
    go_wp2
    go_ret
    exact ⟨rfl, h0⟩

theorem stays_b (t : Int) (x y : Nat) (n m d a : Int) (p q : Nat) (w : World) (hx : Hid (x < 18446744073709551616)) (hy : Hid (y < 18446744073709551616)) (h1 : decide (m < 1) = false) (h2 : decide (1073741824 < m) = false)
    (hw : IntKind.i64.wrap (m - n) = d)
    (H : Hid (∀ W, Calls Try.prog 10 #[.agg #[.int .i64 t, .int .u64 (x : Int), .int .u64 (y : Int)], .int .i64 n] W fun r w' => r = .returned (.bool true) ∧ Below W.heap.size W w'))
    (H8 : Hid (∀ W, Calls Try.prog 8 #[.agg #[.int .i64 t, .int .u64 (x : Int), .int .u64 (y : Int)], .int .i64 m] W fun r w' => r = .returned (.agg #[.int .i64 a, .int .u64 (p : Int), .int .u64 (q : Int)]) ∧ Below W.heap.size W w'))
    (HS : Hid (∀ W, Calls Try.prog 10 #[.agg #[.int .i64 a, .int .u64 (p : Int), .int .u64 (q : Int)], .int .i64 n] W fun r w' => r = .returned (.bool (decide (d < 128))) ∧ Below W.heap.size W w')) :
    Calls Try.prog 5 #[.agg #[.int .i64 t, .int .u64 (x : Int), .int .u64 (y : Int)], .int .i64 n, .int .i64 m] w fun r w' => r = .returned (.bool true) ∧ Below w.heap.size w w' := by
  have C := Cell3.of_block (w := w.alloc (.cells #[.int .i64 t, .int .u64 (x : Int), .int .u64 (y : Int)] 24)) (b := w.heap.size) (p := .int .i64 t) (q := .int .u64 (x : Int)) (r := .int .u64 (y : Int)) (e := 24) (by rw [heap_alloc_at, if_pos rfl])
  have h0 : Below w.heap.size w (w.alloc (.cells #[.int .i64 t, .int .u64 (x : Int), .int .u64 (y : Int)] 24)) := (Below.refl _ _).alloc (Nat.le_refl _) _
  go_enter Try.func5, Try.ntmps5
  go_wp2_with fail
  refine (works12 _).mono ?_
  rintro r w1 ⟨rfl, hb1⟩
  replace h0 := below_step h0 hb1
  replace C := C.later hb1
  obtain ⟨c0, c1, c2, -, -, -⟩ := id C
  clear hb1
  go_wp2_with fail
  refine (H.out _).mono ?_
  rintro r w2 ⟨rfl, hb2⟩
  replace h0 := below_step h0 hb2
  clear c0 c1 c2
  replace C := C.later hb2
  obtain ⟨c0, c1, c2, -, -, -⟩ := id C
  clear hb2
  go_wp2_with fail
  refine (H8.out _).mono ?_
  rintro r w3 ⟨rfl, hb3⟩
  replace h0 := below_step h0 hb3
  clear c0 c1 c2 C hb3
  go_wp2_with fail
  refine (HS.out _).mono ?_
  rintro r w4 ⟨rfl, hb4⟩
  replace h0 := below_step h0 hb4
  clear hb4
  go_wp2
  go_ret
  exact ⟨by simp, h0⟩

theorem stays_any (t : Int) (x y : Nat) (n m : Int) (w : World) (hx : Hid (x < 18446744073709551616)) (hy : Hid (y < 18446744073709551616)) :
    Calls Try.prog 5 #[.agg #[.int .i64 t, .int .u64 (x : Int), .int .u64 (y : Int)], .int .i64 n, .int .i64 m] w fun r w' => r = .returned (.bool true) ∧ Below w.heap.size w w' := by
  cases hs : seenL t x y n with
  | false => exact stays_a t x y n m w hx hy false hs (Or.inl rfl)
  | true =>
    by_cases h1 : m < 1
    · exact stays_a t x y n m w hx hy true hs (Or.inr (Or.inl ⟨rfl, decide_eq_true h1⟩))
    · by_cases h2 : 1073741824 < m
      · exact stays_a t x y n m w hx hy true hs (Or.inr (Or.inr ⟨rfl, decide_eq_false h1, decide_eq_true h2⟩))
      · obtain ⟨a1, a2, -⟩ := (seenL_iff _ _ _ _).1 hs
        have hl := stays_law t x y n m hx.out hs (by omega) (by omega)
        have hb := mark_lt t x y m hx.out hy.out
        refine stays_b t x y n m (m - n) _ _ _ w hx hy (decide_eq_false h1) (decide_eq_false h2) (by rw [IntKind.wrap_i64]; omega) (fun W => ?_) (fun W => mark8 t x y m W hx hy) (fun W => ?_)
        · have := seen10 t x y n W hx hy; rw [hs] at this; exact this
        · have := seen10 (markL t x y m).1 (markL t x y m).2.1 (markL t x y m).2.2 n W hb.1 hb.2
          rw [hl] at this; exact this
end Go.Proofs.Ytbkgjijhjlcojaa
