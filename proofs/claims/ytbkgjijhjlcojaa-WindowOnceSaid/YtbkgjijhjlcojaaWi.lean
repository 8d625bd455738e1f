/-
  Plain law: the window's bits moved and set by words are those moved and set by the list.
-/
import Derived.Test.YtbkgjijhjlcojaaWh
namespace Go.Proofs.Ytbkgjijhjlcojaa
open Go.RowKit
set_option maxHeartbeats 400000
set_option linter.unusedVariables false
set_option linter.unusedSimpArgs false

theorem eq_of_bits {a b : Nat} (ha : a < 18446744073709551616) (hb : b < 18446744073709551616) (h : ∀ j, j < 64 → a.testBit j = b.testBit j) : a = b := by
  apply Nat.eq_of_testBit_eq
  intro j
  by_cases hj : j < 64
  · exact h j hj
  · have h1 : (2 : Nat) ^ 64 ≤ 2 ^ j := Nat.pow_le_pow_right (by omega) (by omega)
    rw [Nat.testBit_lt_two_pow (Nat.lt_of_lt_of_le (show a < 2 ^ 64 from ha) h1), Nat.testBit_lt_two_pow (Nat.lt_of_lt_of_le (show b < 2 ^ 64 from hb) h1)]

theorem set_bit (x y p i : Nat) (hp : p < 128) (hi : i < 128) : bitL (setL x y p).1 (setL x y p).2 i = (decide (i = p) || bitL x y i) := by
  unfold bitL setL
  by_cases h1 : p < 64
  · rw [if_pos h1]
    by_cases h2 : i < 64
    · rw [if_pos h2, if_pos h2]
      simp only [Nat.testBit_or, Nat.testBit_two_pow]
      rw [Bool.or_comm]
      congr 1
      rw [decide_eq_decide]; omega
    · rw [if_neg h2, if_neg h2]
      simp [show ¬ i = p from by omega]
  · rw [if_neg h1]
    by_cases h2 : i < 64
    · rw [if_pos h2, if_pos h2]
      simp [show ¬ i = p from by omega]
    · rw [if_neg h2, if_neg h2]
      simp only [Nat.testBit_or, Nat.testBit_two_pow]
      rw [Bool.or_comm]
      congr 1
      rw [decide_eq_decide]; omega

theorem high_bit {x j : Nat} (hx : x < 18446744073709551616) (hj : 64 ≤ j) : x.testBit j = false :=
  Nat.testBit_lt_two_pow (Nat.lt_of_lt_of_le (show x < 2 ^ 64 from hx) (Nat.pow_le_pow_right (by omega) hj))

theorem shl_bit (x k j : Nat) : (x * 2 ^ k % 18446744073709551616).testBit j = (decide (j < 64) && (decide (k ≤ j) && x.testBit (j - k))) := by
  rw [show (18446744073709551616 : Nat) = 2 ^ 64 from rfl, Nat.testBit_mod_two_pow, Nat.mul_comm x, Nat.testBit_two_pow_mul]

theorem sh_bit (x y k i : Nat) (hx : x < 18446744073709551616) (hi : i < 128) : bitL (shL x y k).1 (shL x y k).2 i = (decide (k ≤ i) && bitL x y (i - k)) := by
  unfold shL
  by_cases h1 : 128 ≤ k
  · rw [if_pos h1]
    rw [decide_eq_false (by omega : ¬ k ≤ i)]
    simp [bitL]
  · rw [if_neg h1]
    by_cases h2 : 64 ≤ k
    · rw [if_pos h2]
      unfold bitL
      by_cases h3 : i < 64
      · rw [if_pos h3, decide_eq_false (by omega : ¬ k ≤ i)]; simp
      · rw [if_neg h3, if_pos (by omega : i - k < 64)]
        simp only [shl_bit]
        rw [decide_eq_true (by omega : i - 64 < 64), Bool.true_and]
        congr 1
        · rw [decide_eq_decide]; omega
        · congr 1; omega
    · rw [if_neg h2]
      by_cases h0 : 0 < k
      · rw [if_pos h0]
        unfold bitL
        by_cases h3 : i < 64
        · rw [if_pos h3, if_pos (by omega : i - k < 64)]
          simp only [shl_bit]
          rw [decide_eq_true h3, Bool.true_and]
        · rw [if_neg h3]
          simp only [Nat.testBit_or, shl_bit, Nat.testBit_div_two_pow]
          rw [decide_eq_true (by omega : i - 64 < 64), Bool.true_and, decide_eq_true (by omega : k ≤ i), Bool.true_and]
          by_cases h4 : i - k < 64
          · rw [if_pos h4, decide_eq_false (by omega : ¬ k ≤ i - 64), Bool.false_and, Bool.false_or]
            congr 1; omega
          · rw [if_neg h4, decide_eq_true (by omega : k ≤ i - 64), Bool.true_and, high_bit hx (by omega), Bool.or_false]
            congr 1; omega
      · obtain rfl : k = 0 := by omega
        simp

theorem young_get (x y up p i : Nat) (hi : i < 128) : (youngL x y up p).getD i false = (decide (i = p) || (decide (up ≤ i) && bitL x y (i - up))) := by
  simp [youngL, List.getD, List.getElem?_range hi]

theorem num_lo {x y up p a b : Nat} (ha : a < 18446744073709551616) (h : ∀ i, i < 128 → bitL a b i = (decide (i = p) || (decide (up ≤ i) && bitL x y (i - up)))) :
    numL (fun i => (youngL x y up p).getD (0 + i) false) 64 = a := by
  refine eq_of_bits (numL_lt _ 64) ha fun j hj => ?_
  rw [numL_bit _ 64 (Nat.le_refl _) j hj, show 0 + (64 - 64 + j) = j from by omega, young_get _ _ _ _ _ (by omega), ← h j (by omega)]
  simp [bitL, hj]

theorem num_hi {x y up p a b : Nat} (hb : b < 18446744073709551616) (h : ∀ i, i < 128 → bitL a b i = (decide (i = p) || (decide (up ≤ i) && bitL x y (i - up)))) :
    numL (fun i => (youngL x y up p).getD (64 + i) false) 64 = b := by
  refine eq_of_bits (numL_lt _ 64) hb fun j hj => ?_
  rw [numL_bit _ 64 (Nat.le_refl _) j hj, show 64 + (64 - 64 + j) = 64 + j from by omega, young_get _ _ _ _ _ (by omega), ← h (64 + j) (by omega)]
  unfold bitL
  rw [if_neg (by omega), Nat.add_sub_cancel_left]

theorem mark9 (t : Int) (x y : Nat) (n : Int) (w : World) (hx : Hid (x < 18446744073709551616)) (hy : Hid (y < 18446744073709551616)) :
    Calls Try.prog 9 #[.agg #[.int .i64 t, .int .u64 (x : Int), .int .u64 (y : Int)], .int .i64 n] w fun r w' => r = .returned (.agg #[.int .i64 (markL t x y n).1, .int .u64 ((markL t x y n).2.1 : Int), .int .u64 ((markL t x y n).2.2 : Int)]) ∧ Below w.heap.size w w' := by
  by_cases h : freshL t x y n = 0
  · obtain ⟨hr, hlt⟩ := fresh_bounds h
    obtain ⟨r1, r2, r3, r4⟩ := rightL_true hr
    by_cases h2 : t < n
    · have e : markL t x y n = (n, setL (shL x y (n - t).toNat).1 (shL x y (n - t).toNat).2 0) := by unfold markL putL; rw [if_pos h, if_pos h2]
      rw [e]
      have hb := shL_lt x y (n - t).toNat hx.out hy.out
      have hs := setL_lt _ _ 0 hb.1 hb.2 (by omega)
      have hbits : ∀ i, i < 128 → bitL (setL (shL x y (n - t).toNat).1 (shL x y (n - t).toNat).2 0).1 (setL (shL x y (n - t).toNat).1 (shL x y (n - t).toNat).2 0).2 i = (decide (i = 0) || (decide ((n - t).toNat ≤ i) && bitL x y (i - (n - t).toNat))) := fun i hi => by
        rw [set_bit _ _ _ _ (by omega) hi, sh_bit _ _ _ _ hx.out hi]
      have := mark9_1 t x y (n - t).toNat n 0 w hx hy (by simp [h]) (decide_eq_true h2) (by rw [IntKind.wrap_i64]; omega) (by show (n - t).toNat ≤ _; omega) (by show 0 < 128; omega)
      rw [num_lo hs.1 hbits, num_hi hs.2 hbits] at this
      exact this
    · have e : markL t x y n = (t, setL x y (t - n).toNat) := by unfold markL putL; rw [if_pos h, if_neg h2]
      rw [e]
      have hs := setL_lt _ _ (t - n).toNat hx.out hy.out (by omega)
      have hbits : ∀ i, i < 128 → bitL (setL x y (t - n).toNat).1 (setL x y (t - n).toNat).2 i = (decide (i = (t - n).toNat) || (decide (0 ≤ i) && bitL x y (i - 0))) := fun i hi => by
        rw [set_bit _ _ _ _ (by omega) hi]; simp
      have := mark9_2 t x y (t - n).toNat n 0 w hx hy (by simp [h]) (decide_eq_false h2) (by show 0 ≤ _; omega) (by show (t - n).toNat < 128; omega) (by rw [IntKind.wrap_i64]; omega)
      rw [num_lo hs.1 hbits, num_hi hs.2 hbits] at this
      exact this
  · have e : markL t x y n = (t, x, y) := by unfold markL; rw [if_neg h]
    rw [e]
    exact mark9_0 t x y n w hx hy (by simp [h])
end Go.Proofs.Ytbkgjijhjlcojaa
