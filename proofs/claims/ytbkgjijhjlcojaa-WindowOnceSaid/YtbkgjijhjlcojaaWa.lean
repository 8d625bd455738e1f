/-
  Walks of windows: which numbers may be, bits, shifts, marks of bits.
-/
import Derived.Test.YtbkgjijhjlcojaaRows
import Derived.Test.YtbkgjijhjlcojaaEager
import Derived.Test.YtbkgjijhjlcojaaApi
namespace Go.Proofs.Ytbkgjijhjlcojaa
open Go.RowKit
set_option maxHeartbeats 400000
set_option linter.unusedVariables false
set_option linter.unusedSimpArgs false

def rightL (t n : Int) : Bool := decide (1 ≤ n) && (decide (n ≤ 1073741824) && (decide (0 ≤ t) && decide (t ≤ 1073741824)))

theorem right14 (t n x y : Int) (w : World) : Calls Try.prog 14 #[.agg #[.int .i64 t, .int .u64 x, .int .u64 y], .int .i64 n] w fun r w' => r = .returned (.bool (rightL t n)) ∧ Below w.heap.size w w' := by
  have HR : Hid (rightL t n = (decide (1 ≤ n) && (decide (n ≤ 1073741824) && (decide (0 ≤ t) && decide (t ≤ 1073741824))))) := rfl
  generalize rightL t n = b at *
  cases h1 : decide (1 ≤ n) with
  | false =>
    rw [h1, Bool.false_and] at HR
    go_enter Try.func14, Try.ntmps14
    go_wp2
    go_ret
    exact ⟨congrArg (fun x => Ending.returned (.bool x)) HR.out.symm, (Below.refl _ _).alloc (Nat.le_refl _) _⟩
  | true =>
    cases h2 : decide (n ≤ 1073741824) with
    | false =>
      rw [h1, Bool.true_and, h2, Bool.false_and] at HR
      go_enter Try.func14, Try.ntmps14
      go_wp2
      go_ret
      exact ⟨congrArg (fun x => Ending.returned (.bool x)) HR.out.symm, (Below.refl _ _).alloc (Nat.le_refl _) _⟩
    | true =>
      cases h3 : decide (0 ≤ t) with
      | false =>
        rw [h1, Bool.true_and, h2, Bool.true_and, h3, Bool.false_and] at HR
        go_enter Try.func14, Try.ntmps14
        go_wp2
        go_ret
        exact ⟨congrArg (fun x => Ending.returned (.bool x)) HR.out.symm, (Below.refl _ _).alloc (Nat.le_refl _) _⟩
      | true =>
        rw [h1, Bool.true_and, h2, Bool.true_and, h3, Bool.true_and] at HR
        go_enter Try.func14, Try.ntmps14
        go_wp2
        go_ret
        exact ⟨congrArg (fun x => Ending.returned (.bool x)) HR.out.symm, (Below.refl _ _).alloc (Nat.le_refl _) _⟩

theorem below_alloc2 (w : World) (a b : Obj) : Below w.heap.size w ((w.alloc a).alloc b) := by
  have h1 : Below w.heap.size w (w.alloc a) := (Below.refl _ _).alloc (Nat.le_refl _) _
  exact below_step h1 ((Below.refl _ _).alloc (Nat.le_refl _) _)

theorem of15 (t x y : Int) (w : World) : Calls Try.prog 15 #[.agg #[.int .i64 t, .int .u64 x, .int .u64 y]] w fun r w' => r = .returned (.agg #[.int .u64 x, .int .u64 y]) ∧ Below w.heap.size w w' := by
  go_enter Try.func15, Try.ntmps15
  go_wp2
  exact bodyPost_ret (v := .agg #[.int .u64 x, .int .u64 y]) (by simp [results, Try.results15, go_sem]) rfl ⟨rfl, below_alloc2 _ _ _⟩

theorem testBit_int (x k : Nat) (hx : x < 18446744073709551616) : (bits BinOp.and IntKind.u64 ((x : Int) / 2 ^ k) 1 == 1) = x.testBit k := by
  have e : ((x : Int) / 2 ^ k) = ((x / 2 ^ k : Nat) : Int) := by simp
  have hl : x / 2 ^ k < 18446744073709551616 := Nat.lt_of_le_of_lt (Nat.div_le_self _ _) hx
  have e2 := u64_and_nat (x / 2 ^ k) 1 hl (by omega)
  rw [e]
  rw [show ((1 : Nat) : Int) = 1 from rfl] at e2
  rw [e2, Nat.testBit_eq_decide_div_mod_eq, Nat.and_one_is_mod]
  rw [Bool.eq_iff_iff]; simp; omega

theorem bit16 (x y k : Nat) (w : World) (hx : Hid (x < 18446744073709551616)) (hk : k < 64) : Calls Try.prog 16 #[.agg #[.int .u64 (x : Int), .int .u64 (y : Int)], .int .i64 (k : Int)] w fun r w' => r = .returned (.bool (x.testBit k)) ∧ Below w.heap.size w w' := by
  have h1 : (k : Int) / 64 = 0 := by omega
  have h2 : (k : Int) % 64 = k := by omega
  have h3 : k / 64 = 0 := by omega
  go_enter Try.func16, Try.ntmps16
  go_wp2
  go_ret
  exact ⟨congrArg (fun x => Ending.returned (.bool x)) (testBit_int x k hx.out), (Below.refl _ _).alloc (Nat.le_refl _) _⟩

theorem bit16b (x y k : Nat) (w : World) (hy : Hid (y < 18446744073709551616)) (hk : k < 64) : Calls Try.prog 16 #[.agg #[.int .u64 (x : Int), .int .u64 (y : Int)], .int .i64 ((64 + k : Nat) : Int)] w fun r w' => r = .returned (.bool (y.testBit k)) ∧ Below w.heap.size w w' := by
  have h1 : (64 + (k : Int)) / 64 = 1 := by omega
  have h2 : (64 + (k : Int)) % 64 = k := by omega
  have h3 : (64 + k) / 64 = 1 := by omega
  go_enter Try.func16, Try.ntmps16
  go_wp2
  go_ret
  exact ⟨congrArg (fun x => Ending.returned (.bool x)) (testBit_int y k hy.out), (Below.refl _ _).alloc (Nat.le_refl _) _⟩

/-- a bit of two halves -/
def bitL (x y k : Nat) : Bool := if k < 64 then x.testBit k else y.testBit (k - 64)

theorem bit16_any (x y : Nat) (k : Int) (w : World) (hx : Hid (x < 18446744073709551616)) (hy : Hid (y < 18446744073709551616)) (h0 : 0 ≤ k) (hk : k < 128) : Calls Try.prog 16 #[.agg #[.int .u64 (x : Int), .int .u64 (y : Int)], .int .i64 k] w fun r w' => r = .returned (.bool (bitL x y k.toNat)) ∧ Below w.heap.size w w' := by
  obtain ⟨k, rfl⟩ := Int.eq_ofNat_of_zero_le h0
  by_cases h : k < 64
  · have := bit16 x y k w hx h
    simpa [bitL, h] using this
  · obtain ⟨j, rfl⟩ : ∃ j, k = 64 + j := ⟨k - 64, by omega⟩
    have := bit16b x y j w hy (by omega)
    have e : bitL x y (64 + j) = y.testBit j := by unfold bitL; rw [if_neg h, Nat.add_sub_cancel_left]
    rw [show ((64 + j : Nat) : Int).toNat = 64 + j from rfl, e]
    exact this

theorem shift18a (x y k : Nat) (w : World) (hk : 128 ≤ k) : Calls Try.prog 18 #[.agg #[.int .u64 (x : Int), .int .u64 (y : Int)], .int .i64 (k : Int)] w fun r w' => r = .returned (.agg #[.int .u64 0, .int .u64 0]) ∧ Below w.heap.size w w' := by
  have h1 : decide ((128 : Int) ≤ (k : Int)) = true := by simp; omega
  go_enter Try.func18, Try.ntmps18
  go_wp2
  exact bodyPost_ret (v := .agg #[.int .u64 0, .int .u64 0]) (by simp [results, Try.results18, go_sem]) rfl ⟨rfl, below_alloc2 _ _ _⟩

theorem shift18b (x y k : Nat) (w : World) (hk : k < 64) (r : Int) (hr : IntKind.u64.wrap ((x : Int) * 2 ^ k) = r) : Calls Try.prog 18 #[.agg #[.int .u64 (x : Int), .int .u64 (y : Int)], .int .i64 ((64 + k : Nat) : Int)] w fun r' w' => r' = .returned (.agg #[.int .u64 0, .int .u64 r]) ∧ Below w.heap.size w w' := by
  have h1 : decide ((128 : Int) ≤ ((64 + k : Nat) : Int)) = false := by simp; omega
  have h2 : decide ((64 : Int) ≤ ((64 + k : Nat) : Int)) = true := by simp; omega
  have h3 : ((64 + k : Nat) : Int) - 64 = k := by omega
  generalize ((64 + k : Nat) : Int) = m at *
  go_enter Try.func18, Try.ntmps18
  go_wp2
  exact bodyPost_ret (v := .agg #[.int .u64 0, .int .u64 r]) (by simp [results, Try.results18, go_sem]) rfl ⟨rfl, below_alloc2 _ _ _⟩

theorem shift18c (x y k : Nat) (w : World) (hk : k < 64) (h0 : 0 < k) (r0 r1 r2 : Int) (hr0 : IntKind.u64.wrap ((x : Int) * 2 ^ k) = r0) (hr1 : IntKind.u64.wrap ((y : Int) * 2 ^ k) = r1) (hr2 : bits .or .u64 r1 ((x : Int) / 2 ^ (64 - k)) = r2) : Calls Try.prog 18 #[.agg #[.int .u64 (x : Int), .int .u64 (y : Int)], .int .i64 (k : Int)] w fun r w' => r = .returned (.agg #[.int .u64 r0, .int .u64 r2]) ∧ Below w.heap.size w w' := by
  have h1 : decide ((128 : Int) ≤ (k : Int)) = false := by simp; omega
  have h2 : decide ((64 : Int) ≤ (k : Int)) = false := by simp; omega
  have h3 : decide ((0 : Int) < (k : Int)) = true := by simp; omega
  go_enter Try.func18, Try.ntmps18
  go_wp2
  go_region
  go_wp2
  exact bodyPost_ret (v := .agg #[.int .u64 r0, .int .u64 r2]) (by simp [results, Try.results18, go_sem]) rfl ⟨rfl, (below_alloc2 _ _ _).drew⟩

theorem set19a (x y k : Nat) (w : World) (hk : k < 64) (r : Int) (hr : bits BinOp.or IntKind.u64 (↑x) (IntKind.u64.wrap (2 ^ k)) = r) : Calls Try.prog 19 #[.agg #[.int .u64 (x : Int), .int .u64 (y : Int)], .int .i64 (k : Int)] w fun e w' => e = .returned (.agg #[.int .u64 r, .int .u64 (y : Int)]) ∧ Below w.heap.size w w' := by
  have h1 : (k : Int) / 64 = 0 := by omega
  have h2 : (k : Int) % 64 = k := by omega
  have h3 : k / 64 = 0 := by omega
  go_enter Try.func19, Try.ntmps19
  go_wp2
  go_region
  go_wp2
  exact bodyPost_ret (v := .agg #[.int .u64 r, .int .u64 (y : Int)]) (by simp [results, Try.results19, go_sem]) rfl ⟨rfl, (below_alloc2 _ _ _).drew⟩

theorem set19b (x y k : Nat) (w : World) (hk : k < 64) (r : Int) (hr : bits BinOp.or IntKind.u64 (↑y) (IntKind.u64.wrap (2 ^ k)) = r) : Calls Try.prog 19 #[.agg #[.int .u64 (x : Int), .int .u64 (y : Int)], .int .i64 ((64 + k : Nat) : Int)] w fun e w' => e = .returned (.agg #[.int .u64 (x : Int), .int .u64 r]) ∧ Below w.heap.size w w' := by
  have h1 : (64 + (k : Int)) / 64 = 1 := by omega
  have h2 : (64 + (k : Int)) % 64 = k := by omega
  have h3 : (64 + k) / 64 = 1 := by omega
  go_enter Try.func19, Try.ntmps19
  go_wp2
  go_region
  go_wp2
  exact bodyPost_ret (v := .agg #[.int .u64 (x : Int), .int .u64 r]) (by simp [results, Try.results19, go_sem]) rfl ⟨rfl, (below_alloc2 _ _ _).drew⟩

/-- bits moved up -/
def shL (x y k : Nat) : Nat × Nat :=
  if 128 ≤ k then (0, 0) else if 64 ≤ k then (0, x * 2 ^ (k - 64) % 18446744073709551616)
  else if 0 < k then (x * 2 ^ k % 18446744073709551616, (y * 2 ^ k % 18446744073709551616) ||| (x / 2 ^ (64 - k))) else (x, y)

/-- a bit that is set -/
def setL (x y k : Nat) : Nat × Nat := if k < 64 then (x ||| 2 ^ k, y) else (x, y ||| 2 ^ (k - 64))

theorem wrap_shl (x k : Nat) : IntKind.u64.wrap ((x : Int) * 2 ^ k) = ((x * 2 ^ k % 18446744073709551616 : Nat) : Int) := by
  rw [IntKind.wrap_u64]
  simp

theorem shift18_any (x y : Nat) (k : Int) (w : World) (hx : Hid (x < 18446744073709551616)) (hy : Hid (y < 18446744073709551616)) (h0 : 0 < k) :
    Calls Try.prog 18 #[.agg #[.int .u64 (x : Int), .int .u64 (y : Int)], .int .i64 k] w fun r w' => r = .returned (.agg #[.int .u64 ((shL x y k.toNat).1 : Int), .int .u64 ((shL x y k.toNat).2 : Int)]) ∧ Below w.heap.size w w' := by
  obtain ⟨k, rfl⟩ := Int.eq_ofNat_of_zero_le (Int.le_of_lt h0)
  have hk0 : 0 < k := by omega
  by_cases h1 : 128 ≤ k
  · have := shift18a x y k w h1
    simpa [shL, h1] using this
  · by_cases h2 : 64 ≤ k
    · obtain ⟨j, rfl⟩ : ∃ j, k = 64 + j := ⟨k - 64, by omega⟩
      have := shift18b x y j w (by omega) _ (wrap_shl x j)
      have e : shL x y (64 + j) = (0, x * 2 ^ j % 18446744073709551616) := by
        unfold shL; rw [if_neg h1, if_pos h2, Nat.add_sub_cancel_left]
      rw [show ((64 + j : Nat) : Int).toNat = 64 + j from rfl, e]
      exact this
    · have hd : x / 2 ^ (64 - k) < 18446744073709551616 := Nat.lt_of_le_of_lt (Nat.div_le_self _ _) hx.out
      have e2 : bits .or .u64 ((y * 2 ^ k % 18446744073709551616 : Nat) : Int) ((x : Int) / 2 ^ (64 - k)) = (((y * 2 ^ k % 18446744073709551616) ||| (x / 2 ^ (64 - k)) : Nat) : Int) := by
        rw [show ((x : Int) / 2 ^ (64 - k)) = ((x / 2 ^ (64 - k) : Nat) : Int) from by simp]
        exact u64_or_nat _ _ (Nat.mod_lt _ (by omega)) hd
      have := shift18c x y k w (by omega) hk0 _ _ _ (wrap_shl x k) (wrap_shl y k) e2
      have e : shL x y k = (x * 2 ^ k % 18446744073709551616, (y * 2 ^ k % 18446744073709551616) ||| (x / 2 ^ (64 - k))) := by
        unfold shL; rw [if_neg h1, if_neg h2, if_pos hk0]
      rw [show ((k : Nat) : Int).toNat = k from rfl, e]
      exact this

theorem or_pow (x k : Nat) (hx : x < 18446744073709551616) (hk : k < 64) : bits BinOp.or IntKind.u64 (↑x) (IntKind.u64.wrap (2 ^ k)) = ((x ||| 2 ^ k : Nat) : Int) := by
  have hp : 2 ^ k < 18446744073709551616 := by
    have : (2 : Nat) ^ k < 2 ^ 64 := Nat.pow_lt_pow_of_lt (by omega) hk
    exact this
  have e : IntKind.u64.wrap (2 ^ k) = ((2 ^ k : Nat) : Int) := by
    have := wrap_shl 1 k
    rw [Nat.one_mul, Nat.mod_eq_of_lt hp] at this
    simpa using this
  rw [e]
  exact u64_or_nat _ _ hx hp

theorem set19_any (x y : Nat) (k : Int) (w : World) (hx : Hid (x < 18446744073709551616)) (hy : Hid (y < 18446744073709551616)) (h0 : 0 ≤ k) (hk : k < 128) :
    Calls Try.prog 19 #[.agg #[.int .u64 (x : Int), .int .u64 (y : Int)], .int .i64 k] w fun r w' => r = .returned (.agg #[.int .u64 ((setL x y k.toNat).1 : Int), .int .u64 ((setL x y k.toNat).2 : Int)]) ∧ Below w.heap.size w w' := by
  obtain ⟨k, rfl⟩ := Int.eq_ofNat_of_zero_le h0
  by_cases h : k < 64
  · have := set19a x y k w h _ (or_pow x k hx.out h)
    simpa [setL, h] using this
  · obtain ⟨j, rfl⟩ : ∃ j, k = 64 + j := ⟨k - 64, by omega⟩
    have := set19b x y j w (by omega) _ (or_pow y j hy.out (by omega))
    have e : setL x y (64 + j) = (x, y ||| 2 ^ j) := by unfold setL; rw [if_neg h, Nat.add_sub_cancel_left]
    rw [show ((64 + j : Nat) : Int).toNat = 64 + j from rfl, e]
    exact this
end Go.Proofs.Ytbkgjijhjlcojaa
