/-
  Walks of windows in the document's answer: numbers of 64 truths.
-/
import Derived.Test.YtbkgjijhjlcojaaWe
namespace Go.Proofs.Ytbkgjijhjlcojaa
open Go.RowKit Go.Proofs.Ytbkgjijhjlcojaa.Eager
set_option maxHeartbeats 400000
set_option linter.unusedVariables false
set_option linter.unusedSimpArgs false

/-- the number of the truths from place 63 down, so many of them -/
def numL (f : Nat → Bool) : Nat → Nat
  | 0 => 0
  | m + 1 => 2 * numL f m + (f (63 - m)).toNat

theorem numL_lt (f : Nat → Bool) : ∀ m, numL f m < 2 ^ m
  | 0 => by simp [numL]
  | m + 1 => by
    have := numL_lt f m
    have hb : (f (63 - m)).toNat ≤ 1 := Bool.toNat_le _
    rw [numL, Nat.pow_succ]; omega

theorem numL_small (f : Nat → Bool) (m : Nat) (h : m < 64) : numL f m < 9223372036854775808 := by
  have h1 := numL_lt f m
  have h2 : (2 : Nat) ^ m ≤ 2 ^ 63 := Nat.pow_le_pow_right (by omega) (by omega)
  exact Nat.lt_of_lt_of_le h1 h2

theorem numL_bit (f : Nat → Bool) : ∀ m, m ≤ 64 → ∀ j, j < m → (numL f m).testBit j = f (64 - m + j)
  | 0, _, j, hj => by omega
  | m + 1, hm, j, hj => by
    rw [numL]
    cases j with
    | zero =>
      rw [Nat.testBit_zero]
      cases h : f (63 - m) with
      | true => simp [show 64 - (m + 1) + 0 = 63 - m from by omega, h]
      | false => simp [show 64 - (m + 1) + 0 = 63 - m from by omega, h]
    | succ j =>
      have := numL_bit f m (by omega) j (by omega)
      rw [Nat.testBit_succ]
      have hb : (f (63 - m)).toNat ≤ 1 := Bool.toNat_le _
      rw [show (2 * numL f m + (f (63 - m)).toNat) / 2 = numL f m from by omega, this]
      congr 1; omega

theorem number20 (oa : Option Addr) (l : List Bool) (c s : Nat) (w : World) (h : Hid (Cells w oa (l.map Value.bool))) (hl : Hid (l.length = 128)) (hs : Hid (s + 64 ≤ 128)) :
    Calls Try.prog 20 #[.slice oa 128 c, .int .i64 (s : Int)] w fun r w' => r = .returned (.int .u64 ((numL (fun i => l.getD (s + i) false) 64 : Nat) : Int)) ∧ w' = w := by
  generalize hf : (fun i => l.getD (s + i) false) = f
  have HF := Lib.hid hf; clear hf
  go_enter Try.func20, Try.ntmps20
  go_wp2
  go_loopw [5, 6] (fun v i wr => ∃ m : Nat, m ≤ 64 ∧ i = .int .i64 (63 - (m : Int)) ∧ v = .int .u64 ((numL f m : Nat) : Int) ∧ wr = w) (fun _ i _ => (intOf i + 1).toNat)
  case atStart => exact ⟨0, by omega, rfl, rfl, rfl⟩
  case round =>
    obtain ⟨m, hm, rfl, rfl, rfl⟩ := hrel
    by_cases hlt : m < 64
    · have hb := numL_small f m hlt
      obtain ⟨b, o, rfl, hbl, hc⟩ := h.out.at' (i := s + (63 - m)) (by simp; have := hl.out; have := hs.out; omega)
      have HSUC : Hid (numL f (m + 1) = 2 * numL f m + (f (63 - m)).toNat) := rfl
      have hv : (l.map Value.bool)[s + (63 - m)]'(by simp; have := hl.out; have := hs.out; omega) = .bool (f (63 - m)) := by
        rw [← HF.out]; simp [List.getD]
        rw [List.getElem?_eq_getElem (by have := hl.out; have := hs.out; omega)]; simp
      rw [hv] at hc
      clear hv
      have h1 : decide ((0 : Int) ≤ 63 - (m : Int)) = true := by simp; omega
      have h2 : IntKind.i64.wrap ((s : Int) + (63 - (m : Int))) = ((s + (63 - m) : Nat) : Int) := by rw [IntKind.wrap_i64]; have := hs.out; omega
      have h3 : IntKind.i64.wrap (63 - (m : Int) - 1) = 63 - ((m + 1 : Nat) : Int) := by rw [IntKind.wrap_i64]; omega
      have h4 : ((s + (63 - m) : Nat) : Int) < 128 := by have := hs.out; omega
      have h5 : IntKind.u64.wrap (((numL f m : Nat) : Int) * 2) = ((2 * numL f m : Nat) : Int) := by rw [IntKind.wrap_u64]; omega
      have h6 : IntKind.u64.wrap (((2 * numL f m : Nat) : Int) + 1) = ((2 * numL f m + 1 : Nat) : Int) := by rw [IntKind.wrap_u64]; omega
      clear hb
      generalize 2 * numL f m = z2 at *
      generalize hz : numL f m = z at *
      clear hz
      generalize s + (63 - m) = q at *
      generalize hqi : 63 - (m : Int) = mi at *
      have HQI := Lib.hid hqi; clear hqi
      cases hfb : f (63 - m) with
      | true =>
        rw [hfb] at hc HSUC
        have HFB := Lib.hid hfb; clear hfb
        go_wp2
        go_roundw
        case rel => exact ⟨m + 1, by omega, rfl, by rw [HSUC.out]; rfl, trivial⟩
        case measure => have := HQI.out; simp [intOf]; omega
      | false =>
        rw [hfb] at hc HSUC
        have HFB := Lib.hid hfb; clear hfb
        go_wp2
        go_roundw
        case rel => exact ⟨m + 1, by omega, rfl, by rw [HSUC.out]; rfl, trivial⟩
        case measure => have := HQI.out; simp [intOf]; omega
    · obtain rfl : m = 64 := by omega
      have h1 : decide ((0 : Int) ≤ 63 - ((64 : Nat) : Int)) = false := by decide
      go_wp2
      go_ret
      exact ⟨rfl, rfl⟩
end Go.Proofs.Ytbkgjijhjlcojaa
