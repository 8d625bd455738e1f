/-
  Plain law: the document's tag is the program's.
-/
import Derived.Test.YtlheepcojeaeaaaXb
namespace Go.Proofs.Ytlheepcojeaeaaa
set_option maxHeartbeats 400000
set_option linter.unusedVariables false
set_option linter.unusedSimpArgs false

/-- digits of bytes -/
def digitsR (b : List UInt8) : List Nat := (List.range 17).map fun i => (b.getD i 0).toNat
theorem digits_at (b : List UInt8) (i : Nat) : (digitsR b).getD i 0 = if i < 17 then (b.getD i 0).toNat else 0 := by
  by_cases h : i < 17
  · simp [digitsR, List.getD_eq_getElem?_getD, List.getElem?_range h, h]
  · have : (digitsR b).length ≤ i := by simp [digitsR]; omega
    rw [if_neg h, List.getD_eq_getElem?_getD, List.getElem?_eq_none this]; rfl
theorem digits_lt (b : List UInt8) (i : Nat) : (digitsR b).getD i 0 < 256 := by
  rw [digits_at]
  have := (b.getD i 0).toNat_lt
  split <;> omega
theorem leNat_dSum (b : List UInt8) : ∀ k, leNat (b.take k) = dSum (fun i => (b.getD i 0).toNat) k
  | 0 => by simp [leNat, dSum, dNum]
  | k + 1 => by rw [leNat_take, dSum_succ, leNat_dSum b k]
theorem digits_num (b : List UInt8) (h : b.length ≤ 17) : dNum (digitsR b) = leNat b := by
  have := leNat_dSum b 17
  rw [List.take_of_length_le h] at this
  rw [this]; rfl
/-- a block and a number -/
def addR (p : List UInt8) (n : List Nat) : List Nat := (List.range 17).map fun i => (digitsR (p ++ [1])).getD i 0 + n.getD i 0
theorem add_at (p : List UInt8) (n : List Nat) (i : Nat) : (addR p n).getD i 0 = if i < 17 then (digitsR (p ++ [1])).getD i 0 + n.getD i 0 else 0 := by
  by_cases h : i < 17
  · simp [addR, List.getD_eq_getElem?_getD, List.getElem?_range h, h]
  · have : (addR p n).length ≤ i := by simp [addR]; omega
    rw [if_neg h, List.getD_eq_getElem?_getD, List.getElem?_eq_none this]; rfl
theorem add_numR (p : List UInt8) (n : List Nat) (hp : p.length ≤ 16) (hn : Num n) : dNum (addR p n) = leNat (p ++ [1]) + dNum n := by
  have e : dNum (addR p n) = dSum (fun i => (digitsR (p ++ [1])).getD i 0) 17 + dSum (fun i => n.getD i 0) 17 := by rw [← dSum_add]; rfl
  rw [e, dSum_getD n 17 (by rw [hn.len]; omega), dSum_getD _ 17 (by simp [digitsR]), digits_num _ (by simp; omega)]
/-- the number behind so many blocks -/
def hornR (r : List Nat) (msg : List UInt8) : Nat → List Nat
  | 0 => List.replicate 17 0
  | k + 1 => timesR (addR (partM msg k) (hornR r msg k)) r
theorem horn_ref (r : List UInt8) (hr : r.length ≤ 17) (msg : List UInt8) : ∀ k, Num (hornR (digitsR r) msg k) ∧ dNum (hornR (digitsR r) msg k) % prime = hornM (leNat r) msg k
  | 0 => by
    refine ⟨⟨by simp [hornR], ?_, by rw [hornR, dNum_zero]; omega⟩, by rw [hornR, dNum_zero]; rfl⟩
    intro i
    simp only [hornR, List.getD_eq_getElem?_getD, List.getElem?_replicate]
    split <;> simp
  | k + 1 => by
    obtain ⟨h1, h2⟩ := horn_ref r hr msg k
    have hpl : (partM msg k).length ≤ 16 := by simp [partM]; omega
    obtain ⟨t1, t2⟩ := times_ref (addR (partM msg k) (hornR (digitsR r) msg k)) (digitsR r) (by simp [addR]) (by simp [digitsR]) (by
      intro i
      rw [add_at]
      have := digits_lt (partM msg k ++ [1]) i; have := h1.dig i
      split <;> omega) (digits_lt r)
    refine ⟨t1, ?_⟩
    rw [hornR, t2, add_numR _ _ hpl h1, digits_num r hr, hornM, ← h2, Nat.mul_mod, Nat.mul_mod (dNum _ % prime + _), Nat.add_comm (dNum _ % prime), Nat.add_mod_mod]
/-- the sum of a number and bytes, digit by digit -/
def sumS (n : List Nat) (key : List UInt8) : List Nat := (List.range 16).map fun i => n.getD i 0 + ((key.drop 16).getD i 0).toNat
theorem sumS_at (n : List Nat) (key : List UInt8) (i : Nat) (h : i < 16) : (sumS n key).getD i 0 = n.getD i 0 + ((key.drop 16).getD i 0).toNat := by
  simp [sumS, List.getD_eq_getElem?_getD, List.getElem?_range h]
def tagR (key msg : List UInt8) : List UInt8 :=
  let s := sumS (leastR (leastR (hornR (digitsR (clampM key)) msg ((msg.length + 15) / 16)))) key
  (List.range 16).map fun i => UInt8.ofNat ((cOver s i + s.getD i 0) % 256)
theorem digit_of (s : List Nat) (k : Nat) (hk : k < s.length) : (cOver s k + s.getD k 0) % 256 = dNum s / 256 ^ k % 256 := by
  have h1 := cOver_num s k
  have h2 := dSum_lt (fun j => (cOver s j + s.getD j 0) % 256) (fun i => by omega) k
  have h3 := dNum_split s k (by omega)
  rw [← dSum_take s k (by omega), dNum_drop s k, ← h1] at h3
  have hp : 0 < 256 ^ k := Nat.pow_pos (by omega)
  have h4 : dNum s = dSum (fun j => (cOver s j + s.getD j 0) % 256) k + 256 ^ k * (cOver s k + (s.getD k 0 + 256 * dNum (s.drop (k + 1)))) := by
    rw [h3, Nat.mul_add (256 ^ k) (cOver s k)]; omega
  rw [h4, Nat.add_mul_div_left _ _ hp, Nat.div_eq_of_lt h2]
  omega
theorem tag_ref (key msg : List UInt8) (hk : key.length = 32) : tagR key msg = tagM key msg := by
  have hlc : (clampM key).length = 16 := by simp [clampM]
  obtain ⟨h1, h2⟩ := horn_ref (clampM key) (by omega) msg ((msg.length + 15) / 16)
  obtain ⟨l1, l2⟩ := least_ref _ h1
  obtain ⟨m1, m2⟩ := least_ref _ l1
  rw [tag_num]
  obtain ⟨n, hn⟩ : ∃ n, leastR (leastR (hornR (digitsR (clampM key)) msg ((msg.length + 15) / 16))) = n := ⟨_, rfl⟩
  have e1 : tagR key msg = (List.range 16).map fun i => UInt8.ofNat ((cOver (sumS n key) i + (sumS n key).getD i 0) % 256) := by rw [← hn]; rfl
  rw [hn] at m1 m2
  have e2 : dNum n = hornM (leNat (clampM key)) msg ((msg.length + 15) / 16) := by
    rw [m2, l2, Nat.mod_mod, h2]
  have e3 : dNum (sumS n key) = dNum (n.take 16) + leNat (key.drop 16) := by
    have e : dNum (sumS n key) = dSum (fun i => n.getD i 0) 16 + dSum (fun i => ((key.drop 16).getD i 0).toNat) 16 := by rw [← dSum_add]; rfl
    rw [e, ← leNat_dSum, dSum_take n 16 (by rw [m1.len]; omega), List.take_of_length_le (l := key.drop 16) (by rw [List.length_drop]; omega)]
  have e4 := dNum_split n 16 (by rw [m1.len]; omega)
  have e5 : tagR key msg = le16 (dNum (sumS n key)) := by
    rw [e1]
    unfold le16
    apply List.map_congr_left
    intro i hi
    rw [digit_of _ _ (by simp [sumS]; simpa using hi)]
  rw [e5]
  apply le16_congr
  rw [e3, ← e2, e4]
  omega
end Go.Proofs.Ytlheepcojeaeaaa
