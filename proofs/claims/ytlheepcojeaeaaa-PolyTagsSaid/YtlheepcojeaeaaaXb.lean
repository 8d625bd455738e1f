/-
  Plain law: the tag that the document makes, in numbers.
-/
import Derived.Test.YtlheepcojeaeaaaXa
namespace Go.Proofs.Ytlheepcojeaeaaa
set_option maxHeartbeats 400000
set_option linter.unusedVariables false
set_option linter.unusedSimpArgs false

/-- digits by 256, the lowest first, as a number -/
def dNum : List Nat → Nat
  | [] => 0
  | x :: l => x + 256 * dNum l
theorem dNum_append (a b : List Nat) : dNum (a ++ b) = dNum a + 256 ^ a.length * dNum b := by
  induction a with
  | nil => simp [dNum]
  | cons x a ih => simp only [List.cons_append, dNum, ih, List.length_cons, Nat.pow_succ, Nat.mul_add]; rw [Nat.mul_comm (256 ^ a.length) 256, Nat.mul_assoc]; omega
theorem dNum_zero (k : Nat) : dNum (List.replicate k 0) = 0 := by
  induction k with
  | zero => rfl
  | succ k ih => simp [List.replicate_succ, dNum, ih]
/-- the number of so many digits, told by a rule -/
def dSum (f : Nat → Nat) (k : Nat) : Nat := dNum ((List.range k).map f)
theorem dSum_succ (f : Nat → Nat) (k : Nat) : dSum f (k + 1) = dSum f k + 256 ^ k * f k := by
  unfold dSum
  rw [List.range_succ, List.map_append, dNum_append]
  simp [dNum]
theorem dSum_add (f g : Nat → Nat) : ∀ k, dSum (fun i => f i + g i) k = dSum f k + dSum g k
  | 0 => rfl
  | k + 1 => by rw [dSum_succ, dSum_succ, dSum_succ, dSum_add f g k, Nat.mul_add]; omega
theorem dSum_mul (f : Nat → Nat) (c : Nat) : ∀ k, dSum (fun i => f i * c) k = dSum f k * c
  | 0 => by simp [dSum, dNum]
  | k + 1 => by rw [dSum_succ, dSum_succ, dSum_mul f c k, Nat.add_mul, Nat.mul_assoc]
theorem dSum_lt (f : Nat → Nat) (h : ∀ i, f i < 256) : ∀ k, dSum f k < 256 ^ k
  | 0 => by simp [dSum, dNum]
  | k + 1 => by
    rw [dSum_succ, Nat.pow_succ]
    have h1 := dSum_lt f h k
    have h2 : 256 ^ k * f k ≤ 256 ^ k * 255 := Nat.mul_le_mul_left _ (by have := h k; omega)
    omega
theorem dSum_congr {f g : Nat → Nat} {k : Nat} (h : ∀ i, i < k → f i = g i) : dSum f k = dSum g k := by
  unfold dSum
  congr 1
  apply List.map_congr_left
  intro i hi
  exact h i (by simpa using hi)
theorem dSum_getD (l : List Nat) (k : Nat) (h : l.length ≤ k) : dSum (fun i => l.getD i 0) k = dNum l := by
  have e : (List.range k).map (fun i => l.getD i 0) = l ++ List.replicate (k - l.length) 0 := by
    apply List.ext_getElem?
    intro i
    by_cases h1 : i < k
    · simp only [List.getElem?_map, List.getElem?_range h1, Option.map_some, List.getD_eq_getElem?_getD]
      by_cases h2 : i < l.length
      · rw [List.getElem?_append_left h2]; simp [h2]
      · rw [List.getElem?_append_right (by omega), List.getElem?_replicate, if_pos (by omega), List.getElem?_eq_none (by omega)]; rfl
    · rw [List.getElem?_eq_none (by simp; omega), List.getElem?_eq_none (by simp; omega)]
  unfold dSum
  rw [e, dNum_append, dNum_zero]; simp
theorem dSum_take (l : List Nat) (k : Nat) (h : k ≤ l.length) : dSum (fun i => l.getD i 0) k = dNum (l.take k) := by
  rw [← dSum_getD (l.take k) k (by rw [List.length_take]; omega)]
  apply dSum_congr
  intro i hi
  simp [List.getD_eq_getElem?_getD, hi]
theorem dNum_split (l : List Nat) (k : Nat) (h : k ≤ l.length) : dNum l = dNum (l.take k) + 256 ^ k * dNum (l.drop k) := by
  have := dNum_append (l.take k) (l.drop k)
  rw [List.take_append_drop, List.length_take, Nat.min_eq_left h] at this
  exact this
theorem dNum_drop (l : List Nat) (k : Nat) : dNum (l.drop k) = l.getD k 0 + 256 * dNum (l.drop (k + 1)) := by
  by_cases h : k < l.length
  · rw [List.drop_eq_getElem_cons h]; simp [dNum, h]
  · rw [List.drop_eq_nil_of_le (by omega), List.drop_eq_nil_of_le (by omega)]; simp [dNum, List.getElem?_eq_none (show l.length ≤ k by omega)]
theorem dNum_lt (l : List Nat) (h : ∀ i, l.getD i 0 < 256) : dNum l < 256 ^ l.length := by
  rw [← dSum_getD l l.length (Nat.le_refl _)]; exact dSum_lt _ h _
/-- a bound of a number by its digits -/
theorem dNum_le (B : Nat) (l : List Nat) (h : ∀ i, l.getD i 0 ≤ 255 * B) : dNum l + B ≤ B * 256 ^ l.length := by
  induction l with
  | nil => simp [dNum]
  | cons x l ih =>
    have h1 := ih (fun i => by have := h (i + 1); simpa using this)
    have h2 : x ≤ 255 * B := by have := h 0; simpa using this
    simp only [dNum, List.length_cons, Nat.pow_succ]
    rw [← Nat.mul_assoc]
    omega
theorem dNum_set (l : List Nat) : ∀ (j : Nat) (v : Nat), j < l.length → dNum (l.set j v) + 256 ^ j * l.getD j 0 = dNum l + 256 ^ j * v := by
  induction l with
  | nil => intro j v h; simp at h
  | cons x l ih =>
    intro j v h
    cases j with
    | zero => simp [dNum]; omega
    | succ j =>
      have := ih j v (by simpa using h)
      simp only [List.set_cons_succ, dNum, List.getD_cons_succ, Nat.pow_succ]
      rw [Nat.mul_comm (256 ^ j) 256, Nat.mul_assoc, Nat.mul_assoc]
      omega

/-- what is carried -/
def cOver (n : List Nat) : Nat → Nat
  | 0 => 0
  | k + 1 => (cOver n k + n.getD k 0) / 256
def carriedR (n : List Nat) : List Nat := (List.range (n.length + 4)).map fun k => (cOver n k + n.getD k 0) % 256
theorem cOver_le (n : List Nat) (M : Nat) (h : ∀ i, n.getD i 0 ≤ M) : ∀ k, cOver n k ≤ M
  | 0 => by simp [cOver]
  | k + 1 => by have := cOver_le n M h k; have := h k; simp only [cOver]; omega
theorem cOver_num (n : List Nat) : ∀ k, dSum (fun j => (cOver n j + n.getD j 0) % 256) k + 256 ^ k * cOver n k = dSum (fun j => n.getD j 0) k
  | 0 => by simp [dSum, dNum, cOver]
  | k + 1 => by
    rw [dSum_succ, dSum_succ, ← cOver_num n k]
    simp only [cOver]
    have e : 256 ^ (k + 1) * ((cOver n k + n.getD k 0) / 256) = 256 ^ k * (256 * ((cOver n k + n.getD k 0) / 256)) := by rw [Nat.pow_succ, Nat.mul_assoc]
    have e2 : 256 ^ k * ((cOver n k + n.getD k 0) % 256) + 256 ^ k * (256 * ((cOver n k + n.getD k 0) / 256)) = 256 ^ k * cOver n k + 256 ^ k * n.getD k 0 := by
      rw [← Nat.mul_add, Nat.mod_add_div, Nat.mul_add]
    omega
theorem carried_len (n : List Nat) : (carriedR n).length = n.length + 4 := by simp [carriedR]
theorem carried_at (n : List Nat) (i : Nat) (h : i < n.length + 4) : (carriedR n).getD i 0 = (cOver n i + n.getD i 0) % 256 := by
  simp [carriedR, List.getD_eq_getElem?_getD, List.getElem?_range h]
theorem carried_lt (n : List Nat) (i : Nat) : (carriedR n).getD i 0 < 256 := by
  by_cases h : i < n.length + 4
  · rw [carried_at n i h]; omega
  · have : (carriedR n).length ≤ i := by rw [carried_len]; omega
    simp [List.getD_eq_getElem?_getD, this]
theorem carried_num (n : List Nat) (h : ∀ i, n.getD i 0 ≤ 255 * 2 ^ 30) : dNum (carriedR n) = dNum n := by
  have h1 := cOver_num n (n.length + 4)
  rw [dSum_getD n _ (by omega)] at h1
  have h2 := dNum_le (2 ^ 30) n h
  have h3 : 256 ^ (n.length + 4) = 4294967296 * 256 ^ n.length := by rw [Nat.pow_add]; omega
  have h4 : cOver n (n.length + 4) = 0 := by
    rcases Nat.eq_zero_or_pos (cOver n (n.length + 4)) with e | e
    · exact e
    · have h5 : 256 ^ (n.length + 4) * 1 ≤ 256 ^ (n.length + 4) * cOver n (n.length + 4) := Nat.mul_le_mul_left _ e
      have h6 : 0 < 256 ^ n.length := Nat.pow_pos (by omega)
      omega
  rw [h4] at h1
  show dSum _ _ = _
  omega

/-- what stands from 2^130 on, five times -/
def foldN (N : Nat) : Nat := N % 1361129467683753853853498429727072845824 + 5 * (N / 1361129467683753853853498429727072845824)
def foldedR (n : List Nat) : List Nat := (List.range 24).map fun j =>
  ((if j < 16 then n.getD j 0 else if j = 16 then n.getD 16 0 % 4 else 0) + (if j = 0 then n.getD 16 0 / 4 * 5 else 0)) + n.getD (j + 17) 0 * 64 * 5
theorem folded_at (n : List Nat) (j : Nat) (h : j < 24) : (foldedR n).getD j 0 = ((if j < 16 then n.getD j 0 else if j = 16 then n.getD 16 0 % 4 else 0) + (if j = 0 then n.getD 16 0 / 4 * 5 else 0)) + n.getD (j + 17) 0 * 64 * 5 := by
  simp [foldedR, List.getD_eq_getElem?_getD, List.getElem?_range h]
theorem folded_le (n : List Nat) (h : ∀ i, n.getD i 0 < 256) (i : Nat) : (foldedR n).getD i 0 ≤ 255 * 2 ^ 30 := by
  by_cases hi : i < 24
  · rw [folded_at n i hi]
    have h1 := h i; have h2 := h 16; have h3 := h (i + 17)
    split <;> split <;> (try split) <;> omega
  · have : (foldedR n).length ≤ i := by simp [foldedR]; omega
    simp [List.getD_eq_getElem?_getD, this]
theorem folded_num (n : List Nat) (h17 : 17 ≤ n.length) (h41 : n.length ≤ 41) (h : ∀ i, n.getD i 0 < 256) : dNum (foldedR n) = foldN (dNum n) := by
  have e : dNum (foldedR n) = dSum (fun j => if j < 16 then n.getD j 0 else if j = 16 then n.getD 16 0 % 4 else 0) 24 + dSum (fun j => if j = 0 then n.getD 16 0 / 4 * 5 else 0) 24 + dSum (fun j => n.getD (j + 17) 0 * 64 * 5) 24 := by
    rw [← dSum_add, ← dSum_add]; rfl
  have e2 : dSum (fun j => n.getD (j + 17) 0 * 64 * 5) 24 = dNum (n.drop 17) * 64 * 5 := by
    have e1 : dSum (fun j => n.getD (j + 17) 0) 24 = dNum (n.drop 17) := by
      rw [← dSum_getD (n.drop 17) 24 (by simp; omega)]
      apply dSum_congr
      intro i _
      simp [List.getD_eq_getElem?_getD, Nat.add_comm]
    rw [dSum_mul, dSum_mul, e1]
  have e3 : dSum (fun j => if j = 0 then n.getD 16 0 / 4 * 5 else 0) 24 = n.getD 16 0 / 4 * 5 := by
    simp [dSum, List.range_succ, dNum]
  have e4 : dSum (fun j => if j < 16 then n.getD j 0 else if j = 16 then n.getD 16 0 % 4 else 0) 24 = dNum (n.take 16) + 256 ^ 16 * (n.getD 16 0 % 4) := by
    have e5 : dSum (fun j => if j < 16 then n.getD j 0 else if j = 16 then n.getD 16 0 % 4 else 0) 16 = dNum (n.take 16) := by
      rw [← dSum_take n 16 (by omega)]
      apply dSum_congr
      intro i hi
      simp [hi]
    rw [dSum_succ, dSum_succ, dSum_succ, dSum_succ, dSum_succ, dSum_succ, dSum_succ, dSum_succ, e5]
    simp
  rw [e, e2, e3, e4]
  have h1 := dNum_split n 16 (by omega)
  rw [dNum_drop n 16] at h1
  have h2 : dNum (n.take 16) < 256 ^ 16 := by
    rw [← dSum_take n 16 (by omega)]; exact dSum_lt _ h _
  rw [h1]
  unfold foldN
  have h4 := h 16
  generalize dNum (n.take 16) = lo at *
  generalize dNum (n.drop (16 + 1)) = hi at *
  generalize n.getD 16 0 = x at *
  omega
/-- one folding with its carry -/
def foldC (n : List Nat) : List Nat := carriedR (foldedR n)
theorem foldC_num (n : List Nat) (h17 : 17 ≤ n.length) (h41 : n.length ≤ 41) (h : ∀ i, n.getD i 0 < 256) : dNum (foldC n) = foldN (dNum n) := by
  unfold foldC
  rw [carried_num _ (folded_le n h), folded_num n h17 h41 h]
theorem foldC_len (n : List Nat) : (foldC n).length = 28 := by simp [foldC, carriedR, foldedR]
theorem foldC_lt (n : List Nat) (i : Nat) : (foldC n).getD i 0 < 256 := carried_lt _ i

/-- products -/
def prodIn (a b : List Nat) (i : Nat) (out : List Nat) : Nat → List Nat
  | 0 => out
  | k + 1 => (prodIn a b i out k).set (i + k) ((prodIn a b i out k).getD (i + k) 0 + a.getD i 0 * b.getD k 0)
def prodOut (a b : List Nat) : Nat → List Nat
  | 0 => List.replicate 34 0
  | i + 1 => prodIn a b i (prodOut a b i) 17
theorem prodIn_len (a b : List Nat) (i : Nat) (out : List Nat) : ∀ k, (prodIn a b i out k).length = out.length
  | 0 => rfl
  | k + 1 => by simp [prodIn, prodIn_len a b i out k]
theorem prodOut_len (a b : List Nat) : ∀ i, (prodOut a b i).length = 34
  | 0 => by simp [prodOut]
  | i + 1 => by rw [prodOut, prodIn_len, prodOut_len a b i]
theorem prodIn_num (a b : List Nat) (i : Nat) (out : List Nat) (ho : out.length = 34) (hi : i < 17) : ∀ k, k ≤ 17 → dNum (prodIn a b i out k) = dNum out + 256 ^ i * a.getD i 0 * dSum (fun j => b.getD j 0) k
  | 0, _ => by simp [prodIn, dSum, dNum]
  | k + 1, hk => by
    have h1 := dNum_set (prodIn a b i out k) (i + k) ((prodIn a b i out k).getD (i + k) 0 + a.getD i 0 * b.getD k 0) (by rw [prodIn_len]; omega)
    rw [prodIn_num a b i out ho hi k (by omega)] at h1
    rw [prodIn, dSum_succ]
    have h2 : 256 ^ (i + k) * ((prodIn a b i out k).getD (i + k) 0 + a.getD i 0 * b.getD k 0) = 256 ^ (i + k) * (prodIn a b i out k).getD (i + k) 0 + 256 ^ i * a.getD i 0 * (256 ^ k * b.getD k 0) := by
      rw [Nat.pow_add]; grind
    rw [h2] at h1
    rw [Nat.mul_add]
    omega
theorem prodOut_num (a b : List Nat) (hb : b.length = 17) : ∀ i, i ≤ 17 → dNum (prodOut a b i) = dSum (fun j => a.getD j 0) i * dNum b
  | 0, _ => by simp [prodOut, dSum, dNum, dNum_zero]
  | i + 1, hi => by
    rw [prodOut, prodIn_num a b i _ (prodOut_len a b i) (by omega) 17 (by omega), prodOut_num a b hb i (by omega), dSum_getD b 17 (by omega), dSum_succ, Nat.add_mul]
theorem getD_setN (m : List Nat) (j i : Nat) (v : Nat) (h : j < m.length) : (m.set j v).getD i 0 = if i = j then v else m.getD i 0 := by
  simp only [List.getD_eq_getElem?_getD, List.getElem?_set]
  by_cases e : j = i
  · subst e; simp [h]
  · simp [e, Ne.symm e]
theorem prodIn_le (a b : List Nat) (i : Nat) (out : List Nat) (ho : out.length = 34) (hi : i < 17) (P B : Nat) (hP : ∀ k, a.getD i 0 * b.getD k 0 ≤ P) (hB : ∀ j, out.getD j 0 ≤ B) : ∀ k, k ≤ 17 → ∀ j, (prodIn a b i out k).getD j 0 ≤ B + k * P
  | 0, _, j => by simpa [prodIn] using hB j
  | k + 1, hk, j => by
    have h1 := prodIn_le a b i out ho hi P B hP hB k (by omega)
    rw [prodIn, getD_setN _ _ _ _ (by rw [prodIn_len]; omega), Nat.add_mul]
    have h2 := h1 j; have h3 := h1 (i + k); have h4 := hP k
    split <;> omega
theorem prodOut_le (a b : List Nat) (P : Nat) (hP : ∀ i k, a.getD i 0 * b.getD k 0 ≤ P) : ∀ i, i ≤ 17 → ∀ j, (prodOut a b i).getD j 0 ≤ i * (17 * P)
  | 0, _, j => by
    simp only [prodOut, List.getD_eq_getElem?_getD, List.getElem?_replicate]
    split <;> simp
  | i + 1, hi, j => by
    have h1 := prodOut_le a b P hP i (by omega)
    have h2 := prodIn_le a b i _ (prodOut_len a b i) (by omega) P _ (hP i) h1 17 (by omega) j
    rw [prodOut, Nat.add_mul]; omega
def foldIter (n : List Nat) : Nat → List Nat
  | 0 => n
  | k + 1 => foldC (foldIter n k)
def timesR (a b : List Nat) : List Nat := (foldIter (carriedR (prodOut a b 17)) 4).take 17
theorem mod_fold (N : Nat) : foldN N % prime = N % prime := by unfold foldN prime; omega
theorem take_num (n : List Nat) (k : Nat) (hk : k ≤ n.length) (h : dNum n < 256 ^ k) : dNum (n.take k) = dNum n := by
  have h1 := dNum_split n k hk
  rcases Nat.eq_zero_or_pos (dNum (n.drop k)) with e | e
  · rw [e] at h1; omega
  · have : 256 ^ k * 1 ≤ 256 ^ k * dNum (n.drop k) := Nat.mul_le_mul_left _ e
    omega
/-- a number of 17 digits below 2^130 -/
structure Num (n : List Nat) : Prop where
  len : n.length = 17
  dig : ∀ i, n.getD i 0 < 256
  lt : dNum n < 1361129467683753853853498429727072845824
theorem take_getD (n : List Nat) (k i : Nat) : (n.take k).getD i 0 = if i < k then n.getD i 0 else 0 := by
  simp only [List.getD_eq_getElem?_getD, List.getElem?_take]
  split <;> simp
theorem times_ref (a b : List Nat) (ha : a.length = 17) (hb : b.length = 17) (hda : ∀ i, a.getD i 0 ≤ 511) (hdb : ∀ i, b.getD i 0 < 256) : Num (timesR a b) ∧ dNum (timesR a b) % prime = (dNum a * dNum b) % prime := by
  have hP : ∀ i k, a.getD i 0 * b.getD k 0 ≤ 511 * 255 := fun i k => Nat.mul_le_mul (hda i) (by have := hdb k; omega)
  have h1 := prodOut_num a b hb 17 (by omega)
  rw [dSum_getD a 17 (by omega)] at h1
  have h2 := prodOut_le a b _ hP 17 (by omega)
  have h3 := carried_num (prodOut a b 17) (fun i => by have := h2 i; omega)
  have hA : dNum a < 3 * 87112285931760246646623899502532662132736 := by
    have := dNum_le 3 a (fun i => by have := hda i; omega)
    rw [ha] at this; omega
  have hB : dNum b < 87112285931760246646623899502532662132736 := by
    have := dNum_lt b hdb
    rw [hb] at this; omega
  have hN : dNum a * dNum b < 3 * 87112285931760246646623899502532662132736 * 87112285931760246646623899502532662132736 :=
    Nat.lt_of_le_of_lt (Nat.mul_le_mul_left _ (Nat.le_of_lt hB)) (Nat.mul_lt_mul_of_pos_right hA (by omega))
  rw [h1] at h3
  obtain ⟨N, hNN⟩ : ∃ N, dNum a * dNum b = N := ⟨_, rfl⟩
  rw [hNN] at h3 hN ⊢
  have l0 : (carriedR (prodOut a b 17)).length = 38 := by rw [carried_len, prodOut_len]
  have f1 := foldC_num (carriedR (prodOut a b 17)) (by omega) (by omega) (carried_lt _)
  have f2 := foldC_num (foldC (carriedR (prodOut a b 17))) (by rw [foldC_len]; omega) (by rw [foldC_len]; omega) (foldC_lt _)
  have f3 := foldC_num (foldC (foldC (carriedR (prodOut a b 17)))) (by rw [foldC_len]; omega) (by rw [foldC_len]; omega) (foldC_lt _)
  have f4 := foldC_num (foldC (foldC (foldC (carriedR (prodOut a b 17))))) (by rw [foldC_len]; omega) (by rw [foldC_len]; omega) (foldC_lt _)
  rw [h3] at f1; rw [f1] at f2; rw [f2] at f3; rw [f3] at f4
  have hlt : foldN (foldN (foldN (foldN N))) < 1361129467683753853853498429727072845824 := by
    obtain ⟨N1, e1⟩ : ∃ x, foldN N = x := ⟨_, rfl⟩
    have b1 : N1 < 178405961588244985132285746181186892047843328 := by unfold foldN at e1; omega
    obtain ⟨N2, e2⟩ : ∃ x, foldN N1 = x := ⟨_, rfl⟩
    have b2 : N2 < 1361129467683753853853498429727072845824 + 655360 := by unfold foldN at e2; omega
    obtain ⟨N3, e3⟩ : ∃ x, foldN N2 = x := ⟨_, rfl⟩
    have b3 : N3 < 1361129467683753853853498429727072845824 := by unfold foldN at e3; omega
    rw [e1, e2, e3]
    unfold foldN; omega
  have hT : dNum (timesR a b) = foldN (foldN (foldN (foldN N))) := by
    unfold timesR
    rw [take_num _ _ (by simp [foldIter, foldC_len]) (by simp only [foldIter]; omega)]
    exact f4
  refine ⟨⟨by simp [timesR, foldIter, foldC_len], ?_, by rw [hT]; exact hlt⟩, ?_⟩
  · intro i
    unfold timesR
    rw [take_getD]
    have := foldC_lt (foldIter (carriedR (prodOut a b 17)) 3) i
    split
    · exact this
    · omega
  · rw [hT, mod_fold, mod_fold, mod_fold, mod_fold]

/-- the least number -/
def leastR (n : List Nat) : List Nat :=
  let m := carriedR (n.set 0 (n.getD 0 0 + 5))
  if m.getD 16 0 < 4 ∧ m.getD 17 0 = 0 then n else (m.set 16 (m.getD 16 0 % 4)).take 17
theorem least_ref (n : List Nat) (h : Num n) : Num (leastR n) ∧ dNum (leastR n) = dNum n % prime := by
  obtain ⟨m, hm⟩ : ∃ m, carriedR (n.set 0 (n.getD 0 0 + 5)) = m := ⟨_, rfl⟩
  have hl : m.length = 21 := by rw [← hm, carried_len]; simp [h.len]
  have hd : ∀ i, m.getD i 0 < 256 := by rw [← hm]; exact carried_lt _
  have hn : dNum m = dNum n + 5 := by
    rw [← hm, carried_num]
    · have := dNum_set n 0 (n.getD 0 0 + 5) (by rw [h.len]; omega)
      rw [Nat.pow_zero, Nat.one_mul, Nat.one_mul] at this; omega
    · intro i
      rw [getD_setN _ _ _ _ (by rw [h.len]; omega)]
      have h1 := h.dig i; have h2 := h.dig 0
      split <;> omega
  have hs := dNum_split m 16 (by omega)
  rw [dNum_drop m 16, dNum_drop m 17] at hs
  have hlo : dNum (m.take 16) < 256 ^ 16 := by
    rw [← dSum_take m 16 (by omega)]; exact dSum_lt _ hd _
  have d16 := hd 16; have d17 := hd 17
  have hlt := h.lt
  have hL : leastR n = if m.getD 16 0 < 4 ∧ m.getD 17 0 = 0 then n else (m.set 16 (m.getD 16 0 % 4)).take 17 := by unfold leastR; rw [hm]
  rw [hL]
  by_cases hc : m.getD 16 0 < 4 ∧ m.getD 17 0 = 0
  · rw [if_pos hc]
    refine ⟨h, ?_⟩
    obtain ⟨c1, c2⟩ := hc
    generalize dNum (m.take 16) = lo at *
    generalize m.getD 16 0 = x at *
    generalize m.getD 17 0 = y at *
    generalize dNum (m.drop (17 + 1)) = z at *
    unfold prime
    omega
  · rw [if_neg hc]
    have ht : dNum ((m.set 16 (m.getD 16 0 % 4)).take 17) = dNum (m.take 16) + 256 ^ 16 * (m.getD 16 0 % 4) := by
      obtain ⟨M, hM⟩ : ∃ M, (m.set 16 (m.getD 16 0 % 4)).take 17 = M := ⟨_, rfl⟩
      have e0 : M.length = 17 := by rw [← hM]; simp; omega
      have e1 := dNum_split M 16 (by omega)
      have e2 : M.take 16 = m.take 16 := by rw [← hM, List.take_take]; simp [List.take_set_of_le]
      have e3 : M.drop (16 + 1) = [] := List.drop_eq_nil_of_le (by omega)
      have e4 : M.getD 16 0 = m.getD 16 0 % 4 := by rw [← hM, take_getD, if_pos (by omega), getD_setN _ _ _ _ (by omega), if_pos rfl]
      rw [hM]
      rw [e2, dNum_drop, e4, e3] at e1
      simpa [dNum] using e1
    have hv : dNum ((m.set 16 (m.getD 16 0 % 4)).take 17) = dNum n % prime := by
      rw [ht]
      generalize dNum (m.take 16) = lo at *
      generalize m.getD 16 0 = x at *
      generalize m.getD 17 0 = y at *
      generalize dNum (m.drop (17 + 1)) = z at *
      have g1 : y + 256 * z = 0 := by omega
      have g2 : x < 8 := by omega
      have g3 : 4 ≤ x := by omega
      have g4 : x % 4 = x - 4 := by omega
      rw [g1] at hs
      rw [g4]
      unfold prime
      omega
    refine ⟨⟨by simp; omega, ?_, by rw [hv]; unfold prime; omega⟩, hv⟩
    intro i
    rw [take_getD, getD_setN _ _ _ _ (by omega)]
    have := hd i
    split <;> (try split) <;> omega
end Go.Proofs.Ytlheepcojeaeaaa
