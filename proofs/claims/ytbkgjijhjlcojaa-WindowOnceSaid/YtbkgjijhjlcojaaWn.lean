/-
  Plain law: of any numbers, one behind the other, each may come once.
-/
import Derived.Test.YtbkgjijhjlcojaaWm
namespace Go.Proofs.Ytbkgjijhjlcojaa
open Go.RowKit
set_option maxHeartbeats 400000
set_option linter.unusedVariables false
set_option linter.unusedSimpArgs false

theorem seen_mark (t : Int) (x y : Nat) (n m : Int) (hx : x < 18446744073709551616) (h1 : 1 ≤ m) (h2 : m ≤ 1073741824) (h3 : 0 ≤ t) (h4 : t ≤ 1073741824) (n1 : 1 ≤ n) (n2 : n ≤ 1073741824) :
    (markL t x y m).1 = max t m ∧
    seenL (markL t x y m).1 (markL t x y m).2.1 (markL t x y m).2.2 n = ((decide (n = m) && decide (t - m < 128)) || (seenL t x y n && decide (max t m - n < 128))) := by
  have hr := rightL_of h1 h2 h3 h4
  by_cases hlt : t < m
  · have hf : freshL t x y m = 0 := by unfold freshL; rw [if_neg (by simp [hr]), if_pos hlt]
    have e : markL t x y m = (m, setL (shL x y (m - t).toNat).1 (shL x y (m - t).toNat).2 0) := by unfold markL putL; rw [if_pos hf, if_pos hlt]
    rw [e]
    have hmax : max t m = m := by omega
    rw [hmax]
    refine ⟨rfl, ?_⟩
    rw [Bool.eq_iff_iff]
    rw [seenL_iff]
    simp only [Bool.or_eq_true, Bool.and_eq_true, decide_eq_true_eq]
    rw [seenL_iff]
    constructor
    · rintro ⟨-, -, -, -, a5, a6, a7⟩
      rw [set_bit _ _ _ _ (by omega) (by omega), sh_bit _ _ _ _ hx (by omega)] at a7
      simp only [Bool.or_eq_true, Bool.and_eq_true, decide_eq_true_eq] at a7
      rcases a7 with a7 | ⟨a7, a8⟩
      · exact Or.inl ⟨by omega, by omega⟩
      · rw [show (m - n).toNat - (m - t).toNat = (t - n).toNat from by omega] at a8
        exact Or.inr ⟨⟨n1, n2, h3, h4, by omega, by omega, a8⟩, a6⟩
    · rintro (⟨b1, b2⟩ | ⟨⟨-, -, -, -, b5, b6, b7⟩, b8⟩)
      · subst b1
        refine ⟨n1, n2, by omega, by omega, by omega, by omega, ?_⟩
        rw [set_bit _ _ _ _ (by omega) (by omega)]
        simp
      · refine ⟨n1, n2, by omega, by omega, by omega, b8, ?_⟩
        rw [set_bit _ _ _ _ (by omega) (by omega), sh_bit _ _ _ _ hx (by omega), decide_eq_true (by omega : (m - t).toNat ≤ (m - n).toNat)]
        rw [show (m - n).toNat - (m - t).toNat = (t - n).toNat from by omega, b7]
        simp
  · have hmax : max t m = t := by omega
    rw [hmax]
    by_cases hf : freshL t x y m = 0
    · have e : markL t x y m = (t, setL x y (t - m).toNat) := by unfold markL putL; rw [if_pos hf, if_neg hlt]
      rw [e]
      refine ⟨rfl, ?_⟩
      have hb := (fresh_bounds hf).2
      rw [Bool.eq_iff_iff]
      rw [seenL_iff]
      simp only [Bool.or_eq_true, Bool.and_eq_true, decide_eq_true_eq]
      rw [seenL_iff]
      constructor
      · rintro ⟨-, -, -, -, a5, a6, a7⟩
        rw [set_bit _ _ _ _ (by omega) (by omega)] at a7
        simp only [Bool.or_eq_true, decide_eq_true_eq] at a7
        rcases a7 with a7 | a7
        · exact Or.inl ⟨by omega, by omega⟩
        · exact Or.inr ⟨⟨n1, n2, h3, h4, a5, a6, a7⟩, a6⟩
      · rintro (⟨b1, b2⟩ | ⟨⟨-, -, -, -, b5, b6, b7⟩, b8⟩)
        · subst b1
          refine ⟨n1, n2, h3, h4, by omega, by omega, ?_⟩
          rw [set_bit _ _ _ _ (by omega) (by omega)]
          simp
        · refine ⟨n1, n2, h3, h4, b5, b6, ?_⟩
          rw [set_bit _ _ _ _ (by omega) (by omega), b7]
          simp
    · have e : markL t x y m = (t, x, y) := by unfold markL; rw [if_neg hf]
      rw [e]
      refine ⟨rfl, ?_⟩
      show seenL t x y n = _
      rw [Bool.eq_iff_iff]
      simp only [Bool.or_eq_true, Bool.and_eq_true, decide_eq_true_eq]
      constructor
      · intro hs
        exact Or.inr ⟨hs, ((seenL_iff _ _ _ _).1 hs).2.2.2.2.2.1⟩
      · rintro (⟨b1, b2⟩ | ⟨hs, -⟩)
        · subst b1
          rw [seenL_iff]
          refine ⟨n1, n2, h3, h4, by omega, b2, ?_⟩
          unfold freshL at hf
          rw [if_neg (by simp [hr]), if_neg hlt, if_neg (by omega)] at hf
          by_cases hb : bitL x y (t - n).toNat = true
          · exact hb
          · rw [if_neg hb] at hf; exact absurd rfl hf
        · exact hs

/-- one number more -/
def stepW (s : Int × Nat × Nat) (n : Nat) : Int × Nat × Nat := if n < 1 then s else markL s.1 s.2.1 s.2.2 (n : Int)
/-- numbers, one behind the other -/
def foldW (l : List Nat) : Int × Nat × Nat := l.foldl stepW (0, 0, 0)

theorem foldW_snoc (l : List Nat) (x : Nat) : foldW (l ++ [x]) = stepW (foldW l) x := by simp [foldW, List.foldl_append]

structure GoodW (l : List Nat) (s : Int × Nat × Nat) : Prop where
  top : s.1 = (topA 0 l : Nat)
  lo : s.2.1 < 18446744073709551616
  hi : s.2.2 < 18446744073709551616
  seen : ∀ n : Int, 1 ≤ n → n ≤ 1073741824 → seenL s.1 s.2.1 s.2.2 n = (amongA n 0 l && decide (s.1 - n < 128))

theorem goodW_nil : GoodW [] (0, 0, 0) := by
  refine ⟨rfl, by show (0 : Nat) < _; omega, by show (0 : Nat) < _; omega, fun n h1 h2 => ?_⟩
  rw [amongA, Bool.false_and]
  cases h : seenL (0, 0, 0).1 (0, 0, 0).2.1 (0, 0, 0).2.2 n with
  | false => rfl
  | true => have := (seenL_iff _ _ _ _).1 h; have h5 := this.2.2.2.2.1; simp only at h5; omega

theorem goodW_step {l : List Nat} {s : Int × Nat × Nat} (h : GoodW l s) (h16 : ∀ x ∈ l, x < 65536) (x : Nat) (hx : x < 65536) : GoodW (l ++ [x]) (stepW s x) := by
  obtain ⟨top, lo, hi, seen⟩ := h
  have hT := topA_lt l h16 0 (by omega)
  unfold stepW
  by_cases h1 : x < 1
  · rw [if_pos h1]
    obtain rfl : x = 0 := by omega
    refine ⟨?_, lo, hi, fun n n1 n2 => ?_⟩
    · rw [topA_snoc, top]; omega
    · rw [seen n n1 n2, amongA_snoc]
      have : (((0 : Nat) : Int) == n) = false := by rw [beq_eq_false_iff_ne]; omega
      rw [this, Bool.false_and, Bool.or_false]
  · rw [if_neg h1]
    have hb := mark_lt s.1 s.2.1 s.2.2 (x : Int) lo hi
    refine ⟨?_, hb.1, hb.2, fun n n1 n2 => ?_⟩
    · rw [(seen_mark s.1 s.2.1 s.2.2 1 (x : Int) lo (by omega) (by omega) (by omega) (by omega) (by omega) (by omega)).1, topA_snoc, top]; omega
    · have hm := seen_mark s.1 s.2.1 s.2.2 n (x : Int) lo (by omega) (by omega) (by omega) (by omega) n1 n2
      rw [hm.2, hm.1, seen n n1 n2, amongA_snoc]
      rw [Bool.eq_iff_iff]
      simp only [Bool.or_eq_true, Bool.and_eq_true, decide_eq_true_eq, beq_iff_eq]
      rw [← top]
      constructor
      · rintro (⟨a1, a2⟩ | ⟨⟨a1, a2⟩, a3⟩)
        · subst a1; exact ⟨Or.inr ⟨rfl, a2⟩, by omega⟩
        · exact ⟨Or.inl a1, a3⟩
      · rintro ⟨b1 | ⟨b1, b2⟩, b3⟩
        · exact Or.inr ⟨⟨b1, by omega⟩, b3⟩
        · exact Or.inl ⟨b1.symm, by omega⟩

theorem goodW_fold (l : List Nat) (h16 : ∀ x ∈ l, x < 65536) : ∀ k, k ≤ l.length → GoodW (l.take k) (foldW (l.take k))
  | 0, _ => by simpa [foldW] using goodW_nil
  | k + 1, hk => by
    have hkl : k < l.length := by omega
    rw [List.take_succ_eq_append_getElem hkl, foldW_snoc]
    exact goodW_step (goodW_fold l h16 k (by omega)) (fun x hx => h16 x (List.mem_of_mem_take hx)) _ (h16 _ (List.getElem_mem hkl))

/-- what came once may not come again -/
theorem again (t : Int) (x y : Nat) (m : Int) (hx : x < 18446744073709551616) (h1 : 1 ≤ m) (h2 : m ≤ 1073741824) (h3 : 0 ≤ t) (h4 : t ≤ 1073741824) (hf : freshL t x y m = 0) :
    seenL (markL t x y m).1 (markL t x y m).2.1 (markL t x y m).2.2 m = true ∧ freshL (markL t x y m).1 (markL t x y m).2.1 (markL t x y m).2.2 m = 22 := by
  have hm := (seen_mark t x y m m hx h1 h2 h3 h4 h1 h2).2
  have hb := (fresh_bounds hf).2
  rw [decide_eq_true rfl, decide_eq_true hb] at hm
  have hs : seenL (markL t x y m).1 (markL t x y m).2.1 (markL t x y m).2.2 m = true := by rw [hm]; rfl
  refine ⟨hs, ?_⟩
  have := seen_fresh (markL t x y m).1 (markL t x y m).2.1 (markL t x y m).2.2 m
  rw [hs] at this
  simpa using this
end Go.Proofs.Ytbkgjijhjlcojaa
