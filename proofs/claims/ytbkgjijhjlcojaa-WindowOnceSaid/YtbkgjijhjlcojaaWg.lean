/-
  Walks of windows in the document's answer: what may come, what was seen.
-/
import Derived.Test.YtbkgjijhjlcojaaWf
namespace Go.Proofs.Ytbkgjijhjlcojaa
open Go.RowKit Go.Proofs.Ytbkgjijhjlcojaa.Eager
set_option maxHeartbeats 400000
set_option linter.unusedVariables false
set_option linter.unusedSimpArgs false

/-- a window's bits -/
def bl (x y : Nat) : List Bool := (List.range 128).map (bitL x y)
theorem length_bl (x y : Nat) : (bl x y).length = 128 := by simp [bl]
theorem bl_get (x y i : Nat) (h : i < 128) : (bl x y)[i]'(by rw [length_bl]; exact h) = bitL x y i := by simp [bl]

theorem bits_bl (x y : Nat) : bitsOf x 64 ++ bitsOf y 64 = (bl x y).map Value.bool := by
  apply List.ext_getElem
  · simp [bitsOf, bl]
  · intro i h1 h2
    simp only [List.length_append, length_bitsOf] at h1
    by_cases h : i < 64
    · rw [List.getElem_append_left (by rw [length_bitsOf]; exact h)]
      simp [bitsOf, bl, bitL, h]
    · rw [List.getElem_append_right (by rw [length_bitsOf]; omega)]
      simp [bitsOf, bl, bitL, h]

theorem bits17b (t : Int) (x y : Nat) (w : World) (hx : Hid (x < 18446744073709551616)) (hy : Hid (y < 18446744073709551616)) :
    Calls Try.prog 17 #[.agg #[.int .i64 t, .int .u64 (x : Int), .int .u64 (y : Int)]] w fun e w' => ∃ oa c, e = .returned (.slice oa 128 c) ∧ Cells w' oa ((bl x y).map Value.bool) ∧ Below w.heap.size w w' ∧ ∀ b o, oa = some ⟨b, o, none⟩ → w.heap.size ≤ b := by
  refine (bits17 t x y w hx hy).mono ?_
  rintro e w' ⟨oa, c, rfl, hcs, hb, hbb⟩
  rw [bits_bl] at hcs ⊢
  exact ⟨oa, c, by rw [List.length_map, length_bl], hcs, hb, hbb⟩

theorem fresh7_a (t : Int) (x y : Nat) (n : Int) (w : World) (h : rightL t n = false) :
    Calls Try.prog 7 #[.agg #[.int .i64 t, .int .u64 (x : Int), .int .u64 (y : Int)], .int .i64 n] w fun r w' => r = .returned (.int .i64 2) ∧ Below w.heap.size w w' := by
  have hd : decide (n < 1) = true ∨ (decide (n < 1) = false ∧ decide (1073741824 < n) = true) ∨ (decide (n < 1) = false ∧ decide (1073741824 < n) = false ∧ decide (t < 0) = true) ∨ (decide (n < 1) = false ∧ decide (1073741824 < n) = false ∧ decide (t < 0) = false ∧ decide (1073741824 < t) = true) := by
    simp [rightL] at h ⊢
    omega
  clear h
  rcases hd with h1 | ⟨h1, h2⟩ | ⟨h1, h2, h3⟩ | ⟨h1, h2, h3, h4⟩
  all_goals
    go_enter Try.func7, Try.ntmps7
    go_wp2
    go_ret
    exact ⟨rfl, (Below.refl _ _).alloc (Nat.le_refl _) _⟩

theorem notright (t n : Int) (h : rightL t n = true) : decide (n < 1) = false ∧ decide (1073741824 < n) = false ∧ decide (t < 0) = false ∧ decide (1073741824 < t) = false := by
  have := rightL_true h
  simp; omega

theorem fresh7_b (t : Int) (x y : Nat) (n : Int) (w : World) (h : rightL t n = true) (hn : decide (t < n) = true) :
    Calls Try.prog 7 #[.agg #[.int .i64 t, .int .u64 (x : Int), .int .u64 (y : Int)], .int .i64 n] w fun r w' => r = .returned (.int .i64 0) ∧ Below w.heap.size w w' := by
  obtain ⟨h1, h2, h3, h4⟩ := notright t n h
  clear h
  go_enter Try.func7, Try.ntmps7
  go_wp2
  go_ret
  exact ⟨rfl, (Below.refl _ _).alloc (Nat.le_refl _) _⟩

theorem fresh7_c (t : Int) (x y : Nat) (n d : Int) (w : World) (h : rightL t n = true) (hn : decide (t < n) = false) (hw : IntKind.i64.wrap (t - n) = d) (hn1 : decide (127 < d) = true) :
    Calls Try.prog 7 #[.agg #[.int .i64 t, .int .u64 (x : Int), .int .u64 (y : Int)], .int .i64 n] w fun r w' => r = .returned (.int .i64 23) ∧ Below w.heap.size w w' := by
  obtain ⟨h1, h2, h3, h4⟩ := notright t n h
  clear h
  go_enter Try.func7, Try.ntmps7
  go_wp2
  go_ret
  exact ⟨rfl, (Below.refl _ _).alloc (Nat.le_refl _) _⟩

theorem fresh7_d (b : Bool) (t : Int) (x y d : Nat) (n : Int) (w : World) (hx : Hid (x < 18446744073709551616)) (hy : Hid (y < 18446744073709551616)) (h : rightL t n = true) (hn : decide (t < n) = false) (hw : IntKind.i64.wrap (t - n) = (d : Int)) (hn1 : decide ((127 : Int) < (d : Int)) = false) (hb : bitL x y d = b) :
    Calls Try.prog 7 #[.agg #[.int .i64 t, .int .u64 (x : Int), .int .u64 (y : Int)], .int .i64 n] w fun r w' => r = .returned (.int .i64 (if b = true then 22 else 0)) ∧ Below w.heap.size w w' := by
  obtain ⟨g1, g2, g3, g4⟩ := notright t n h
  clear h
  have hd : d < 128 := by simp at hn1; omega
  have hd2 : ((d : Int) < 128) := by omega
  have HB := Lib.hid hb; clear hb
  have HD := Lib.hid hd; clear hd
  have h0 : Below w.heap.size w (w.alloc (.cells #[.int .i64 t, .int .u64 (x : Int), .int .u64 (y : Int)] 24)) := (Below.refl _ _).alloc (Nat.le_refl _) _
  go_enter Try.func7, Try.ntmps7
  go_wp2_with fail
  refine wp_region_seq [(0, true), (2, true), (3, true), (4, true), (5, true), (1, false), (6, true), (7, true)] (by kernel_rfl) (by kernel_rfl) (fun _ _ dd _ _ h => by cases dd <;> exact h) ?_
  intro W0 hW0
  have h1 : Below w.heap.size w W0 := hW0 ▸ h0.drew
  have c0 : ∀ W, Below W0.heap.size W0 W → W.cell? ⟨w.heap.size, 0, none⟩ = some (.int .i64 t) := fun W hb => cell_later hb (by rw [hW0]; simp [World.cell?_alloc_at])
  have c1 : ∀ W, Below W0.heap.size W0 W → W.cell? ⟨w.heap.size, 1, none⟩ = some (.int .u64 (x : Int)) := fun W hb => cell_later hb (by rw [hW0]; simp [World.cell?_alloc_at])
  have c2 : ∀ W, Below W0.heap.size W0 W → W.cell? ⟨w.heap.size, 2, none⟩ = some (.int .u64 (y : Int)) := fun W hb => cell_later hb (by rw [hW0]; simp [World.cell?_alloc_at])
  clear hW0 h0
  (refine seq_take (d := 30) (v := ?_) rfl rfl rfl ?_ ?_; rotate_left; (focus ((intro w' hb0 hw'; go_simp) <;> with_reducible rfl)); simp only [Act.put, List.setIfInBounds_toArray, List.set_cons_zero, List.set_cons_succ])
  (refine seq_take (d := 32) (v := ?_) rfl rfl rfl ?_ ?_; rotate_left; (focus ((intro w' hb0 hw'; go_simp) <;> with_reducible rfl)); simp only [Act.put, List.setIfInBounds_toArray, List.set_cons_zero, List.set_cons_succ])
  (refine seq_take (d := 33) (v := ?_) rfl rfl rfl ?_ ?_; rotate_left; (focus ((intro w' hb0 hw'; go_simp) <;> with_reducible rfl)); simp only [Act.put, List.setIfInBounds_toArray, List.set_cons_zero, List.set_cons_succ])
  (refine seq_take (d := 34) (v := ?_) rfl rfl rfl ?_ ?_; rotate_left; (focus ((intro w' hb0 hw'; go_simp) <;> with_reducible rfl)); simp only [Act.put, List.setIfInBounds_toArray, List.set_cons_zero, List.set_cons_succ])
  (refine seq_take (d := 35) (v := ?_) rfl rfl rfl ?_ ?_; rotate_left; (focus ((intro w' hb0 hw'; go_simp) <;> with_reducible rfl)); simp only [Act.put, List.setIfInBounds_toArray, List.set_cons_zero, List.set_cons_succ])
  refine seq_do rfl rfl (fun K hK => ?_)
  go_simp
  refine (bits17b t x y _ hx hy).mono ?_
  rintro r w2 hr
  obtain ⟨oa, c, rfl, hcs, hb2, -⟩ := hr
  obtain ⟨bb, o, rfl, hlt, hc⟩ := hcs.at' (i := d) (by rw [List.length_map, length_bl]; exact HD.out)
  rw [List.getElem_map, bl_get _ _ _ HD.out, HB.out] at hc
  have hcw : ∀ W, Below w2.heap.size w2 W → W.cell? ⟨bb, o + d, none⟩ = some (.bool b) := fun W hW => cell_later hW hc
  clear hc hcs
  have h1 := below_step (W := w) (by assumption) hb2
  refine hK _ _ hb2 ?_
  clear hb2 hK K
  (refine seq_take (d := 36) (v := ?_) rfl rfl rfl ?_ ?_; rotate_left; (focus ((intro w' hb0 hw'; go_simp) <;> with_reducible rfl)); simp only [Act.put, List.setIfInBounds_toArray, List.set_cons_zero, List.set_cons_succ])
  (refine seq_take (d := 37) (v := ?_) rfl rfl rfl ?_ ?_; rotate_left; (focus ((intro w' hb0 hw'; go_simp) <;> with_reducible rfl)); simp only [Act.put, List.setIfInBounds_toArray, List.set_cons_zero, List.set_cons_succ])
  refine seq_end ?_
  clear hcw c0 c1 c2 g1 g2 g3 g4 hn hw hn1 hd2 HB
  cases b with
  | true =>
    go_wp2
    go_ret
    exact ⟨rfl, h1⟩
  | false =>
    go_wp2
    go_ret
    exact ⟨rfl, h1⟩

theorem fresh7 (t : Int) (x y : Nat) (n : Int) (w : World) (hx : Hid (x < 18446744073709551616)) (hy : Hid (y < 18446744073709551616)) :
    Calls Try.prog 7 #[.agg #[.int .i64 t, .int .u64 (x : Int), .int .u64 (y : Int)], .int .i64 n] w fun r w' => r = .returned (.int .i64 (freshL t x y n)) ∧ Below w.heap.size w w' := by
  cases hr : rightL t n with
  | false =>
    have := fresh7_a t x y n w hr
    have e : freshL t x y n = 2 := by simp [freshL, hr]
    rw [e]; exact this
  | true =>
    by_cases h1 : t < n
    · have e : freshL t x y n = 0 := by simp [freshL, hr, h1]
      rw [e]; exact fresh7_b t x y n w hr (decide_eq_true h1)
    · by_cases h2 : 128 ≤ t - n
      · have e : freshL t x y n = 23 := by simp [freshL, hr, h1, h2]
        rw [e]; exact fresh7_c t x y n _ w hr (decide_eq_false h1) (wrap_sub t n hr) (by simp; omega)
      · have e : freshL t x y n = if bitL x y (t - n).toNat = true then 22 else 0 := by
          unfold freshL; rw [if_neg (by simp [hr]), if_neg h1, if_neg h2]
        rw [e]
        exact fresh7_d _ t x y (t - n).toNat n w hx hy hr (decide_eq_false h1) (by rw [wrap_sub t n hr]; omega) (by simp; omega) rfl

/-- what was seen, by the answer's word -/
theorem seen_fresh (t : Int) (x y : Nat) (n : Int) : (freshL t x y n == 22) = seenL t x y n := by
  unfold freshL seenL
  cases hr : rightL t n with
  | false => simp
  | true =>
    rw [if_neg (by simp)]
    by_cases h1 : t < n
    · rw [if_pos h1, decide_eq_false (by omega : ¬ n ≤ t)]; simp
    · rw [if_neg h1, decide_eq_true (by omega : n ≤ t)]
      by_cases h2 : 128 ≤ t - n
      · rw [if_pos h2, decide_eq_false (by omega : ¬ t - n < 128)]; simp
      · rw [if_neg h2, decide_eq_true (by omega : t - n < 128)]
        cases bitL x y (t - n).toNat <;> simp

theorem seen11 (t : Int) (x y : Nat) (n : Int) (w : World) (hx : Hid (x < 18446744073709551616)) (hy : Hid (y < 18446744073709551616)) :
    Calls Try.prog 11 #[.agg #[.int .i64 t, .int .u64 (x : Int), .int .u64 (y : Int)], .int .i64 n] w fun r w' => r = .returned (.bool (seenL t x y n)) ∧ Below w.heap.size w w' := by
  have H := fun W => Lib.hid (fresh7 t x y n W hx hy)
  have hs := seen_fresh t x y n
  generalize freshL t x y n = f at *
  have h0 : Below w.heap.size w (w.alloc (.cells #[.int .i64 t, .int .u64 (x : Int), .int .u64 (y : Int)] 24)) := (Below.refl _ _).alloc (Nat.le_refl _) _
  go_enter Try.func11, Try.ntmps11
  go_wp2_with fail
  refine (H _).out.mono ?_
  rintro r w1 ⟨rfl, hb1⟩
  have h1 := below_step h0 hb1
  go_wp2
  go_ret
  exact ⟨rfl, h1⟩
end Go.Proofs.Ytbkgjijhjlcojaa
