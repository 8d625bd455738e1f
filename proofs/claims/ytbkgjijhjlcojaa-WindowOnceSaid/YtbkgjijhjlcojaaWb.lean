/-
  Walks of windows: what may come, what was seen, marks.
-/
import Derived.Test.YtbkgjijhjlcojaaWa
namespace Go.Proofs.Ytbkgjijhjlcojaa
open Go.RowKit Go.Proofs.Ytbkgjijhjlcojaa.Eager
set_option maxHeartbeats 400000
set_option linter.unusedVariables false
set_option linter.unusedSimpArgs false

/-- whether a number may come -/
def freshL (t : Int) (x y : Nat) (n : Int) : Int :=
  if rightL t n = false then 2 else if t < n then 0 else if 128 ≤ t - n then 23 else if bitL x y (t - n).toNat = true then 22 else 0

theorem rightL_true {t n : Int} (h : rightL t n = true) : 1 ≤ n ∧ n ≤ 1073741824 ∧ 0 ≤ t ∧ t ≤ 1073741824 := by
  simpa [rightL] using h

theorem fresh6_a (t : Int) (x y : Nat) (n : Int) (w : World) (h : rightL t n = false) :
    Calls Try.prog 6 #[.agg #[.int .i64 t, .int .u64 (x : Int), .int .u64 (y : Int)], .int .i64 n] w fun r w' => r = .returned (.int .i64 2) ∧ Below w.heap.size w w' := by
  have H := Lib.hid h; clear h
  have h0 : Below w.heap.size w (w.alloc (.cells #[.int .i64 t, .int .u64 (x : Int), .int .u64 (y : Int)] 24)) := (Below.refl _ _).alloc (Nat.le_refl _) _
  go_enter Try.func6, Try.ntmps6
  go_wp2_with fail
  refine (right14 t n x y _).mono ?_
  rintro r w1 ⟨rfl, hb1⟩
  rw [H.out]
  have h1 := below_step h0 hb1
  go_wp2
  go_ret
  exact ⟨rfl, h1⟩

theorem fresh6_b (t : Int) (x y : Nat) (n : Int) (w : World) (h : rightL t n = true) (hn : t < n) :
    Calls Try.prog 6 #[.agg #[.int .i64 t, .int .u64 (x : Int), .int .u64 (y : Int)], .int .i64 n] w fun r w' => r = .returned (.int .i64 0) ∧ Below w.heap.size w w' := by
  have H := Lib.hid h; clear h
  have h0 : Below w.heap.size w (w.alloc (.cells #[.int .i64 t, .int .u64 (x : Int), .int .u64 (y : Int)] 24)) := (Below.refl _ _).alloc (Nat.le_refl _) _
  go_enter Try.func6, Try.ntmps6
  go_wp2_with fail
  refine (right14 t n x y _).mono ?_
  rintro r w1 ⟨rfl, hb1⟩
  rw [H.out]
  have h1 := below_step h0 hb1
  have c0 : w1.cell? ⟨w.heap.size, 0, none⟩ = some (.int .i64 t) := cell_later hb1 (by simp [World.cell?_alloc_at])
  go_wp2
  go_ret
  exact ⟨rfl, h1⟩

theorem fresh6_c (t : Int) (x y : Nat) (n : Int) (w : World) (h : rightL t n = true) (hn : ¬ t < n) (hn1 : 128 ≤ t - n) (hw : IntKind.i64.wrap (t - n) = t - n) :
    Calls Try.prog 6 #[.agg #[.int .i64 t, .int .u64 (x : Int), .int .u64 (y : Int)], .int .i64 n] w fun r w' => r = .returned (.int .i64 23) ∧ Below w.heap.size w w' := by
  have H := Lib.hid h; clear h
  have h0 : Below w.heap.size w (w.alloc (.cells #[.int .i64 t, .int .u64 (x : Int), .int .u64 (y : Int)] 24)) := (Below.refl _ _).alloc (Nat.le_refl _) _
  go_enter Try.func6, Try.ntmps6
  go_wp2_with fail
  refine (right14 t n x y _).mono ?_
  rintro r w1 ⟨rfl, hb1⟩
  rw [H.out]
  have h1 := below_step h0 hb1
  have c0 : w1.cell? ⟨w.heap.size, 0, none⟩ = some (.int .i64 t) := cell_later hb1 (by simp [World.cell?_alloc_at])
  go_wp2
  go_ret
  exact ⟨rfl, h1⟩

theorem fresh6_d (b : Bool) (t : Int) (x y : Nat) (n : Int) (w : World) (hx : Hid (x < 18446744073709551616)) (hy : Hid (y < 18446744073709551616)) (h : rightL t n = true) (hn : ¬ t < n) (hn0 : 0 ≤ t - n) (hn1 : t - n < 128) (hw : IntKind.i64.wrap (t - n) = t - n) (hb : bitL x y (t - n).toNat = b) :
    Calls Try.prog 6 #[.agg #[.int .i64 t, .int .u64 (x : Int), .int .u64 (y : Int)], .int .i64 n] w fun r w' => r = .returned (.int .i64 (if b = true then 22 else 0)) ∧ Below w.heap.size w w' := by
  have H := Lib.hid h; clear h
  have HB := Lib.hid hb; clear hb
  have h0 : Below w.heap.size w (w.alloc (.cells #[.int .i64 t, .int .u64 (x : Int), .int .u64 (y : Int)] 24)) := (Below.refl _ _).alloc (Nat.le_refl _) _
  go_enter Try.func6, Try.ntmps6
  go_wp2_with fail
  refine (right14 t n x y _).mono ?_
  rintro r w1 ⟨rfl, hb1⟩
  rw [H.out]
  have h01 := below_step h0 hb1
  have d0 : w1.cell? ⟨w.heap.size, 0, none⟩ = some (.int .i64 t) := cell_later hb1 (by simp [World.cell?_alloc_at])
  have d1 : w1.cell? ⟨w.heap.size, 1, none⟩ = some (.int .u64 (x : Int)) := cell_later hb1 (by simp [World.cell?_alloc_at])
  have d2 : w1.cell? ⟨w.heap.size, 2, none⟩ = some (.int .u64 (y : Int)) := cell_later hb1 (by simp [World.cell?_alloc_at])
  clear h0 hb1
  go_wp2_with fail
  refine wp_region_seq [(0, true), (2, true), (3, true), (4, true), (5, true), (1, false), (6, false), (7, true)] (by kernel_rfl) (by kernel_rfl) (fun _ _ dd _ _ h => by cases dd <;> exact h) ?_
  intro W0 hW0
  have h1 : Below w.heap.size w W0 := hW0 ▸ h01.drew
  have c0 : ∀ W, Below W0.heap.size W0 W → W.cell? ⟨w.heap.size, 0, none⟩ = some (.int .i64 t) := fun W hb => cell_later hb (by rw [hW0]; exact d0)
  have c1 : ∀ W, Below W0.heap.size W0 W → W.cell? ⟨w.heap.size, 1, none⟩ = some (.int .u64 (x : Int)) := fun W hb => cell_later hb (by rw [hW0]; exact d1)
  have c2 : ∀ W, Below W0.heap.size W0 W → W.cell? ⟨w.heap.size, 2, none⟩ = some (.int .u64 (y : Int)) := fun W hb => cell_later hb (by rw [hW0]; exact d2)
  clear hW0 h01 d0 d1 d2
  (refine seq_take (d := 22) (v := ?_) rfl rfl rfl ?_ ?_; rotate_left; (focus ((intro w' hb0 hw'; go_simp) <;> with_reducible rfl)); simp only [Act.put, List.setIfInBounds_toArray, List.set_cons_zero, List.set_cons_succ])
  (refine seq_take (d := 24) (v := ?_) rfl rfl rfl ?_ ?_; rotate_left; (focus ((intro w' hb0 hw'; go_simp) <;> with_reducible rfl)); simp only [Act.put, List.setIfInBounds_toArray, List.set_cons_zero, List.set_cons_succ])
  (refine seq_take (d := 25) (v := ?_) rfl rfl rfl ?_ ?_; rotate_left; (focus ((intro w' hb0 hw'; go_simp) <;> with_reducible rfl)); simp only [Act.put, List.setIfInBounds_toArray, List.set_cons_zero, List.set_cons_succ])
  (refine seq_take (d := 26) (v := ?_) rfl rfl rfl ?_ ?_; rotate_left; (focus ((intro w' hb0 hw'; go_simp) <;> with_reducible rfl)); simp only [Act.put, List.setIfInBounds_toArray, List.set_cons_zero, List.set_cons_succ])
  (refine seq_take (d := 27) (v := ?_) rfl rfl rfl ?_ ?_; rotate_left; (focus ((intro w' hb0 hw'; go_simp) <;> with_reducible rfl)); simp only [Act.put, List.setIfInBounds_toArray, List.set_cons_zero, List.set_cons_succ])
  refine seq_do rfl rfl (fun K hK => ?_)
  go_simp
  refine (of15 t x y _).mono ?_
  rintro r w2 ⟨rfl, hb2⟩
  have h1 := below_step (W := w) (by assumption) hb2
  refine hK _ _ hb2 ?_
  clear hb2 hK K
  refine seq_do rfl rfl (fun K hK => ?_)
  go_simp
  refine (bit16_any x y _ _ hx hy (by assumption) (by assumption)).mono ?_
  rintro r w3 ⟨rfl, hb3⟩
  have h1 := below_step (W := w) (by assumption) hb3
  refine hK _ _ hb3 ?_
  clear hb3 hK K
  (refine seq_take (d := 21) (v := ?_) rfl rfl rfl ?_ ?_; rotate_left; (focus ((intro w' hb0 hw'; go_simp) <;> with_reducible rfl)); simp only [Act.put, List.setIfInBounds_toArray, List.set_cons_zero, List.set_cons_succ])
  refine seq_end ?_
  cases b with
  | true =>
    rw [HB.out]
    go_wp2
    go_ret
    exact ⟨rfl, h1⟩
  | false =>
    rw [HB.out]
    go_wp2
    go_ret
    exact ⟨rfl, h1⟩

theorem wrap_sub (t n : Int) (h : rightL t n = true) : IntKind.i64.wrap (t - n) = t - n := by
  obtain ⟨h1, h2, h3, h4⟩ := rightL_true h
  rw [IntKind.wrap_i64]
  omega

theorem fresh6 (t : Int) (x y : Nat) (n : Int) (w : World) (hx : Hid (x < 18446744073709551616)) (hy : Hid (y < 18446744073709551616)) :
    Calls Try.prog 6 #[.agg #[.int .i64 t, .int .u64 (x : Int), .int .u64 (y : Int)], .int .i64 n] w fun r w' => r = .returned (.int .i64 (freshL t x y n)) ∧ Below w.heap.size w w' := by
  cases hr : rightL t n with
  | false =>
    have := fresh6_a t x y n w hr
    have e : freshL t x y n = 2 := by simp [freshL, hr]
    rw [e]; exact this
  | true =>
    by_cases h1 : t < n
    · have e : freshL t x y n = 0 := by simp [freshL, hr, h1]
      rw [e]; exact fresh6_b t x y n w hr h1
    · by_cases h2 : 128 ≤ t - n
      · have e : freshL t x y n = 23 := by simp [freshL, hr, h1, h2]
        rw [e]; exact fresh6_c t x y n w hr h1 h2 (wrap_sub t n hr)
      · have e : freshL t x y n = if bitL x y (t - n).toNat = true then 22 else 0 := by
          unfold freshL; rw [if_neg (by simp [hr]), if_neg h1, if_neg h2]
        rw [e]; exact fresh6_d _ t x y n w hx hy hr h1 (by omega) (by omega) (wrap_sub t n hr) rfl

end Go.Proofs.Ytbkgjijhjlcojaa
