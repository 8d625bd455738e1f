/-
  Walk: whether packets are many, or great.
-/
import Derived.Test.YthnfbbnpjfjaiaaWb
namespace Go.Proofs.Ythnfbbnpjfjaiaa
open Go.RowKit Go.Proofs.Ythnfbbnpjfjaiaa.Plan Go.Proofs.Ythnfbbnpjfjaiaa.Eager
set_option maxHeartbeats 1000000
set_option linter.unusedVariables false
set_option linter.unusedSimpArgs false

theorem great6 (l : List Pk) (w : World) (oa : Option Addr) (n c : Nat) (h : Pks w oa n c l) :
    Calls Try.prog 6 #[.slice oa n c] w fun r w' => ∃ b, r = .returned (.bool b) ∧ (b = false → l.length ≤ 300) ∧ Below w.heap.size w w' := by
  obtain rfl : n = l.length := h.rows.len
  have H := Lib.hid h; clear h
  by_cases hlen : 300 < l.length
  · have hlen' : (300 : Int) < (l.length : Int) := by omega
    clear hlen
    go_enter Try.func6, Try.ntmps6
    go_wp2
    refine bodyPost_ret (v := .bool true) (by simp [results, Try.results6, go_sem]) rfl ⟨true, rfl, fun h => by simp at h, Below.refl _ _⟩
  · have hlen' : ¬ (300 : Int) < (l.length : Int) := by omega
    have HLEN : Hid (l.length ≤ 300) := by show _ ≤ _; omega
    go_enter Try.func6, Try.ntmps6
    go_wp2
    clear hlen hlen'
    go_loopw [3, 4] (fun s i wr => ∃ (k : Nat) (t : Nat), k ≤ l.length ∧ i = .int .i64 k ∧ s = .int .i64 t ∧ t ≤ 100000 ∧ Hid (Below w.heap.size w wr)) (fun _ i _ => l.length - (intOf i).toNat)
    case atStart => exact ⟨0, 0, by omega, rfl, rfl, by omega, by (with_reducible try refine Lib.hid ?_); (repeat (with_reducible first | assumption | exact Below.refl _ _ | apply Below.drew | apply Below.drewN' | apply Below.setCell | apply Below.alloc)) <;> (try simp [length_fillTo, length_turnTo]) <;> (try omega)⟩
    case round =>
      obtain ⟨k, t, hk, rfl, rfl, ht, hbel⟩ := hrel
      by_cases hlt : k < l.length
      · have hi1 : (k : Int) < (l.length : Int) := by omega
        have rk : IntKind.i64.wrap ((k : Int) + 1) = ((k + 1 : Nat) : Int) := by
          have h1 := HLEN.out
          rw [IntKind.wrap_i64]; omega
        obtain ⟨b1, p1, rfl, hb1, e10, e11, e12⟩ := (H.out.rows.below hbel.out).pk hlt
        obtain ⟨q1, hq1'⟩ : ∃ q, l[k] = q := ⟨_, rfl⟩
        rw [hq1'] at e10 e11 e12
        clear hq1'
        obtain ⟨fr1, to1, oa1, m1, cc1, bs1⟩ := q1
        simp only at e10 e11 e12
        obtain ⟨x1, hx1⟩ : ∃ x, min m1 3000 = x := ⟨_, rfl⟩
        obtain ⟨x2, hx2⟩ : ∃ x, min fr1.size 3000 = x := ⟨_, rfl⟩
        obtain ⟨x3, hx3⟩ : ∃ x, min to1.size 3000 = x := ⟨_, rfl⟩
        obtain ⟨y1, hy1⟩ : ∃ y, x1 + x2 = y := ⟨_, rfl⟩
        obtain ⟨y2, hy2⟩ : ∃ y, y1 + x3 = y := ⟨_, rfl⟩
        obtain ⟨y3, hy3⟩ : ∃ y, t + y2 = y := ⟨_, rfl⟩
        have s1 : IntKind.i64.wrap ((x1 : Int) + (x2 : Int)) = (y1 : Int) := by rw [IntKind.wrap_i64]; omega
        have s2 : IntKind.i64.wrap ((y1 : Int) + (x3 : Int)) = (y2 : Int) := by rw [IntKind.wrap_i64]; omega
        have s3 : IntKind.i64.wrap ((t : Int) + (y2 : Int)) = (y3 : Int) := by rw [IntKind.wrap_i64]; omega
        have HY := Lib.hid (And.intro hy1 (And.intro hy2 hy3)); clear hy1 hy2 hy3
        go_wp2
        refine wp_region_plan none [] [] (.take 0 (.take 1 (.take 2 (.take 3 (.take 4 (.take 5 (.take 6 (.take 7 (.take 8 (.take 9 (.take 10 (.take 11 (.take 12 (.take 13 (.take 14 (.take 15 (.take 16 (.take 17 (.take 18 (.take 19 (.take 20 (.take 21 (.take 22 (.take 23 (.take 24 (.take 25 .done)))))))))))))))))))))))))) (by kernel_rfl) (by kernel_rfl) (fun _ _ dd _ _ h => by cases dd <;> exact h) ?_
        intro W0 hW0
        have f10 := cell_later e10 (below_drew wr); have f11 := cell_later e11 (below_drew wr); have f12 := cell_later e12 (below_drew wr)
        have hbel0 := hbel.out.drew
        rw [← hW0] at f10 f11 f12 hbel0
        clear hW0 e10 e11 e12
        (refine pl_take (d := 14) (v := ?_) rfl rfl rfl ?_ ?_; rotate_left; (focus ((intro w' hb0 hw'; go_simp) <;> with_reducible rfl)); simp only [Act.put, List.setIfInBounds_toArray, List.set_cons_zero, List.set_cons_succ])
        (refine pl_take (d := 15) (v := ?_) rfl rfl rfl ?_ ?_; rotate_left; (focus ((intro w' hb0 hw'; go_simp) <;> with_reducible rfl)); simp only [Act.put, List.setIfInBounds_toArray, List.set_cons_zero, List.set_cons_succ])
        (refine pl_take (d := 16) (v := ?_) rfl rfl rfl ?_ ?_; rotate_left; (focus ((intro w' hb0 hw'; go_simp) <;> with_reducible rfl)); simp only [Act.put, List.setIfInBounds_toArray, List.set_cons_zero, List.set_cons_succ])
        (refine pl_take (d := 17) (v := ?_) rfl rfl rfl ?_ ?_; rotate_left; (focus ((intro w' hb0 hw'; go_simp) <;> with_reducible rfl)); simp only [Act.put, List.setIfInBounds_toArray, List.set_cons_zero, List.set_cons_succ])
        (refine pl_take (d := 18) (v := ?_) rfl rfl rfl ?_ ?_; rotate_left; (focus ((intro w' hb0 hw'; go_simp) <;> with_reducible rfl)); simp only [Act.put, List.setIfInBounds_toArray, List.set_cons_zero, List.set_cons_succ])
        (refine pl_take (d := 19) (v := ?_) rfl rfl rfl ?_ ?_; rotate_left; (focus ((intro w' hb0 hw'; have hb9 : Below W0.heap.size W0 w' := hb0; have x := cell_later f12 hb9; go_simp) <;> with_reducible rfl)); simp only [Act.put, List.setIfInBounds_toArray, List.set_cons_zero, List.set_cons_succ])
        (refine pl_take (d := 20) (v := ?_) rfl rfl rfl ?_ ?_; rotate_left; (focus ((intro w' hb0 hw'; go_simp) <;> with_reducible rfl)); simp only [Act.put, List.setIfInBounds_toArray, List.set_cons_zero, List.set_cons_succ])
        refine pl_take (d := 21) (v := .int .i64 (x1 : Nat)) rfl rfl rfl ?_ ?_
        · intro w' hb0 hw'
          go_simp
          split <;> (try simp_all) <;> omega
        simp only [Act.put, List.setIfInBounds_toArray, List.set_cons_zero, List.set_cons_succ]
        (refine pl_take (d := 22) (v := ?_) rfl rfl rfl ?_ ?_; rotate_left; (focus ((intro w' hb0 hw'; go_simp) <;> with_reducible rfl)); simp only [Act.put, List.setIfInBounds_toArray, List.set_cons_zero, List.set_cons_succ])
        (refine pl_take (d := 23) (v := ?_) rfl rfl rfl ?_ ?_; rotate_left; (focus ((intro w' hb0 hw'; go_simp) <;> with_reducible rfl)); simp only [Act.put, List.setIfInBounds_toArray, List.set_cons_zero, List.set_cons_succ])
        (refine pl_take (d := 24) (v := ?_) rfl rfl rfl ?_ ?_; rotate_left; (focus ((intro w' hb0 hw'; go_simp) <;> with_reducible rfl)); simp only [Act.put, List.setIfInBounds_toArray, List.set_cons_zero, List.set_cons_succ])
        (refine pl_take (d := 25) (v := ?_) rfl rfl rfl ?_ ?_; rotate_left; (focus ((intro w' hb0 hw'; go_simp) <;> with_reducible rfl)); simp only [Act.put, List.setIfInBounds_toArray, List.set_cons_zero, List.set_cons_succ])
        (refine pl_take (d := 26) (v := ?_) rfl rfl rfl ?_ ?_; rotate_left; (focus ((intro w' hb0 hw'; have hb9 : Below W0.heap.size W0 w' := hb0; have x := cell_later f10 hb9; go_simp) <;> with_reducible rfl)); simp only [Act.put, List.setIfInBounds_toArray, List.set_cons_zero, List.set_cons_succ])
        (refine pl_take (d := 27) (v := ?_) rfl rfl rfl ?_ ?_; rotate_left; (focus ((intro w' hb0 hw'; go_simp) <;> with_reducible rfl)); simp only [Act.put, List.setIfInBounds_toArray, List.set_cons_zero, List.set_cons_succ])
        refine pl_take (d := 28) (v := .int .i64 (x2 : Nat)) rfl rfl rfl ?_ ?_
        · intro w' hb0 hw'
          go_simp
          split <;> (try simp_all) <;> omega
        simp only [Act.put, List.setIfInBounds_toArray, List.set_cons_zero, List.set_cons_succ]
        (refine pl_take (d := 29) (v := ?_) rfl rfl rfl ?_ ?_; rotate_left; (focus ((intro w' hb0 hw'; go_simp) <;> with_reducible rfl)); simp only [Act.put, List.setIfInBounds_toArray, List.set_cons_zero, List.set_cons_succ])
        (refine pl_take (d := 30) (v := ?_) rfl rfl rfl ?_ ?_; rotate_left; (focus ((intro w' hb0 hw'; go_simp) <;> with_reducible rfl)); simp only [Act.put, List.setIfInBounds_toArray, List.set_cons_zero, List.set_cons_succ])
        (refine pl_take (d := 31) (v := ?_) rfl rfl rfl ?_ ?_; rotate_left; (focus ((intro w' hb0 hw'; go_simp) <;> with_reducible rfl)); simp only [Act.put, List.setIfInBounds_toArray, List.set_cons_zero, List.set_cons_succ])
        (refine pl_take (d := 32) (v := ?_) rfl rfl rfl ?_ ?_; rotate_left; (focus ((intro w' hb0 hw'; go_simp) <;> with_reducible rfl)); simp only [Act.put, List.setIfInBounds_toArray, List.set_cons_zero, List.set_cons_succ])
        (refine pl_take (d := 33) (v := ?_) rfl rfl rfl ?_ ?_; rotate_left; (focus ((intro w' hb0 hw'; go_simp) <;> with_reducible rfl)); simp only [Act.put, List.setIfInBounds_toArray, List.set_cons_zero, List.set_cons_succ])
        (refine pl_take (d := 34) (v := ?_) rfl rfl rfl ?_ ?_; rotate_left; (focus ((intro w' hb0 hw'; have hb9 : Below W0.heap.size W0 w' := hb0; have x := cell_later f11 hb9; go_simp) <;> with_reducible rfl)); simp only [Act.put, List.setIfInBounds_toArray, List.set_cons_zero, List.set_cons_succ])
        (refine pl_take (d := 35) (v := ?_) rfl rfl rfl ?_ ?_; rotate_left; (focus ((intro w' hb0 hw'; go_simp) <;> with_reducible rfl)); simp only [Act.put, List.setIfInBounds_toArray, List.set_cons_zero, List.set_cons_succ])
        refine pl_take (d := 36) (v := .int .i64 (x3 : Nat)) rfl rfl rfl ?_ ?_
        · intro w' hb0 hw'
          go_simp
          split <;> (try simp_all) <;> omega
        simp only [Act.put, List.setIfInBounds_toArray, List.set_cons_zero, List.set_cons_succ]
        (refine pl_take (d := 37) (v := ?_) rfl rfl rfl ?_ ?_; rotate_left; (focus ((intro w' hb0 hw'; go_simp) <;> with_reducible rfl)); simp only [Act.put, List.setIfInBounds_toArray, List.set_cons_zero, List.set_cons_succ])
        (refine pl_take (d := 38) (v := ?_) rfl rfl rfl ?_ ?_; rotate_left; (focus ((intro w' hb0 hw'; go_simp) <;> with_reducible rfl)); simp only [Act.put, List.setIfInBounds_toArray, List.set_cons_zero, List.set_cons_succ])
        (refine pl_take (d := 3) (v := ?_) rfl rfl rfl ?_ ?_; rotate_left; (focus ((intro w' hb0 hw'; go_simp) <;> with_reducible rfl)); simp only [Act.put, List.setIfInBounds_toArray, List.set_cons_zero, List.set_cons_succ])
        refine pl_end ?_
        by_cases hbig : 100000 < y3
        · have hbig' : (100000 : Int) < (y3 : Int) := by omega
          clear hbig hx1 hx2 hx3
          go_wp2
          refine bodyPost_ret (v := .bool true) (by simp [results, Try.results6, go_sem]) rfl ⟨true, rfl, fun h => by simp at h, hbel0⟩
        · have hbig' : ¬ (100000 : Int) < (y3 : Int) := by omega
          have HB : Hid (y3 ≤ 100000) := by show _ ≤ _; omega
          clear hbig hx1 hx2 hx3
          go_wp2
          go_roundw
          case measure => (simp [intOf]) <;> omega
          case rel => exact ⟨k + 1, y3, by omega, rfl, rfl, HB, Lib.hid hbel0⟩
      · obtain rfl : k = l.length := by omega
        have hb1 := hbel.out
        go_wp2
        refine bodyPost_ret (v := .bool false) (by simp [results, Try.results6, go_sem]) rfl ⟨false, rfl, fun _ => HLEN, hb1⟩
end Go.Proofs.Ythnfbbnpjfjaiaa
