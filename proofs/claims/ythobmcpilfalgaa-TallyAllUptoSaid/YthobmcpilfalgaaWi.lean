/-
  Walk: the document's pairs.
-/
import Derived.Test.YthobmcpilfalgaaWh
namespace Go.Proofs.Ythobmcpilfalgaa
open Go.RowKit Go.Proofs.Ythobmcpilfalgaa.Plan Go.Proofs.Ythobmcpilfalgaa.Eager
set_option maxHeartbeats 2000000
set_option maxRecDepth 20000
set_option linter.unusedVariables false
set_option linter.unusedSimpArgs false

def flat (A : List PP) : List ByteArray := A.flatMap fun p => [p.1, p.2]
theorem flat_len (A : List PP) : (flat A).length = A.length * 2 := by
  unfold flat
  induction A with
  | nil => rfl
  | cons a A ih => simp [ih, Nat.add_mul, Nat.add_comm] <;> omega
theorem refPairs18 (l : List Pk) (w : World) (oa : Option Addr) (n c : Nat) (h : Pks w oa n c l) (hl : l.length ≤ 900) :
    Calls Try.prog 18 #[.slice oa n c] w fun r w' => (∃ o' c', r = .returned (.slice o' (flat (firsts (prs l))).length c') ∧ RStr w' o' (flat (firsts (prs l))).length c' (flat (firsts (prs l)))) ∧ Below w.heap.size w w' := by
  obtain rfl : n = l.length := h.rows.len
  have H := Lib.hid h; have HL := Lib.hid hl; clear h hl
  have hfl : (prs l).length = l.length := by simp [prs]
  have HFL := Lib.hid hfl; clear hfl
  go_enter Try.func18, Try.ntmps18
  go_wp2
  go_loopw [3, 4] (fun v i wr => ∃ k : Nat, k ≤ l.length ∧ i = .int .i64 k ∧ Hid (Own wr w.heap.size 9 1 v (flat (firsts ((prs l).take k))).length ((flat (firsts ((prs l).take k))).flatMap str1)) ∧ Hid (Below w.heap.size w wr)) (fun _ i _ => l.length - (intOf i).toNat)
  case atStart => exact ⟨0, by omega, rfl, Lib.hid (Own.nil _ _ _ _), by (with_reducible try refine Lib.hid ?_); (repeat (with_reducible first | assumption | exact Below.refl _ _ | apply Below.drew | apply Below.drewN' | apply Below.setCell | apply Below.alloc)) <;> (try simp [length_fillTo, length_turnTo]) <;> (try omega)⟩
  case round =>
    obtain ⟨k, hk, rfl, hO, hbel⟩ := hrel
    by_cases hlt : k < l.length
    · have hi1 : (k : Int) < (l.length : Int) := by omega
      have rk : IntKind.i64.wrap ((k : Int) + 1) = ((k + 1 : Nat) : Int) := by
        have h1 := HL.out
        rw [IntKind.wrap_i64]; omega
      have hltf : k < (prs l).length := by rw [HFL.out]; exact hlt
      have HN := Lib.hid (firsts_new (prs l) hltf)
      have hfk : (prs l)[k] = (l[k].frm, l[k].to) := by simp [prs]
      rw [hfk] at HN
      clear hfk
      have hlen : (flat (firsts ((prs l).take k))).length ≤ 1800 := by
        have h1 := firsts_len ((prs l).take k)
        rw [flat_len]
        have h2 := HL.out
        simp only [List.length_take] at h1
        omega
      have HLEN := Lib.hid hlen; clear hlen
      obtain ⟨b1, p1, rfl, hb1, g0, g1, -⟩ := H.out.rows.pk hlt
      obtain ⟨x1, hx1⟩ : ∃ x, l[k].frm = x := ⟨_, rfl⟩
      obtain ⟨x2, hx2⟩ : ∃ x, l[k].to = x := ⟨_, rfl⟩
      rw [hx1, hx2] at HN
      rw [hx1] at g0; rw [hx2] at g1
      have G0 := Lib.hid g0; have G1 := Lib.hid g1
      clear g0 g1 hx1 hx2
      obtain ⟨L, hL⟩ : ∃ L, firsts ((prs l).take k) = L := ⟨_, rfl⟩
      rw [hL] at hO HN HLEN
      clear hL
      go_wp2_with fail
      go_loopw [5, 6] (fun b j wx => ∃ i : Nat, i ≤ k ∧ j = .int .i64 i ∧ b = .bool (decide ((x1, x2) ∉ (prs l).take i)) ∧ Hid (Own wx w.heap.size 9 1 u3 (flat L).length ((flat L).flatMap str1)) ∧ Hid (Below w.heap.size w wx)) (fun _ j _ => k - (intOf j).toNat)
      case atStart => exact ⟨0, by omega, rfl, by simp, hO, hbel⟩
      case round =>
        obtain ⟨i, hi, rfl, rfl, hO, hB⟩ := hrel
        by_cases hil : i < k
        · have hi2 : (i : Int) < (k : Int) := by omega
          have hi3 : (i : Int) < (l.length : Int) := by omega
          have hil2 : i < l.length := by omega
          have ri : IntKind.i64.wrap ((i : Int) + 1) = ((i + 1 : Nat) : Int) := by
            have h1 := HL.out
            rw [IntKind.wrap_i64]; omega
          have HT := Lib.hid (not_mem_succ (prs l) (x1, x2) (i := i) (by rw [HFL.out]; exact hil2))
          obtain ⟨b2, p2, e2, hb2, e0, e1, -⟩ := H.out.rows.pk hil2
          cases e2
          have hfi : (prs l)[i]'(by rw [HFL.out]; exact hil2) = (l[i].frm, l[i].to) := by simp [prs]
          rw [hfi] at HT
          obtain ⟨y1, hy1⟩ : ∃ y, l[i].frm = y := ⟨_, rfl⟩
          obtain ⟨y2, hy2⟩ : ∃ y, l[i].to = y := ⟨_, rfl⟩
          rw [hy1, hy2] at HT
          rw [hy1] at e0; rw [hy2] at e1
          have E0 := Lib.hid e0; have E1 := Lib.hid e1
          clear e0 e1 hy1 hy2 hfi hb2
          have hbz : b1 < wr.heap.size := Nat.lt_of_lt_of_le hb1 hB.out.size
          obtain ⟨q, hq⟩ : ∃ q, decide ((x1, x2) ∉ (prs l).take i) = q := ⟨_, rfl⟩
          rw [hq] at HT ⊢
          clear hq
          cases q
          case false =>
            rw [Bool.false_and] at HT
            go_wp2_with fail
            refine wp_region_plan none [] [] (.take 0 (.take 1 (.take 2 (.take 3 (.take 4 (.take 5 (.take 6 (.take 7 (.take 8 (.take 9 (.take 10 (.take 11 (.take 12 (.take 13 (.take 14 (.take 15 (.take 16 (.take 17 (.take 18 (.take 19 (.take 20 (.take 21 (.take 22 (.take 23 (.take 24 (.take 25 (.take 26 (.take 27 .done)))))))))))))))))))))))))))) (by kernel_rfl) (by kernel_rfl) (fun _ _ dd _ _ h => by cases dd <;> exact h) ?_
            intro W0 hW0
            have hbW : Below w.heap.size w W0 := by rw [hW0]; exact hB.out.drew
            have f0 := (hbW.cell (p := ⟨b1, p1 + i * 3, none⟩) hb1).trans E0.out
            have f1 := (hbW.cell (p := ⟨b1, p1 + i * 3 + 1, none⟩) hb1).trans E1.out
            have g0 := (hbW.cell (p := ⟨b1, p1 + k * 3, none⟩) hb1).trans G0.out
            have g1 := (hbW.cell (p := ⟨b1, p1 + k * 3 + 1, none⟩) hb1).trans G1.out
            have hO0 : Own W0 w.heap.size 9 1 u3 (flat L).length ((flat L).flatMap str1) := by rw [hW0]; exact hO.out.drew
            clear hW0
            (refine pl_take (d := 18) (v := ?_) rfl rfl rfl ?_ ?_; rotate_left; (focus ((intro w' hb0 hw'; go_simp) <;> with_reducible rfl)); simp only [Act.put, List.setIfInBounds_toArray, List.set_cons_zero, List.set_cons_succ])
            (refine pl_take (d := 19) (v := ?_) rfl rfl rfl ?_ ?_; rotate_left; (focus ((intro w' hb0 hw'; go_simp) <;> with_reducible rfl)); simp only [Act.put, List.setIfInBounds_toArray, List.set_cons_zero, List.set_cons_succ])
            (refine pl_skip (d := 20) rfl rfl rfl ?_; simp only [Act.put, List.setIfInBounds_toArray, List.set_cons_zero, List.set_cons_succ])
            (refine pl_skip (d := 21) rfl rfl rfl ?_; simp only [Act.put, List.setIfInBounds_toArray, List.set_cons_zero, List.set_cons_succ])
            (refine pl_skip (d := 22) rfl rfl rfl ?_; simp only [Act.put, List.setIfInBounds_toArray, List.set_cons_zero, List.set_cons_succ])
            (refine pl_skip (d := 23) rfl rfl rfl ?_; simp only [Act.put, List.setIfInBounds_toArray, List.set_cons_zero, List.set_cons_succ])
            (refine pl_skip (d := 24) rfl rfl rfl ?_; simp only [Act.put, List.setIfInBounds_toArray, List.set_cons_zero, List.set_cons_succ])
            (refine pl_skip (d := 25) rfl rfl rfl ?_; simp only [Act.put, List.setIfInBounds_toArray, List.set_cons_zero, List.set_cons_succ])
            (refine pl_skip (d := 26) rfl rfl rfl ?_; simp only [Act.put, List.setIfInBounds_toArray, List.set_cons_zero, List.set_cons_succ])
            (refine pl_skip (d := 27) rfl rfl rfl ?_; simp only [Act.put, List.setIfInBounds_toArray, List.set_cons_zero, List.set_cons_succ])
            (refine pl_skip (d := 28) rfl rfl rfl ?_; simp only [Act.put, List.setIfInBounds_toArray, List.set_cons_zero, List.set_cons_succ])
            (refine pl_skip (d := 29) rfl rfl rfl ?_; simp only [Act.put, List.setIfInBounds_toArray, List.set_cons_zero, List.set_cons_succ])
            (refine pl_skip (d := 30) rfl rfl rfl ?_; simp only [Act.put, List.setIfInBounds_toArray, List.set_cons_zero, List.set_cons_succ])
            (refine pl_skip (d := 31) rfl rfl rfl ?_; simp only [Act.put, List.setIfInBounds_toArray, List.set_cons_zero, List.set_cons_succ])
            (refine pl_skip (d := 32) rfl rfl rfl ?_; simp only [Act.put, List.setIfInBounds_toArray, List.set_cons_zero, List.set_cons_succ])
            (refine pl_skip (d := 33) rfl rfl rfl ?_; simp only [Act.put, List.setIfInBounds_toArray, List.set_cons_zero, List.set_cons_succ])
            (refine pl_skip (d := 34) rfl rfl rfl ?_; simp only [Act.put, List.setIfInBounds_toArray, List.set_cons_zero, List.set_cons_succ])
            (refine pl_skip (d := 35) rfl rfl rfl ?_; simp only [Act.put, List.setIfInBounds_toArray, List.set_cons_zero, List.set_cons_succ])
            (refine pl_skip (d := 36) rfl rfl rfl ?_; simp only [Act.put, List.setIfInBounds_toArray, List.set_cons_zero, List.set_cons_succ])
            (refine pl_skip (d := 37) rfl rfl rfl ?_; simp only [Act.put, List.setIfInBounds_toArray, List.set_cons_zero, List.set_cons_succ])
            (refine pl_skip (d := 38) rfl rfl rfl ?_; simp only [Act.put, List.setIfInBounds_toArray, List.set_cons_zero, List.set_cons_succ])
            (refine pl_skip (d := 39) rfl rfl rfl ?_; simp only [Act.put, List.setIfInBounds_toArray, List.set_cons_zero, List.set_cons_succ])
            (refine pl_skip (d := 40) rfl rfl rfl ?_; simp only [Act.put, List.setIfInBounds_toArray, List.set_cons_zero, List.set_cons_succ])
            (refine pl_skip (d := 41) rfl rfl rfl ?_; simp only [Act.put, List.setIfInBounds_toArray, List.set_cons_zero, List.set_cons_succ])
            (refine pl_skip (d := 42) rfl rfl rfl ?_; simp only [Act.put, List.setIfInBounds_toArray, List.set_cons_zero, List.set_cons_succ])
            (refine pl_skip (d := 43) rfl rfl rfl ?_; simp only [Act.put, List.setIfInBounds_toArray, List.set_cons_zero, List.set_cons_succ])
            (refine pl_take (d := 44) (v := ?_) rfl rfl rfl ?_ ?_; rotate_left; (focus ((intro w' hb0 hw'; go_simp) <;> with_reducible rfl)); simp only [Act.put, List.setIfInBounds_toArray, List.set_cons_zero, List.set_cons_succ])
            (refine pl_take (d := 5) (v := ?_) rfl rfl rfl ?_ ?_; rotate_left; (focus ((intro w' hb0 hw'; go_simp) <;> with_reducible rfl)); simp only [Act.put, List.setIfInBounds_toArray, List.set_cons_zero, List.set_cons_succ])
            refine pl_end ?_
            go_wp2_with fail
            refine ⟨?_, ?_⟩
            · exact ⟨i + 1, by omega, rfl, by rw [HT.out], Lib.hid hO0, Lib.hid hbW⟩
            · (simp [intOf]) <;> omega
          case true =>
            rw [Bool.true_and] at HT
            by_cases he : y1 = x1
            · have heq : (y1.toList == x1.toList) = true := by rw [strbeq, he]; simp
              by_cases he2 : y2 = x2
              · rw [decide_eq_false (p := (y1, y2) ≠ (x1, x2)) (by rw [he, he2]; simp)] at HT
                have heq2 : (y2.toList == x2.toList) = true := by rw [strbeq, he2]; simp
                clear he he2
                go_wp2_with fail
                refine wp_region_plan none [] [] (.take 0 (.take 1 (.take 2 (.take 3 (.take 4 (.take 5 (.take 6 (.take 7 (.take 8 (.take 9 (.take 10 (.take 11 (.take 12 (.take 13 (.take 14 (.take 15 (.take 16 (.take 17 (.take 18 (.take 19 (.take 20 (.take 21 (.take 22 (.take 23 (.take 24 (.take 25 (.take 26 (.take 27 .done)))))))))))))))))))))))))))) (by kernel_rfl) (by kernel_rfl) (fun _ _ dd _ _ h => by cases dd <;> exact h) ?_
                intro W0 hW0
                have hbW : Below w.heap.size w W0 := by rw [hW0]; exact hB.out.drew
                have f0 := (hbW.cell (p := ⟨b1, p1 + i * 3, none⟩) hb1).trans E0.out
                have f1 := (hbW.cell (p := ⟨b1, p1 + i * 3 + 1, none⟩) hb1).trans E1.out
                have g0 := (hbW.cell (p := ⟨b1, p1 + k * 3, none⟩) hb1).trans G0.out
                have g1 := (hbW.cell (p := ⟨b1, p1 + k * 3 + 1, none⟩) hb1).trans G1.out
                have hO0 : Own W0 w.heap.size 9 1 u3 (flat L).length ((flat L).flatMap str1) := by rw [hW0]; exact hO.out.drew
                clear hW0
                (refine pl_take (d := 18) (v := ?_) rfl rfl rfl ?_ ?_; rotate_left; (focus ((intro w' hb0 hw'; go_simp) <;> with_reducible rfl)); simp only [Act.put, List.setIfInBounds_toArray, List.set_cons_zero, List.set_cons_succ])
                (refine pl_take (d := 19) (v := ?_) rfl rfl rfl ?_ ?_; rotate_left; (focus ((intro w' hb0 hw'; go_simp) <;> with_reducible rfl)); simp only [Act.put, List.setIfInBounds_toArray, List.set_cons_zero, List.set_cons_succ])
                (refine pl_take (d := 20) (v := ?_) rfl rfl rfl ?_ ?_; rotate_left; (focus ((intro w' hb0 hw'; go_simp) <;> with_reducible rfl)); simp only [Act.put, List.setIfInBounds_toArray, List.set_cons_zero, List.set_cons_succ])
                (refine pl_take (d := 21) (v := ?_) rfl rfl rfl ?_ ?_; rotate_left; (focus ((intro w' hb0 hw'; go_simp) <;> with_reducible rfl)); simp only [Act.put, List.setIfInBounds_toArray, List.set_cons_zero, List.set_cons_succ])
                (refine pl_take (d := 22) (v := ?_) rfl rfl rfl ?_ ?_; rotate_left; (focus ((intro w' hb0 hw'; go_simp) <;> with_reducible rfl)); simp only [Act.put, List.setIfInBounds_toArray, List.set_cons_zero, List.set_cons_succ])
                (refine pl_take (d := 23) (v := ?_) rfl rfl rfl ?_ ?_; rotate_left; (focus ((intro w' hb0 hw'; go_simp) <;> with_reducible rfl)); simp only [Act.put, List.setIfInBounds_toArray, List.set_cons_zero, List.set_cons_succ])
                (refine pl_take (d := 24) (v := ?_) rfl rfl rfl ?_ ?_; rotate_left; (focus ((intro w' hb0 hw'; have c := cell_later f0 hw'; go_simp) <;> with_reducible rfl)); simp only [Act.put, List.setIfInBounds_toArray, List.set_cons_zero, List.set_cons_succ])
                (refine pl_take (d := 25) (v := ?_) rfl rfl rfl ?_ ?_; rotate_left; (focus ((intro w' hb0 hw'; go_simp) <;> with_reducible rfl)); simp only [Act.put, List.setIfInBounds_toArray, List.set_cons_zero, List.set_cons_succ])
                (refine pl_take (d := 26) (v := ?_) rfl rfl rfl ?_ ?_; rotate_left; (focus ((intro w' hb0 hw'; go_simp) <;> with_reducible rfl)); simp only [Act.put, List.setIfInBounds_toArray, List.set_cons_zero, List.set_cons_succ])
                (refine pl_take (d := 27) (v := ?_) rfl rfl rfl ?_ ?_; rotate_left; (focus ((intro w' hb0 hw'; go_simp) <;> with_reducible rfl)); simp only [Act.put, List.setIfInBounds_toArray, List.set_cons_zero, List.set_cons_succ])
                (refine pl_take (d := 28) (v := ?_) rfl rfl rfl ?_ ?_; rotate_left; (focus ((intro w' hb0 hw'; go_simp) <;> with_reducible rfl)); simp only [Act.put, List.setIfInBounds_toArray, List.set_cons_zero, List.set_cons_succ])
                (refine pl_take (d := 29) (v := ?_) rfl rfl rfl ?_ ?_; rotate_left; (focus ((intro w' hb0 hw'; have c := cell_later g0 hw'; go_simp) <;> with_reducible rfl)); simp only [Act.put, List.setIfInBounds_toArray, List.set_cons_zero, List.set_cons_succ])
                refine pl_take (d := 30) (v := .bool false) rfl rfl rfl ?_ ?_
                · intro w' hb0 hw'
                  have hs := heq
                  go_simp
                simp only [Act.put, List.setIfInBounds_toArray, List.set_cons_zero, List.set_cons_succ]
                (refine pl_take (d := 31) (v := ?_) rfl rfl rfl ?_ ?_; rotate_left; (focus ((intro w' hb0 hw'; go_simp) <;> with_reducible rfl)); simp only [Act.put, List.setIfInBounds_toArray, List.set_cons_zero, List.set_cons_succ])
                (refine pl_take (d := 32) (v := ?_) rfl rfl rfl ?_ ?_; rotate_left; (focus ((intro w' hb0 hw'; go_simp) <;> with_reducible rfl)); simp only [Act.put, List.setIfInBounds_toArray, List.set_cons_zero, List.set_cons_succ])
                (refine pl_take (d := 33) (v := ?_) rfl rfl rfl ?_ ?_; rotate_left; (focus ((intro w' hb0 hw'; go_simp) <;> with_reducible rfl)); simp only [Act.put, List.setIfInBounds_toArray, List.set_cons_zero, List.set_cons_succ])
                (refine pl_take (d := 34) (v := ?_) rfl rfl rfl ?_ ?_; rotate_left; (focus ((intro w' hb0 hw'; go_simp) <;> with_reducible rfl)); simp only [Act.put, List.setIfInBounds_toArray, List.set_cons_zero, List.set_cons_succ])
                (refine pl_take (d := 35) (v := ?_) rfl rfl rfl ?_ ?_; rotate_left; (focus ((intro w' hb0 hw'; go_simp) <;> with_reducible rfl)); simp only [Act.put, List.setIfInBounds_toArray, List.set_cons_zero, List.set_cons_succ])
                (refine pl_take (d := 36) (v := ?_) rfl rfl rfl ?_ ?_; rotate_left; (focus ((intro w' hb0 hw'; have c := cell_later f1 hw'; go_simp) <;> with_reducible rfl)); simp only [Act.put, List.setIfInBounds_toArray, List.set_cons_zero, List.set_cons_succ])
                (refine pl_take (d := 37) (v := ?_) rfl rfl rfl ?_ ?_; rotate_left; (focus ((intro w' hb0 hw'; go_simp) <;> with_reducible rfl)); simp only [Act.put, List.setIfInBounds_toArray, List.set_cons_zero, List.set_cons_succ])
                (refine pl_take (d := 38) (v := ?_) rfl rfl rfl ?_ ?_; rotate_left; (focus ((intro w' hb0 hw'; go_simp) <;> with_reducible rfl)); simp only [Act.put, List.setIfInBounds_toArray, List.set_cons_zero, List.set_cons_succ])
                (refine pl_take (d := 39) (v := ?_) rfl rfl rfl ?_ ?_; rotate_left; (focus ((intro w' hb0 hw'; go_simp) <;> with_reducible rfl)); simp only [Act.put, List.setIfInBounds_toArray, List.set_cons_zero, List.set_cons_succ])
                (refine pl_take (d := 40) (v := ?_) rfl rfl rfl ?_ ?_; rotate_left; (focus ((intro w' hb0 hw'; go_simp) <;> with_reducible rfl)); simp only [Act.put, List.setIfInBounds_toArray, List.set_cons_zero, List.set_cons_succ])
                (refine pl_take (d := 41) (v := ?_) rfl rfl rfl ?_ ?_; rotate_left; (focus ((intro w' hb0 hw'; have c := cell_later g1 hw'; go_simp) <;> with_reducible rfl)); simp only [Act.put, List.setIfInBounds_toArray, List.set_cons_zero, List.set_cons_succ])
                refine pl_take (d := 42) (v := .bool false) rfl rfl rfl ?_ ?_
                · intro w' hb0 hw'
                  have hs := heq2
                  go_simp
                simp only [Act.put, List.setIfInBounds_toArray, List.set_cons_zero, List.set_cons_succ]
                (refine pl_take (d := 43) (v := ?_) rfl rfl rfl ?_ ?_; rotate_left; (focus ((intro w' hb0 hw'; go_simp) <;> with_reducible rfl)); simp only [Act.put, List.setIfInBounds_toArray, List.set_cons_zero, List.set_cons_succ])
                (refine pl_take (d := 44) (v := ?_) rfl rfl rfl ?_ ?_; rotate_left; (focus ((intro w' hb0 hw'; go_simp) <;> with_reducible rfl)); simp only [Act.put, List.setIfInBounds_toArray, List.set_cons_zero, List.set_cons_succ])
                (refine pl_take (d := 5) (v := ?_) rfl rfl rfl ?_ ?_; rotate_left; (focus ((intro w' hb0 hw'; go_simp) <;> with_reducible rfl)); simp only [Act.put, List.setIfInBounds_toArray, List.set_cons_zero, List.set_cons_succ])
                refine pl_end ?_
                go_wp2_with fail
                refine ⟨?_, ?_⟩
                · exact ⟨i + 1, by omega, rfl, by rw [HT.out], Lib.hid hO0, Lib.hid hbW⟩
                · (simp [intOf]) <;> omega
              · rw [decide_eq_true (p := (y1, y2) ≠ (x1, x2)) (by simp [he2])] at HT
                have hne := strne he2
                clear he he2
                go_wp2_with fail
                refine wp_region_plan none [] [] (.take 0 (.take 1 (.take 2 (.take 3 (.take 4 (.take 5 (.take 6 (.take 7 (.take 8 (.take 9 (.take 10 (.take 11 (.take 12 (.take 13 (.take 14 (.take 15 (.take 16 (.take 17 (.take 18 (.take 19 (.take 20 (.take 21 (.take 22 (.take 23 (.take 24 (.take 25 (.take 26 (.take 27 .done)))))))))))))))))))))))))))) (by kernel_rfl) (by kernel_rfl) (fun _ _ dd _ _ h => by cases dd <;> exact h) ?_
                intro W0 hW0
                have hbW : Below w.heap.size w W0 := by rw [hW0]; exact hB.out.drew
                have f0 := (hbW.cell (p := ⟨b1, p1 + i * 3, none⟩) hb1).trans E0.out
                have f1 := (hbW.cell (p := ⟨b1, p1 + i * 3 + 1, none⟩) hb1).trans E1.out
                have g0 := (hbW.cell (p := ⟨b1, p1 + k * 3, none⟩) hb1).trans G0.out
                have g1 := (hbW.cell (p := ⟨b1, p1 + k * 3 + 1, none⟩) hb1).trans G1.out
                have hO0 : Own W0 w.heap.size 9 1 u3 (flat L).length ((flat L).flatMap str1) := by rw [hW0]; exact hO.out.drew
                clear hW0
                (refine pl_take (d := 18) (v := ?_) rfl rfl rfl ?_ ?_; rotate_left; (focus ((intro w' hb0 hw'; go_simp) <;> with_reducible rfl)); simp only [Act.put, List.setIfInBounds_toArray, List.set_cons_zero, List.set_cons_succ])
                (refine pl_take (d := 19) (v := ?_) rfl rfl rfl ?_ ?_; rotate_left; (focus ((intro w' hb0 hw'; go_simp) <;> with_reducible rfl)); simp only [Act.put, List.setIfInBounds_toArray, List.set_cons_zero, List.set_cons_succ])
                (refine pl_take (d := 20) (v := ?_) rfl rfl rfl ?_ ?_; rotate_left; (focus ((intro w' hb0 hw'; go_simp) <;> with_reducible rfl)); simp only [Act.put, List.setIfInBounds_toArray, List.set_cons_zero, List.set_cons_succ])
                (refine pl_take (d := 21) (v := ?_) rfl rfl rfl ?_ ?_; rotate_left; (focus ((intro w' hb0 hw'; go_simp) <;> with_reducible rfl)); simp only [Act.put, List.setIfInBounds_toArray, List.set_cons_zero, List.set_cons_succ])
                (refine pl_take (d := 22) (v := ?_) rfl rfl rfl ?_ ?_; rotate_left; (focus ((intro w' hb0 hw'; go_simp) <;> with_reducible rfl)); simp only [Act.put, List.setIfInBounds_toArray, List.set_cons_zero, List.set_cons_succ])
                (refine pl_take (d := 23) (v := ?_) rfl rfl rfl ?_ ?_; rotate_left; (focus ((intro w' hb0 hw'; go_simp) <;> with_reducible rfl)); simp only [Act.put, List.setIfInBounds_toArray, List.set_cons_zero, List.set_cons_succ])
                (refine pl_take (d := 24) (v := ?_) rfl rfl rfl ?_ ?_; rotate_left; (focus ((intro w' hb0 hw'; have c := cell_later f0 hw'; go_simp) <;> with_reducible rfl)); simp only [Act.put, List.setIfInBounds_toArray, List.set_cons_zero, List.set_cons_succ])
                (refine pl_take (d := 25) (v := ?_) rfl rfl rfl ?_ ?_; rotate_left; (focus ((intro w' hb0 hw'; go_simp) <;> with_reducible rfl)); simp only [Act.put, List.setIfInBounds_toArray, List.set_cons_zero, List.set_cons_succ])
                (refine pl_take (d := 26) (v := ?_) rfl rfl rfl ?_ ?_; rotate_left; (focus ((intro w' hb0 hw'; go_simp) <;> with_reducible rfl)); simp only [Act.put, List.setIfInBounds_toArray, List.set_cons_zero, List.set_cons_succ])
                (refine pl_take (d := 27) (v := ?_) rfl rfl rfl ?_ ?_; rotate_left; (focus ((intro w' hb0 hw'; go_simp) <;> with_reducible rfl)); simp only [Act.put, List.setIfInBounds_toArray, List.set_cons_zero, List.set_cons_succ])
                (refine pl_take (d := 28) (v := ?_) rfl rfl rfl ?_ ?_; rotate_left; (focus ((intro w' hb0 hw'; go_simp) <;> with_reducible rfl)); simp only [Act.put, List.setIfInBounds_toArray, List.set_cons_zero, List.set_cons_succ])
                (refine pl_take (d := 29) (v := ?_) rfl rfl rfl ?_ ?_; rotate_left; (focus ((intro w' hb0 hw'; have c := cell_later g0 hw'; go_simp) <;> with_reducible rfl)); simp only [Act.put, List.setIfInBounds_toArray, List.set_cons_zero, List.set_cons_succ])
                refine pl_take (d := 30) (v := .bool false) rfl rfl rfl ?_ ?_
                · intro w' hb0 hw'
                  have hs := heq
                  go_simp
                simp only [Act.put, List.setIfInBounds_toArray, List.set_cons_zero, List.set_cons_succ]
                (refine pl_take (d := 31) (v := ?_) rfl rfl rfl ?_ ?_; rotate_left; (focus ((intro w' hb0 hw'; go_simp) <;> with_reducible rfl)); simp only [Act.put, List.setIfInBounds_toArray, List.set_cons_zero, List.set_cons_succ])
                (refine pl_take (d := 32) (v := ?_) rfl rfl rfl ?_ ?_; rotate_left; (focus ((intro w' hb0 hw'; go_simp) <;> with_reducible rfl)); simp only [Act.put, List.setIfInBounds_toArray, List.set_cons_zero, List.set_cons_succ])
                (refine pl_take (d := 33) (v := ?_) rfl rfl rfl ?_ ?_; rotate_left; (focus ((intro w' hb0 hw'; go_simp) <;> with_reducible rfl)); simp only [Act.put, List.setIfInBounds_toArray, List.set_cons_zero, List.set_cons_succ])
                (refine pl_take (d := 34) (v := ?_) rfl rfl rfl ?_ ?_; rotate_left; (focus ((intro w' hb0 hw'; go_simp) <;> with_reducible rfl)); simp only [Act.put, List.setIfInBounds_toArray, List.set_cons_zero, List.set_cons_succ])
                (refine pl_take (d := 35) (v := ?_) rfl rfl rfl ?_ ?_; rotate_left; (focus ((intro w' hb0 hw'; go_simp) <;> with_reducible rfl)); simp only [Act.put, List.setIfInBounds_toArray, List.set_cons_zero, List.set_cons_succ])
                (refine pl_take (d := 36) (v := ?_) rfl rfl rfl ?_ ?_; rotate_left; (focus ((intro w' hb0 hw'; have c := cell_later f1 hw'; go_simp) <;> with_reducible rfl)); simp only [Act.put, List.setIfInBounds_toArray, List.set_cons_zero, List.set_cons_succ])
                (refine pl_take (d := 37) (v := ?_) rfl rfl rfl ?_ ?_; rotate_left; (focus ((intro w' hb0 hw'; go_simp) <;> with_reducible rfl)); simp only [Act.put, List.setIfInBounds_toArray, List.set_cons_zero, List.set_cons_succ])
                (refine pl_take (d := 38) (v := ?_) rfl rfl rfl ?_ ?_; rotate_left; (focus ((intro w' hb0 hw'; go_simp) <;> with_reducible rfl)); simp only [Act.put, List.setIfInBounds_toArray, List.set_cons_zero, List.set_cons_succ])
                (refine pl_take (d := 39) (v := ?_) rfl rfl rfl ?_ ?_; rotate_left; (focus ((intro w' hb0 hw'; go_simp) <;> with_reducible rfl)); simp only [Act.put, List.setIfInBounds_toArray, List.set_cons_zero, List.set_cons_succ])
                (refine pl_take (d := 40) (v := ?_) rfl rfl rfl ?_ ?_; rotate_left; (focus ((intro w' hb0 hw'; go_simp) <;> with_reducible rfl)); simp only [Act.put, List.setIfInBounds_toArray, List.set_cons_zero, List.set_cons_succ])
                (refine pl_take (d := 41) (v := ?_) rfl rfl rfl ?_ ?_; rotate_left; (focus ((intro w' hb0 hw'; have c := cell_later g1 hw'; go_simp) <;> with_reducible rfl)); simp only [Act.put, List.setIfInBounds_toArray, List.set_cons_zero, List.set_cons_succ])
                refine pl_take (d := 42) (v := .bool true) rfl rfl rfl ?_ ?_
                · intro w' hb0 hw'
                  have hs := hne
                  go_simp
                simp only [Act.put, List.setIfInBounds_toArray, List.set_cons_zero, List.set_cons_succ]
                (refine pl_take (d := 43) (v := ?_) rfl rfl rfl ?_ ?_; rotate_left; (focus ((intro w' hb0 hw'; go_simp) <;> with_reducible rfl)); simp only [Act.put, List.setIfInBounds_toArray, List.set_cons_zero, List.set_cons_succ])
                (refine pl_take (d := 44) (v := ?_) rfl rfl rfl ?_ ?_; rotate_left; (focus ((intro w' hb0 hw'; go_simp) <;> with_reducible rfl)); simp only [Act.put, List.setIfInBounds_toArray, List.set_cons_zero, List.set_cons_succ])
                (refine pl_take (d := 5) (v := ?_) rfl rfl rfl ?_ ?_; rotate_left; (focus ((intro w' hb0 hw'; go_simp) <;> with_reducible rfl)); simp only [Act.put, List.setIfInBounds_toArray, List.set_cons_zero, List.set_cons_succ])
                refine pl_end ?_
                go_wp2_with fail
                refine ⟨?_, ?_⟩
                · exact ⟨i + 1, by omega, rfl, by rw [HT.out], Lib.hid hO0, Lib.hid hbW⟩
                · (simp [intOf]) <;> omega
            · rw [decide_eq_true (p := (y1, y2) ≠ (x1, x2)) (by simp [he])] at HT
              have hne := strne he
              clear he
              go_wp2_with fail
              refine wp_region_plan none [] [] (.take 0 (.take 1 (.take 2 (.take 3 (.take 4 (.take 5 (.take 6 (.take 7 (.take 8 (.take 9 (.take 10 (.take 11 (.take 12 (.take 13 (.take 14 (.take 15 (.take 16 (.take 17 (.take 18 (.take 19 (.take 20 (.take 21 (.take 22 (.take 23 (.take 24 (.take 25 (.take 26 (.take 27 .done)))))))))))))))))))))))))))) (by kernel_rfl) (by kernel_rfl) (fun _ _ dd _ _ h => by cases dd <;> exact h) ?_
              intro W0 hW0
              have hbW : Below w.heap.size w W0 := by rw [hW0]; exact hB.out.drew
              have f0 := (hbW.cell (p := ⟨b1, p1 + i * 3, none⟩) hb1).trans E0.out
              have f1 := (hbW.cell (p := ⟨b1, p1 + i * 3 + 1, none⟩) hb1).trans E1.out
              have g0 := (hbW.cell (p := ⟨b1, p1 + k * 3, none⟩) hb1).trans G0.out
              have g1 := (hbW.cell (p := ⟨b1, p1 + k * 3 + 1, none⟩) hb1).trans G1.out
              have hO0 : Own W0 w.heap.size 9 1 u3 (flat L).length ((flat L).flatMap str1) := by rw [hW0]; exact hO.out.drew
              clear hW0
              (refine pl_take (d := 18) (v := ?_) rfl rfl rfl ?_ ?_; rotate_left; (focus ((intro w' hb0 hw'; go_simp) <;> with_reducible rfl)); simp only [Act.put, List.setIfInBounds_toArray, List.set_cons_zero, List.set_cons_succ])
              (refine pl_take (d := 19) (v := ?_) rfl rfl rfl ?_ ?_; rotate_left; (focus ((intro w' hb0 hw'; go_simp) <;> with_reducible rfl)); simp only [Act.put, List.setIfInBounds_toArray, List.set_cons_zero, List.set_cons_succ])
              (refine pl_take (d := 20) (v := ?_) rfl rfl rfl ?_ ?_; rotate_left; (focus ((intro w' hb0 hw'; go_simp) <;> with_reducible rfl)); simp only [Act.put, List.setIfInBounds_toArray, List.set_cons_zero, List.set_cons_succ])
              (refine pl_take (d := 21) (v := ?_) rfl rfl rfl ?_ ?_; rotate_left; (focus ((intro w' hb0 hw'; go_simp) <;> with_reducible rfl)); simp only [Act.put, List.setIfInBounds_toArray, List.set_cons_zero, List.set_cons_succ])
              (refine pl_take (d := 22) (v := ?_) rfl rfl rfl ?_ ?_; rotate_left; (focus ((intro w' hb0 hw'; go_simp) <;> with_reducible rfl)); simp only [Act.put, List.setIfInBounds_toArray, List.set_cons_zero, List.set_cons_succ])
              (refine pl_take (d := 23) (v := ?_) rfl rfl rfl ?_ ?_; rotate_left; (focus ((intro w' hb0 hw'; go_simp) <;> with_reducible rfl)); simp only [Act.put, List.setIfInBounds_toArray, List.set_cons_zero, List.set_cons_succ])
              (refine pl_take (d := 24) (v := ?_) rfl rfl rfl ?_ ?_; rotate_left; (focus ((intro w' hb0 hw'; have c := cell_later f0 hw'; go_simp) <;> with_reducible rfl)); simp only [Act.put, List.setIfInBounds_toArray, List.set_cons_zero, List.set_cons_succ])
              (refine pl_take (d := 25) (v := ?_) rfl rfl rfl ?_ ?_; rotate_left; (focus ((intro w' hb0 hw'; go_simp) <;> with_reducible rfl)); simp only [Act.put, List.setIfInBounds_toArray, List.set_cons_zero, List.set_cons_succ])
              (refine pl_take (d := 26) (v := ?_) rfl rfl rfl ?_ ?_; rotate_left; (focus ((intro w' hb0 hw'; go_simp) <;> with_reducible rfl)); simp only [Act.put, List.setIfInBounds_toArray, List.set_cons_zero, List.set_cons_succ])
              (refine pl_take (d := 27) (v := ?_) rfl rfl rfl ?_ ?_; rotate_left; (focus ((intro w' hb0 hw'; go_simp) <;> with_reducible rfl)); simp only [Act.put, List.setIfInBounds_toArray, List.set_cons_zero, List.set_cons_succ])
              (refine pl_take (d := 28) (v := ?_) rfl rfl rfl ?_ ?_; rotate_left; (focus ((intro w' hb0 hw'; go_simp) <;> with_reducible rfl)); simp only [Act.put, List.setIfInBounds_toArray, List.set_cons_zero, List.set_cons_succ])
              (refine pl_take (d := 29) (v := ?_) rfl rfl rfl ?_ ?_; rotate_left; (focus ((intro w' hb0 hw'; have c := cell_later g0 hw'; go_simp) <;> with_reducible rfl)); simp only [Act.put, List.setIfInBounds_toArray, List.set_cons_zero, List.set_cons_succ])
              refine pl_take (d := 30) (v := .bool true) rfl rfl rfl ?_ ?_
              · intro w' hb0 hw'
                have hs := hne
                go_simp
              simp only [Act.put, List.setIfInBounds_toArray, List.set_cons_zero, List.set_cons_succ]
              (refine pl_take (d := 31) (v := ?_) rfl rfl rfl ?_ ?_; rotate_left; (focus ((intro w' hb0 hw'; go_simp) <;> with_reducible rfl)); simp only [Act.put, List.setIfInBounds_toArray, List.set_cons_zero, List.set_cons_succ])
              (refine pl_skip (d := 32) rfl rfl rfl ?_; simp only [Act.put, List.setIfInBounds_toArray, List.set_cons_zero, List.set_cons_succ])
              (refine pl_skip (d := 33) rfl rfl rfl ?_; simp only [Act.put, List.setIfInBounds_toArray, List.set_cons_zero, List.set_cons_succ])
              (refine pl_skip (d := 34) rfl rfl rfl ?_; simp only [Act.put, List.setIfInBounds_toArray, List.set_cons_zero, List.set_cons_succ])
              (refine pl_skip (d := 35) rfl rfl rfl ?_; simp only [Act.put, List.setIfInBounds_toArray, List.set_cons_zero, List.set_cons_succ])
              (refine pl_skip (d := 36) rfl rfl rfl ?_; simp only [Act.put, List.setIfInBounds_toArray, List.set_cons_zero, List.set_cons_succ])
              (refine pl_skip (d := 37) rfl rfl rfl ?_; simp only [Act.put, List.setIfInBounds_toArray, List.set_cons_zero, List.set_cons_succ])
              (refine pl_skip (d := 38) rfl rfl rfl ?_; simp only [Act.put, List.setIfInBounds_toArray, List.set_cons_zero, List.set_cons_succ])
              (refine pl_skip (d := 39) rfl rfl rfl ?_; simp only [Act.put, List.setIfInBounds_toArray, List.set_cons_zero, List.set_cons_succ])
              (refine pl_skip (d := 40) rfl rfl rfl ?_; simp only [Act.put, List.setIfInBounds_toArray, List.set_cons_zero, List.set_cons_succ])
              (refine pl_skip (d := 41) rfl rfl rfl ?_; simp only [Act.put, List.setIfInBounds_toArray, List.set_cons_zero, List.set_cons_succ])
              (refine pl_skip (d := 42) rfl rfl rfl ?_; simp only [Act.put, List.setIfInBounds_toArray, List.set_cons_zero, List.set_cons_succ])
              (refine pl_take (d := 43) (v := ?_) rfl rfl rfl ?_ ?_; rotate_left; (focus ((intro w' hb0 hw'; go_simp) <;> with_reducible rfl)); simp only [Act.put, List.setIfInBounds_toArray, List.set_cons_zero, List.set_cons_succ])
              (refine pl_take (d := 44) (v := ?_) rfl rfl rfl ?_ ?_; rotate_left; (focus ((intro w' hb0 hw'; go_simp) <;> with_reducible rfl)); simp only [Act.put, List.setIfInBounds_toArray, List.set_cons_zero, List.set_cons_succ])
              (refine pl_take (d := 5) (v := ?_) rfl rfl rfl ?_ ?_; rotate_left; (focus ((intro w' hb0 hw'; go_simp) <;> with_reducible rfl)); simp only [Act.put, List.setIfInBounds_toArray, List.set_cons_zero, List.set_cons_succ])
              refine pl_end ?_
              go_wp2_with fail
              refine ⟨?_, ?_⟩
              · exact ⟨i + 1, by omega, rfl, by rw [HT.out], Lib.hid hO0, Lib.hid hbW⟩
              · (simp [intOf]) <;> omega
        · obtain rfl : i = k := by omega
          obtain ⟨q, hq⟩ : ∃ q, decide ((x1, x2) ∉ (prs l).take i) = q := ⟨_, rfl⟩
          rw [hq] at HN ⊢
          clear hq
          cases q
          case false =>
            go_wp2_with fail
            refine ⟨?_, ?_⟩
            · exact ⟨i + 1, by omega, rfl, Lib.hid (by rw [HN.out]; simpa using hO.out), hB⟩
            · (simp [intOf]) <;> omega
          case true =>
            have hbz : b1 < wr.heap.size := Nat.lt_of_lt_of_le hb1 hB.out.size
            go_wp2_with fail
            refine wp_region_plan (some w.heap.size) [] [] (.take 0 (.take 1 (.take 2 (.take 3 (.take 4 (.take 5 (.take 6 (.take 7 (.take 8 (.take 9 (.take 10 (.one 11 (.one 12 (.take 13 .done)))))))))))))) (by kernel_rfl) (by kernel_rfl) (fun _ _ dd _ _ h => by cases dd <;> exact h) ?_
            intro W0 hW0
            have hbW : Below w.heap.size w W0 := by rw [hW0]; exact hB.out.drew
            have f0 := (hbW.cell (p := ⟨b1, p1 + i * 3, none⟩) hb1).trans G0.out
            have f1 := (hbW.cell (p := ⟨b1, p1 + i * 3 + 1, none⟩) hb1).trans G1.out
            have hO0 : Own W0 w.heap.size 9 1 u3 (flat L).length ((flat L).flatMap str1) := by rw [hW0]; exact hO.out.drew
            have hz0 := hbW.size
            clear hW0
            (refine pl_take (d := 46) (v := ?_) rfl rfl rfl ?_ ?_; rotate_left; (focus ((intro w' hb0 hw'; go_simp) <;> with_reducible rfl)); simp only [Act.put, List.setIfInBounds_toArray, List.set_cons_zero, List.set_cons_succ])
            (refine pl_take (d := 47) (v := ?_) rfl rfl rfl ?_ ?_; rotate_left; (focus ((intro w' hb0 hw'; go_simp) <;> with_reducible rfl)); simp only [Act.put, List.setIfInBounds_toArray, List.set_cons_zero, List.set_cons_succ])
            (refine pl_take (d := 48) (v := ?_) rfl rfl rfl ?_ ?_; rotate_left; (focus ((intro w' hb0 hw'; go_simp) <;> with_reducible rfl)); simp only [Act.put, List.setIfInBounds_toArray, List.set_cons_zero, List.set_cons_succ])
            (refine pl_take (d := 49) (v := ?_) rfl rfl rfl ?_ ?_; rotate_left; (focus ((intro w' hb0 hw'; go_simp) <;> with_reducible rfl)); simp only [Act.put, List.setIfInBounds_toArray, List.set_cons_zero, List.set_cons_succ])
            (refine pl_take (d := 50) (v := ?_) rfl rfl rfl ?_ ?_; rotate_left; (focus ((intro w' hb0 hw'; go_simp) <;> with_reducible rfl)); simp only [Act.put, List.setIfInBounds_toArray, List.set_cons_zero, List.set_cons_succ])
            (refine pl_take (d := 51) (v := ?_) rfl rfl rfl ?_ ?_; rotate_left; (focus ((intro w' hb0 hw'; have hb9 : Below w.heap.size W0 w' := hb0; have c0 := (hb9.cell (p := ⟨b1, p1 + i * 3, none⟩) hb1).trans f0; have c1 := (hb9.cell (p := ⟨b1, p1 + i * 3 + 1, none⟩) hb1).trans f1; go_simp) <;> with_reducible rfl)); simp only [Act.put, List.setIfInBounds_toArray, List.set_cons_zero, List.set_cons_succ])
            (refine pl_take (d := 52) (v := ?_) rfl rfl rfl ?_ ?_; rotate_left; (focus ((intro w' hb0 hw'; go_simp) <;> with_reducible rfl)); simp only [Act.put, List.setIfInBounds_toArray, List.set_cons_zero, List.set_cons_succ])
            (refine pl_take (d := 53) (v := ?_) rfl rfl rfl ?_ ?_; rotate_left; (focus ((intro w' hb0 hw'; go_simp) <;> with_reducible rfl)); simp only [Act.put, List.setIfInBounds_toArray, List.set_cons_zero, List.set_cons_succ])
            (refine pl_take (d := 54) (v := ?_) rfl rfl rfl ?_ ?_; rotate_left; (focus ((intro w' hb0 hw'; go_simp) <;> with_reducible rfl)); simp only [Act.put, List.setIfInBounds_toArray, List.set_cons_zero, List.set_cons_succ])
            (refine pl_take (d := 55) (v := ?_) rfl rfl rfl ?_ ?_; rotate_left; (focus ((intro w' hb0 hw'; go_simp) <;> with_reducible rfl)); simp only [Act.put, List.setIfInBounds_toArray, List.set_cons_zero, List.set_cons_succ])
            (refine pl_take (d := 56) (v := ?_) rfl rfl rfl ?_ ?_; rotate_left; (focus ((intro w' hb0 hw'; have hb9 : Below w.heap.size W0 w' := hb0; have c0 := (hb9.cell (p := ⟨b1, p1 + i * 3, none⟩) hb1).trans f0; have c1 := (hb9.cell (p := ⟨b1, p1 + i * 3 + 1, none⟩) hb1).trans f1; go_simp) <;> with_reducible rfl)); simp only [Act.put, List.setIfInBounds_toArray, List.set_cons_zero, List.set_cons_succ])
            refine pl_one rfl rfl (fun K hK => ?_)
            go_simp
            refine hK _ _ ((Below.refl _ _).alloc hz0 _ : Below w.heap.size W0 _) ?_
            have hO2 := hO0.alloc (.cells [Value.string x1, .string x2].toArray 9)
            have hN2 := Blk.new W0 [Value.string x1, .string x2] 9
            have hb2 := hbW.alloc hbW.size (.cells [Value.string x1, .string x2].toArray 9)
            have hz2 : w.heap.size ≤ (W0.alloc (.cells [Value.string x1, .string x2].toArray 9)).heap.size := by simp; omega
            clear hK
            refine pl_one rfl rfl (fun K hK => ?_)
            have hlen := HLEN.out
            refine wp_app el27 (by rfl) (by rfl) hO2 (by rfl) (m := 2) rfl hN2.cells (by simp [Value.oneCell']) (by simp [maxLen]; omega) (by omega) hz2 ?_
            intro v3 W3 hO3 hg3
            have hb3 := hO2.below hg3 hb2 (Nat.le_refl _) hz2
            refine hK _ _ (hO2.below hg3 (Below.refl _ _) (Nat.le_refl _) hz2 : Below w.heap.size _ W3) ?_
            clear hK
            (refine pl_take (d := 3) (v := ?_) rfl rfl rfl ?_ ?_; rotate_left; (focus ((intro w' hb0 hw'; go_simp) <;> with_reducible rfl)); simp only [Act.put, List.setIfInBounds_toArray, List.set_cons_zero, List.set_cons_succ])
            refine pl_end ?_
            have HO3 := Lib.hid hO3; have HB3 := Lib.hid hb3
            clear hO3 hg3 hb3 hlen hO2 hN2 hb2 hz2 hO0 hbW hz0 f0 f1
            go_wp2_with fail
            refine ⟨?_, ?_⟩
            · exact ⟨i + 1, by omega, rfl, Lib.hid (by rw [HN.out]; simpa [str1, flat] using HO3.out), HB3⟩
            · (simp [intOf]) <;> omega
    · obtain rfl : k = l.length := by omega
      have hf : (prs l).take l.length = prs l := by rw [← HFL.out, List.take_length]
      rw [hf] at hO
      obtain ⟨o', c', rfl, hR⟩ := Own.rws hO.out rfl
      have HR := Lib.hid hR; have HB := hbel; clear hR hbel hO
      go_wp2
      refine bodyPost_ret (v := .slice o' (flat (firsts (prs l))).length c') (by simp [results, Try.results18, go_sem]) rfl ⟨⟨o', c', rfl, HR.out⟩, HB.out⟩
end Go.Proofs.Ythobmcpilfalgaa
