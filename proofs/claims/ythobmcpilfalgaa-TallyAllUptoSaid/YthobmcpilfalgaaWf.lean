/-
  Walk: the document's names.
-/
import Derived.Test.YthobmcpilfalgaaWe
namespace Go.Proofs.Ythobmcpilfalgaa
open Go.RowKit Go.Proofs.Ythobmcpilfalgaa.Plan Go.Proofs.Ythobmcpilfalgaa.Eager
set_option maxHeartbeats 2000000
set_option maxRecDepth 20000
set_option linter.unusedVariables false
set_option linter.unusedSimpArgs false

theorem not_mem_succ {α : Type} [DecidableEq α] (l : List α) (x : α) {i : Nat} (h : i < l.length) : decide (x ∉ l.take (i + 1)) = (decide (x ∉ l.take i) && decide (l[i] ≠ x)) := by
  rw [List.take_succ_eq_append_getElem h]
  generalize l.take i = A
  generalize l[i] = y
  by_cases h1 : x ∈ A
  · simp [h1]
  · by_cases h2 : y = x
    · simp [h2]
    · have h3 : ¬ x = y := fun e => h2 e.symm
      simp [h1, h2, h3]
theorem firsts_new {α : Type} [DecidableEq α] (l : List α) {k : Nat} (h : k < l.length) : firsts (l.take (k + 1)) = firsts (l.take k) ++ (if decide (l[k] ∉ l.take k) then [l[k]] else []) := by
  rw [firsts_succ l h]
  unfold addKey
  have hm := mem_firsts (l.take k) l[k]
  by_cases h1 : l[k] ∈ l.take k
  · rw [if_pos (hm.2 h1)]; simp [h1]
  · rw [if_neg (fun e => h1 (hm.1 e))]; simp [h1]
theorem refNames17 (l : List Pk) (w : World) (oa : Option Addr) (n c : Nat) (h : Pks w oa n c l) (hl : l.length ≤ 900) :
    Calls Try.prog 17 #[.slice oa n c] w fun r w' => (∃ o' c', r = .returned (.slice o' (namesOf l).length c') ∧ RStr w' o' (namesOf l).length c' (namesOf l)) ∧ Below w.heap.size w w' := by
  obtain rfl : n = l.length := h.rows.len
  have H := Lib.hid h; have HL := Lib.hid hl; clear h hl
  have hfl : (frms l).length = l.length := by simp [frms]
  have HFL := Lib.hid hfl; clear hfl
  go_enter Try.func17, Try.ntmps17
  go_wp2
  go_loopw [3, 4] (fun v i wr => ∃ k : Nat, k ≤ l.length ∧ i = .int .i64 k ∧ Hid (Own wr w.heap.size 9 1 v (firsts ((frms l).take k)).length ((firsts ((frms l).take k)).flatMap str1)) ∧ Hid (Below w.heap.size w wr)) (fun _ i _ => l.length - (intOf i).toNat)
  case atStart => exact ⟨0, by omega, rfl, Lib.hid (Own.nil _ _ _ _), by (with_reducible try refine Lib.hid ?_); (repeat (with_reducible first | assumption | exact Below.refl _ _ | apply Below.drew | apply Below.drewN' | apply Below.setCell | apply Below.alloc)) <;> (try simp [length_fillTo, length_turnTo]) <;> (try omega)⟩
  case round =>
    obtain ⟨k, hk, rfl, hO, hbel⟩ := hrel
    by_cases hlt : k < l.length
    · have hi1 : (k : Int) < (l.length : Int) := by omega
      have rk : IntKind.i64.wrap ((k : Int) + 1) = ((k + 1 : Nat) : Int) := by
        have h1 := HL.out
        rw [IntKind.wrap_i64]; omega
      have hltf : k < (frms l).length := by rw [HFL.out]; exact hlt
      have HN := Lib.hid (firsts_new (frms l) hltf)
      have hfk : (frms l)[k] = l[k].frm := by simp [frms]
      rw [hfk] at HN
      clear hfk
      have hlen : (firsts ((frms l).take k)).length ≤ 900 := by
        have h1 := firsts_len ((frms l).take k)
        have h2 := HL.out
        simp only [List.length_take] at h1
        omega
      have HLEN := Lib.hid hlen; clear hlen
      obtain ⟨b1, p1, rfl, hb1, g0, -, -⟩ := H.out.rows.pk hlt
      obtain ⟨x, hx⟩ : ∃ x, l[k].frm = x := ⟨_, rfl⟩
      rw [hx] at HN g0
      have G0 := Lib.hid g0; have HX := Lib.hid hx
      clear g0 hx
      obtain ⟨L, hL⟩ : ∃ L, firsts ((frms l).take k) = L := ⟨_, rfl⟩
      rw [hL] at hO HN HLEN
      clear hL
      go_wp2_with fail
      go_loopw [5, 6] (fun b j wx => ∃ i : Nat, i ≤ k ∧ j = .int .i64 i ∧ b = .bool (decide (x ∉ (frms l).take i)) ∧ Hid (Own wx w.heap.size 9 1 u3 L.length (L.flatMap str1)) ∧ Hid (Below w.heap.size w wx)) (fun _ j _ => k - (intOf j).toNat)
      case atStart => exact ⟨0, by omega, rfl, by simp, hO, hbel⟩
      case round =>
        obtain ⟨i, hi, rfl, rfl, hO, hB⟩ := hrel
        by_cases hil : i < k
        · have hi2 : (i : Int) < (k : Int) := by omega
          have hi3 : (i : Int) < (l.length : Int) := by omega
          have hil2 : i < l.length := by omega
          have ri : IntKind.i64.wrap ((i : Int) + 1) = ((i + 1 : Nat) : Int) := by
            have h1 := HL.out
            rw [IntKind.wrap_i64]; omega
          have HT := Lib.hid (not_mem_succ (frms l) x (i := i) (by rw [HFL.out]; exact hil2))
          obtain ⟨b2, p2, e2, hb2, e0, -, -⟩ := H.out.rows.pk hil2
          cases e2
          have hfi : (frms l)[i]'(by rw [HFL.out]; exact hil2) = l[i].frm := by simp [frms]
          rw [hfi] at HT
          obtain ⟨y, hy⟩ : ∃ y, l[i].frm = y := ⟨_, rfl⟩
          rw [hy] at e0 HT
          have E0 := Lib.hid e0
          clear e0 hy hfi hb2
          have hbz : b1 < wr.heap.size := Nat.lt_of_lt_of_le hb1 hB.out.size
          obtain ⟨q, hq⟩ : ∃ q, decide (x ∉ (frms l).take i) = q := ⟨_, rfl⟩
          rw [hq] at HT ⊢
          clear hq
          cases q
          case false =>
            rw [Bool.false_and] at HT
            go_wp2_with fail
            refine wp_region_plan none [] [] (.take 0 (.take 1 (.take 2 (.take 3 (.take 4 (.take 5 (.take 6 (.take 7 (.take 8 (.take 9 (.take 10 (.take 11 (.take 12 (.take 13 (.take 14 .done))))))))))))))) (by kernel_rfl) (by kernel_rfl) (fun _ _ dd _ _ h => by cases dd <;> exact h) ?_
            intro W0 hW0
            have hbW : Below w.heap.size w W0 := by rw [hW0]; exact hB.out.drew
            have f0 := (hbW.cell (p := ⟨b1, p1 + i * 3, none⟩) hb1).trans E0.out
            have g0 := (hbW.cell (p := ⟨b1, p1 + k * 3, none⟩) hb1).trans G0.out
            have hO0 : Own W0 w.heap.size 9 1 u3 L.length (L.flatMap str1) := by rw [hW0]; exact hO.out.drew
            clear hW0
            (refine pl_take (d := 18) (v := ?_) rfl rfl rfl ?_ ?_; rotate_left; (focus ((intro w' hb0 hw'; go_simp) <;> with_reducible rfl)); simp only [Act.put, List.setIfInBounds_toArray, List.set_cons_zero, List.set_cons_succ])
            (refine pl_take (d := 19) (v := ?_) rfl rfl rfl ?_ ?_; rotate_left; (focus ((intro w' hb0 hw'; go_simp) <;> with_reducible rfl)); simp only [Act.put, List.setIfInBounds_toArray, List.set_cons_zero, List.set_cons_succ])
            (refine pl_skip (d := 20) rfl rfl rfl ?_; simp only [Act.put, List.setIfInBounds_toArray, List.set_cons_zero, List.set_cons_succ])
            (refine pl_skip (d := 21) rfl rfl rfl ?_; simp only [Act.put, List.setIfInBounds_toArray, List.set_cons_zero, List.set_cons_succ])
            (refine pl_skip (d := 22) rfl rfl rfl ?_; simp only [Act.put, List.setIfInBounds_toArray, List.set_cons_zero, List.set_cons_succ])
            (refine pl_skip (d := 23) rfl rfl rfl ?_; simp only [Act.put, List.setIfInBounds_toArray, List.set_cons_zero, List.set_cons_succ])
            (refine pl_skip (d := 24) rfl rfl rfl ?_; simp only [Act.put, List.setIfInBounds_toArray, List.set_cons_zero, List.set_cons_succ])
            (refine pl_skip (d := 25) rfl rfl rfl ?_; simp only [Act.put, List.setIfInBounds_toArray, List.set_cons_zero, List.set_cons_succ])
            (refine pl_skip (d := 26) rfl rfl rfl ?_; simp only [Act.put, List.setIfInBounds_toArray, List.set_cons_zero, List.set_cons_succ])
            (refine pl_skip (d := 27) rfl rfl rfl ?_; simp only [Act.put, List.setIfInBounds_toArray, List.set_cons_zero, List.set_cons_succ])
            (refine pl_skip (d := 28) rfl rfl rfl ?_; simp only [Act.put, List.setIfInBounds_toArray, List.set_cons_zero, List.set_cons_succ])
            (refine pl_skip (d := 29) rfl rfl rfl ?_; simp only [Act.put, List.setIfInBounds_toArray, List.set_cons_zero, List.set_cons_succ])
            (refine pl_skip (d := 30) rfl rfl rfl ?_; simp only [Act.put, List.setIfInBounds_toArray, List.set_cons_zero, List.set_cons_succ])
            (refine pl_take (d := 31) (v := ?_) rfl rfl rfl ?_ ?_; rotate_left; (focus ((intro w' hb0 hw'; go_simp) <;> with_reducible rfl)); simp only [Act.put, List.setIfInBounds_toArray, List.set_cons_zero, List.set_cons_succ])
            (refine pl_take (d := 5) (v := ?_) rfl rfl rfl ?_ ?_; rotate_left; (focus ((intro w' hb0 hw'; go_simp) <;> with_reducible rfl)); simp only [Act.put, List.setIfInBounds_toArray, List.set_cons_zero, List.set_cons_succ])
            refine pl_end ?_
            go_wp2_with fail
            refine ⟨?_, ?_⟩
            · exact ⟨i + 1, by omega, rfl, by rw [HT.out], Lib.hid hO0, Lib.hid hbW⟩
            · (simp [intOf]) <;> omega
          case true =>
            rw [Bool.true_and] at HT
            by_cases he : y = x
            · rw [decide_eq_false (p := y ≠ x) (by simpa using he)] at HT
              have heq : (y.toList == x.toList) = true := by rw [strbeq, he]; simp
              clear he
              go_wp2_with fail
              refine wp_region_plan none [] [] (.take 0 (.take 1 (.take 2 (.take 3 (.take 4 (.take 5 (.take 6 (.take 7 (.take 8 (.take 9 (.take 10 (.take 11 (.take 12 (.take 13 (.take 14 .done))))))))))))))) (by kernel_rfl) (by kernel_rfl) (fun _ _ dd _ _ h => by cases dd <;> exact h) ?_
              intro W0 hW0
              have hbW : Below w.heap.size w W0 := by rw [hW0]; exact hB.out.drew
              have f0 := (hbW.cell (p := ⟨b1, p1 + i * 3, none⟩) hb1).trans E0.out
              have g0 := (hbW.cell (p := ⟨b1, p1 + k * 3, none⟩) hb1).trans G0.out
              have hO0 : Own W0 w.heap.size 9 1 u3 L.length (L.flatMap str1) := by rw [hW0]; exact hO.out.drew
              clear hW0
              (refine pl_take (d := 18) (v := ?_) rfl rfl rfl ?_ ?_; rotate_left; (focus ((intro w' hb0 hw'; go_simp) <;> with_reducible rfl)); simp only [Act.put, List.setIfInBounds_toArray, List.set_cons_zero, List.set_cons_succ])
              (refine pl_take (d := 19) (v := ?_) rfl rfl rfl ?_ ?_; rotate_left; (focus ((intro w' hb0 hw'; go_simp) <;> with_reducible rfl)); simp only [Act.put, List.setIfInBounds_toArray, List.set_cons_zero, List.set_cons_succ])
              (refine pl_take (d := 20) (v := ?_) rfl rfl rfl ?_ ?_; rotate_left; (focus ((intro w' hb0 hw'; go_simp) <;> with_reducible rfl)); simp only [Act.put, List.setIfInBounds_toArray, List.set_cons_zero, List.set_cons_succ])
              (refine pl_take (d := 21) (v := ?_) rfl rfl rfl ?_ ?_; rotate_left; (focus ((intro w' hb0 hw'; go_simp) <;> with_reducible rfl)); simp only [Act.put, List.setIfInBounds_toArray, List.set_cons_zero, List.set_cons_succ])
              (refine pl_take (d := 22) (v := ?_) rfl rfl rfl ?_ ?_; rotate_left; (focus ((intro w' hb0 hw'; go_simp) <;> with_reducible rfl)); simp only [Act.put, List.setIfInBounds_toArray, List.set_cons_zero, List.set_cons_succ])
              (refine pl_take (d := 23) (v := ?_) rfl rfl rfl ?_ ?_; rotate_left; (focus ((intro w' hb0 hw'; go_simp) <;> with_reducible rfl)); simp only [Act.put, List.setIfInBounds_toArray, List.set_cons_zero, List.set_cons_succ])
              (refine pl_take (d := 24) (v := ?_) rfl rfl rfl ?_ ?_; rotate_left; (focus ((intro w' hb0 hw'; have c := cell_later f0 hw'; go_simp) <;> with_reducible rfl)); simp only [Act.put, List.setIfInBounds_toArray, List.set_cons_zero, List.set_cons_succ])
              (refine pl_take (d := 25) (v := ?_) rfl rfl rfl ?_ ?_; rotate_left; (focus ((intro w' hb0 hw'; go_simp) <;> with_reducible rfl)); simp only [Act.put, List.setIfInBounds_toArray, List.set_cons_zero, List.set_cons_succ])
              (refine pl_take (d := 26) (v := ?_) rfl rfl rfl ?_ ?_; rotate_left; (focus ((intro w' hb0 hw'; go_simp) <;> with_reducible rfl)); simp only [Act.put, List.setIfInBounds_toArray, List.set_cons_zero, List.set_cons_succ])
              (refine pl_take (d := 27) (v := ?_) rfl rfl rfl ?_ ?_; rotate_left; (focus ((intro w' hb0 hw'; go_simp) <;> with_reducible rfl)); simp only [Act.put, List.setIfInBounds_toArray, List.set_cons_zero, List.set_cons_succ])
              (refine pl_take (d := 28) (v := ?_) rfl rfl rfl ?_ ?_; rotate_left; (focus ((intro w' hb0 hw'; go_simp) <;> with_reducible rfl)); simp only [Act.put, List.setIfInBounds_toArray, List.set_cons_zero, List.set_cons_succ])
              (refine pl_take (d := 29) (v := ?_) rfl rfl rfl ?_ ?_; rotate_left; (focus ((intro w' hb0 hw'; have c := cell_later g0 hw'; go_simp) <;> with_reducible rfl)); simp only [Act.put, List.setIfInBounds_toArray, List.set_cons_zero, List.set_cons_succ])
              refine pl_take (d := 30) (v := .bool false) rfl rfl rfl ?_ ?_
              · intro w' hb0 hw'
                have hs := heq
                go_simp
              simp only [Act.put, List.setIfInBounds_toArray, List.set_cons_zero, List.set_cons_succ]
              (refine pl_take (d := 31) (v := ?_) rfl rfl rfl ?_ ?_; rotate_left; (focus ((intro w' hb0 hw'; go_simp) <;> with_reducible rfl)); simp only [Act.put, List.setIfInBounds_toArray, List.set_cons_zero, List.set_cons_succ])
              (refine pl_take (d := 5) (v := ?_) rfl rfl rfl ?_ ?_; rotate_left; (focus ((intro w' hb0 hw'; go_simp) <;> with_reducible rfl)); simp only [Act.put, List.setIfInBounds_toArray, List.set_cons_zero, List.set_cons_succ])
              refine pl_end ?_
              go_wp2_with fail
              refine ⟨?_, ?_⟩
              · exact ⟨i + 1, by omega, rfl, by rw [HT.out], Lib.hid hO0, Lib.hid hbW⟩
              · (simp [intOf]) <;> omega
            · rw [decide_eq_true (p := y ≠ x) he] at HT
              have hne := strne he
              clear he
              go_wp2_with fail
              refine wp_region_plan none [] [] (.take 0 (.take 1 (.take 2 (.take 3 (.take 4 (.take 5 (.take 6 (.take 7 (.take 8 (.take 9 (.take 10 (.take 11 (.take 12 (.take 13 (.take 14 .done))))))))))))))) (by kernel_rfl) (by kernel_rfl) (fun _ _ dd _ _ h => by cases dd <;> exact h) ?_
              intro W0 hW0
              have hbW : Below w.heap.size w W0 := by rw [hW0]; exact hB.out.drew
              have f0 := (hbW.cell (p := ⟨b1, p1 + i * 3, none⟩) hb1).trans E0.out
              have g0 := (hbW.cell (p := ⟨b1, p1 + k * 3, none⟩) hb1).trans G0.out
              have hO0 : Own W0 w.heap.size 9 1 u3 L.length (L.flatMap str1) := by rw [hW0]; exact hO.out.drew
              clear hW0
              (refine pl_take (d := 18) (v := ?_) rfl rfl rfl ?_ ?_; rotate_left; (focus ((intro w' hb0 hw'; go_simp) <;> with_reducible rfl)); simp only [Act.put, List.setIfInBounds_toArray, List.set_cons_zero, List.set_cons_succ])
              (refine pl_take (d := 19) (v := ?_) rfl rfl rfl ?_ ?_; rotate_left; (focus ((intro w' hb0 hw'; go_simp) <;> with_reducible rfl)); simp only [Act.put, List.setIfInBounds_toArray, List.set_cons_zero, List.set_cons_succ])
              (refine pl_take (d := 20) (v := ?_) rfl rfl rfl ?_ ?_; rotate_left; (focus ((intro w' hb0 hw'; go_simp) <;> with_reducible rfl)); simp only [Act.put, List.setIfInBounds_toArray, List.set_cons_zero, List.set_cons_succ])
              (refine pl_take (d := 21) (v := ?_) rfl rfl rfl ?_ ?_; rotate_left; (focus ((intro w' hb0 hw'; go_simp) <;> with_reducible rfl)); simp only [Act.put, List.setIfInBounds_toArray, List.set_cons_zero, List.set_cons_succ])
              (refine pl_take (d := 22) (v := ?_) rfl rfl rfl ?_ ?_; rotate_left; (focus ((intro w' hb0 hw'; go_simp) <;> with_reducible rfl)); simp only [Act.put, List.setIfInBounds_toArray, List.set_cons_zero, List.set_cons_succ])
              (refine pl_take (d := 23) (v := ?_) rfl rfl rfl ?_ ?_; rotate_left; (focus ((intro w' hb0 hw'; go_simp) <;> with_reducible rfl)); simp only [Act.put, List.setIfInBounds_toArray, List.set_cons_zero, List.set_cons_succ])
              (refine pl_take (d := 24) (v := ?_) rfl rfl rfl ?_ ?_; rotate_left; (focus ((intro w' hb0 hw'; have c := cell_later f0 hw'; go_simp) <;> with_reducible rfl)); simp only [Act.put, List.setIfInBounds_toArray, List.set_cons_zero, List.set_cons_succ])
              (refine pl_take (d := 25) (v := ?_) rfl rfl rfl ?_ ?_; rotate_left; (focus ((intro w' hb0 hw'; go_simp) <;> with_reducible rfl)); simp only [Act.put, List.setIfInBounds_toArray, List.set_cons_zero, List.set_cons_succ])
              (refine pl_take (d := 26) (v := ?_) rfl rfl rfl ?_ ?_; rotate_left; (focus ((intro w' hb0 hw'; go_simp) <;> with_reducible rfl)); simp only [Act.put, List.setIfInBounds_toArray, List.set_cons_zero, List.set_cons_succ])
              (refine pl_take (d := 27) (v := ?_) rfl rfl rfl ?_ ?_; rotate_left; (focus ((intro w' hb0 hw'; go_simp) <;> with_reducible rfl)); simp only [Act.put, List.setIfInBounds_toArray, List.set_cons_zero, List.set_cons_succ])
              (refine pl_take (d := 28) (v := ?_) rfl rfl rfl ?_ ?_; rotate_left; (focus ((intro w' hb0 hw'; go_simp) <;> with_reducible rfl)); simp only [Act.put, List.setIfInBounds_toArray, List.set_cons_zero, List.set_cons_succ])
              (refine pl_take (d := 29) (v := ?_) rfl rfl rfl ?_ ?_; rotate_left; (focus ((intro w' hb0 hw'; have c := cell_later g0 hw'; go_simp) <;> with_reducible rfl)); simp only [Act.put, List.setIfInBounds_toArray, List.set_cons_zero, List.set_cons_succ])
              refine pl_take (d := 30) (v := .bool true) rfl rfl rfl ?_ ?_
              · intro w' hb0 hw'
                have hs := hne
                go_simp
              simp only [Act.put, List.setIfInBounds_toArray, List.set_cons_zero, List.set_cons_succ]
              (refine pl_take (d := 31) (v := ?_) rfl rfl rfl ?_ ?_; rotate_left; (focus ((intro w' hb0 hw'; go_simp) <;> with_reducible rfl)); simp only [Act.put, List.setIfInBounds_toArray, List.set_cons_zero, List.set_cons_succ])
              (refine pl_take (d := 5) (v := ?_) rfl rfl rfl ?_ ?_; rotate_left; (focus ((intro w' hb0 hw'; go_simp) <;> with_reducible rfl)); simp only [Act.put, List.setIfInBounds_toArray, List.set_cons_zero, List.set_cons_succ])
              refine pl_end ?_
              go_wp2_with fail
              refine ⟨?_, ?_⟩
              · exact ⟨i + 1, by omega, rfl, by rw [HT.out], Lib.hid hO0, Lib.hid hbW⟩
              · (simp [intOf]) <;> omega
        · obtain rfl : i = k := by omega
          obtain ⟨q, hq⟩ : ∃ q, decide (x ∉ (frms l).take i) = q := ⟨_, rfl⟩
          rw [hq] at HN ⊢
          clear hq
          cases q
          case false =>
            go_wp2_with fail
            refine ⟨?_, ?_⟩
            · exact ⟨i + 1, by omega, rfl, Lib.hid (by rw [HN.out]; simpa using hO.out), hB⟩
            · (simp [intOf]) <;> omega
          case true =>
            have e0 := (hB.out.cell (p := ⟨b1, p1 + i * 3, none⟩) hb1).trans G0.out
            have hbz : b1 < wr.heap.size := Nat.lt_of_lt_of_le hb1 hB.out.size
            have hN3 : Blk (wr.alloc (.cells [Value.string x].toArray 9)) wr.heap.size [Value.string x] := Blk.new' rfl
            have hal2 : Below wr.heap.size wr (wr.alloc (.cells [Value.string x].toArray 9)) := (Below.refl _ _).alloc (Nat.le_refl _) _
            have hO3 := hO.out.later hal2
            have hB3 := below_step hB.out hal2
            have HN3 := Lib.hid hN3; have HO3 := Lib.hid hO3; have HB3 := Lib.hid hB3
            clear hN3 hal2 hO3 hB3 hO hB
            go_wp2_with (refine stop_append rfl ?_)
            have hlen := HLEN.out
            refine ⟨wpList_app el27 rfl (by rfl) (by rfl) HO3.out (by rfl) (m := 1) rfl HN3.out.cells (by simp [Value.oneCell']) (by simp [maxLen]; omega) (by omega) HB3.out.size ?_⟩
            intro v4 W4 hO4 hg4
            have hb4 := HO3.out.below hg4 HB3.out (Nat.le_refl _) HB3.out.size
            have HO4 := Lib.hid hO4; have HB4 := Lib.hid hb4
            clear hO4 hg4 hb4 hlen HO3 HN3 HB3 e0
            go_wp2_with fail
            refine ⟨?_, ?_⟩
            · exact ⟨i + 1, by omega, rfl, Lib.hid (by rw [HN.out]; simpa [str1] using HO4.out), HB4⟩
            · (simp [intOf]) <;> omega
    · obtain rfl : k = l.length := by omega
      have hf : (frms l).take l.length = frms l := by rw [← HFL.out, List.take_length]
      rw [hf] at hO
      obtain ⟨o', c', rfl, hR⟩ := Own.rws hO.out rfl
      have HR := Lib.hid hR; have HB := hbel; clear hR hbel hO
      go_wp2
      refine bodyPost_ret (v := .slice o' (namesOf l).length c') (by simp [results, Try.results17, go_sem, namesOf]) rfl ⟨⟨o', c', rfl, HR.out⟩, HB.out⟩
end Go.Proofs.Ythobmcpilfalgaa
