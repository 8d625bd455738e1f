/-
  Walk: whether sessions are the same.
-/
import Derived.Test.YtmfglppgpjplfaaWg
namespace Go.Proofs.Ytmfglppgpjplfaa
open Go.RowKit Go.Proofs.Ytmfglppgpjplfaa.Plan Go.Proofs.Ytmfglppgpjplfaa.Eager
set_option maxHeartbeats 2000000
set_option maxRecDepth 20000
set_option linter.unusedVariables false
set_option linter.unusedSimpArgs false

theorem run_binOp {P : Program} {a : Act} {w : World} {o : Oper} {k : BinOp} {ty u : TypeId} {x y : Operand} {vx vy v : Value} (ho : o.op = .binOp k ty x y u) (hx : a.eval x = vx) (hy : a.eval y = vy)
    (hg : (eqGuard k ty x y vx vy).run P w = .ok () w) (h : (binOp k ty vx vy).run P w = .ok v w) : (execOp a.eval o).run P w = .ok (.value v) w := by
  unfold execOp
  simp only [ho, hx, hy]
  simp only [Sem.run_bind, hg, h, Result.andThen_ok, Sem.run_pure]
theorem guard30 (k : BinOp) (x y : Operand) (xs ys : Array Value) (w : World) : (eqGuard k 30 x y (.agg xs) (.agg ys)).run Try.prog w = .ok () w := by
  have hf : Try.prog.eqGuardType Try.prog.depth 30 = false := by kernel_rfl
  exact run_eqGuard_agg w k 30 x y xs ys hf
theorem list_ne {α : Type} {a b : List α} {k : Nat} (h1 : k < a.length) (h2 : k < b.length) (h : a[k] ≠ b[k]) : a ≠ b := by
  rintro rfl; exact h rfl
theorem take_eq {α : Type} {a b : List α} {k : Nat} (h1 : k < a.length) (h2 : k < b.length) (h : a[k] = b[k]) (ht : a.take k = b.take k) : a.take (k + 1) = b.take (k + 1) := by
  rw [List.take_succ_eq_append_getElem h1, List.take_succ_eq_append_getElem h2, ht, h]
theorem same12 (a b : List Ses) (w : World) (o1 o2 : Option Addr) (n1 n2 c1 c2 : Nat) (h1 : RSes w o1 n1 c1 a) (h2 : RSes w o2 n2 c2 b) (wa : ∀ s ∈ a, s.Wf) (wb : ∀ s ∈ b, s.Wf) :
    Calls Try.prog 12 #[.slice o1 n1 c1, .slice o2 n2 c2] w fun r w' => r = .returned (.bool (decide (a = b))) ∧ Below w.heap.size w w' := by
  obtain rfl : n1 = a.length := h1.rows.len
  obtain rfl : n2 = b.length := h2.rows.len
  have H1 := Lib.hid h1; have H2 := Lib.hid h2; have WA := Lib.hid wa; have WB := Lib.hid wb; clear h1 h2 wa wb
  by_cases hlen : a.length = b.length
  · have hlen' : (a.length : Int) = (b.length : Int) := by omega
    have HLEN := Lib.hid hlen
    go_enter Try.func12, Try.ntmps12
    go_wp2
    clear hlen hlen'
    go_loopw [5] (fun u wr => ∃ i : Nat, i ≤ a.length ∧ u = .int .i64 i ∧ Hid (a.take i = b.take i) ∧ Hid (Below w.heap.size w wr)) (fun u _ => a.length - (intOf u).toNat)
    case atStart => exact ⟨0, by omega, rfl, Lib.hid rfl, by (with_reducible try refine Lib.hid ?_); (repeat (with_reducible first | assumption | exact Below.refl _ _ | apply Below.drew | apply Below.drewN' | apply Below.setCell | apply Below.alloc)) <;> (try simp [length_fillTo, length_turnTo]) <;> (try omega)⟩
    case round =>
      obtain ⟨i, hk, rfl, hS, hbel⟩ := hrel
      by_cases hlt : i < a.length
      · have hlt2 : i < b.length := by have := HLEN.out; omega
        have hi1 : (i : Int) < (a.length : Int) := by omega
        have hi2 : (i : Int) < (b.length : Int) := by omega
        have rk : IntKind.i64.wrap ((i : Int) + 1) = ((i + 1 : Nat) : Int) := by
          have h1 := H1.out.le; have h2 := H1.out.cap
          simp only [maxLen] at h2
          rw [IntKind.wrap_i64]; omega
        obtain ⟨b1, p1, rfl, hA⟩ := H1.out.rows.ses hlt
        obtain ⟨b2, p2, rfl, hD⟩ := H2.out.rows.ses hlt2
        have HN : Hid (a[i] ≠ b[i] → decide (a = b) = false) := fun h => decide_eq_false (list_ne hlt hlt2 h)
        have HT : Hid (a[i] = b[i] → a.take (i + 1) = b.take (i + 1)) := fun h => take_eq hlt hlt2 h hS.out
        have HWS := Lib.hid (WA.out _ (List.getElem_mem hlt)); have HWT := Lib.hid (WB.out _ (List.getElem_mem hlt2))
        obtain ⟨s, hs⟩ : ∃ q, a[i] = q := ⟨_, rfl⟩
        obtain ⟨t, ht⟩ : ∃ q, b[i] = q := ⟨_, rfl⟩
        rw [hs] at hA HN HT HWS; rw [ht] at hD HN HT HWT
        have HA := Lib.hid hA; have HD := Lib.hid hD
        clear hs ht hA hD
        obtain ⟨wA, rfl⟩ : ∃ x, x = wr := ⟨_, rfl⟩
        by_cases hq : s = t
        · have HT3 := Lib.hid (HT.out hq)
          have HEQ := Lib.hid hq
          clear HT HN hq
          go_wp2
          refine wp_region_plan none [] [] (.take 0 (.take 1 (.take 2 (.take 3 (.take 4 (.take 5 (.take 6 (.take 7 (.take 8 .done))))))))) (by kernel_rfl) (by kernel_rfl) (fun _ _ dd _ _ h => by cases dd <;> exact h) ?_
          intro W0 hW0
          have hbW : Below w.heap.size w W0 := by rw [hW0]; exact hbel.out.drew
          have f0 := HA.out.later (below_step hbel.out (below_drew wA))
          have g0 := HD.out.later (below_step hbel.out (below_drew wA))
          rw [← hW0] at f0 g0
          clear hW0
          (refine pl_take (d := 17) (v := ?_) rfl rfl rfl ?_ ?_; rotate_left; (focus ((intro w' hb0 hw'; go_simp) <;> with_reducible rfl)); simp only [Act.put, List.setIfInBounds_toArray, List.set_cons_zero, List.set_cons_succ])
          (refine pl_take (d := 18) (v := ?_) rfl rfl rfl ?_ ?_; rotate_left; (focus ((intro w' hb0 hw'; go_simp) <;> with_reducible rfl)); simp only [Act.put, List.setIfInBounds_toArray, List.set_cons_zero, List.set_cons_succ])
          (refine pl_take (d := 19) (v := ?_) rfl rfl rfl ?_ ?_; rotate_left; (focus ((intro w' hb0 hw'; go_simp) <;> with_reducible rfl)); simp only [Act.put, List.setIfInBounds_toArray, List.set_cons_zero, List.set_cons_succ])
          refine pl_take (d := 20) (v := .agg s.cells.toArray) rfl rfl rfl ?_ ?_
          · intro w' hb0 hw'
            exact run_load_at rfl (f0.later hw') (by rfl) row30
          simp only [Act.put, List.setIfInBounds_toArray, List.set_cons_zero, List.set_cons_succ]
          (refine pl_take (d := 21) (v := ?_) rfl rfl rfl ?_ ?_; rotate_left; (focus ((intro w' hb0 hw'; go_simp) <;> with_reducible rfl)); simp only [Act.put, List.setIfInBounds_toArray, List.set_cons_zero, List.set_cons_succ])
          (refine pl_take (d := 22) (v := ?_) rfl rfl rfl ?_ ?_; rotate_left; (focus ((intro w' hb0 hw'; go_simp) <;> with_reducible rfl)); simp only [Act.put, List.setIfInBounds_toArray, List.set_cons_zero, List.set_cons_succ])
          (refine pl_take (d := 23) (v := ?_) rfl rfl rfl ?_ ?_; rotate_left; (focus ((intro w' hb0 hw'; go_simp) <;> with_reducible rfl)); simp only [Act.put, List.setIfInBounds_toArray, List.set_cons_zero, List.set_cons_succ])
          refine pl_take (d := 24) (v := .agg t.cells.toArray) rfl rfl rfl ?_ ?_
          · intro w' hb0 hw'
            exact run_load_at rfl (g0.later hw') (by rfl) row30
          simp only [Act.put, List.setIfInBounds_toArray, List.set_cons_zero, List.set_cons_succ]
          refine pl_take (d := 25) (v := .bool false) rfl rfl rfl ?_ ?_
          · intro w' hb0 hw'
            have he := neq30 s t HWS.out HWT.out w'
            rw [decide_eq_true HEQ.out, Bool.not_true] at he
            exact run_binOp rfl (by rfl) (by rfl) (guard30 _ _ _ _ _ _) he
          simp only [Act.put, List.setIfInBounds_toArray, List.set_cons_zero, List.set_cons_succ]
          refine pl_end ?_
          go_wp2_with fail
          go_roundw
          case measure => (simp [intOf]) <;> omega
          case rel => exact ⟨i + 1, by omega, rfl, HT3, Lib.hid hbW⟩
        · have HN3 := Lib.hid (HN.out hq)
          have HNE : Hid (¬ s = t) := hq
          clear HN HT hq
          go_wp2
          refine wp_region_plan none [] [] (.take 0 (.take 1 (.take 2 (.take 3 (.take 4 (.take 5 (.take 6 (.take 7 (.take 8 .done))))))))) (by kernel_rfl) (by kernel_rfl) (fun _ _ dd _ _ h => by cases dd <;> exact h) ?_
          intro W0 hW0
          have hbW : Below w.heap.size w W0 := by rw [hW0]; exact hbel.out.drew
          have f0 := HA.out.later (below_step hbel.out (below_drew wA))
          have g0 := HD.out.later (below_step hbel.out (below_drew wA))
          rw [← hW0] at f0 g0
          clear hW0
          (refine pl_take (d := 17) (v := ?_) rfl rfl rfl ?_ ?_; rotate_left; (focus ((intro w' hb0 hw'; go_simp) <;> with_reducible rfl)); simp only [Act.put, List.setIfInBounds_toArray, List.set_cons_zero, List.set_cons_succ])
          (refine pl_take (d := 18) (v := ?_) rfl rfl rfl ?_ ?_; rotate_left; (focus ((intro w' hb0 hw'; go_simp) <;> with_reducible rfl)); simp only [Act.put, List.setIfInBounds_toArray, List.set_cons_zero, List.set_cons_succ])
          (refine pl_take (d := 19) (v := ?_) rfl rfl rfl ?_ ?_; rotate_left; (focus ((intro w' hb0 hw'; go_simp) <;> with_reducible rfl)); simp only [Act.put, List.setIfInBounds_toArray, List.set_cons_zero, List.set_cons_succ])
          refine pl_take (d := 20) (v := .agg s.cells.toArray) rfl rfl rfl ?_ ?_
          · intro w' hb0 hw'
            exact run_load_at rfl (f0.later hw') (by rfl) row30
          simp only [Act.put, List.setIfInBounds_toArray, List.set_cons_zero, List.set_cons_succ]
          (refine pl_take (d := 21) (v := ?_) rfl rfl rfl ?_ ?_; rotate_left; (focus ((intro w' hb0 hw'; go_simp) <;> with_reducible rfl)); simp only [Act.put, List.setIfInBounds_toArray, List.set_cons_zero, List.set_cons_succ])
          (refine pl_take (d := 22) (v := ?_) rfl rfl rfl ?_ ?_; rotate_left; (focus ((intro w' hb0 hw'; go_simp) <;> with_reducible rfl)); simp only [Act.put, List.setIfInBounds_toArray, List.set_cons_zero, List.set_cons_succ])
          (refine pl_take (d := 23) (v := ?_) rfl rfl rfl ?_ ?_; rotate_left; (focus ((intro w' hb0 hw'; go_simp) <;> with_reducible rfl)); simp only [Act.put, List.setIfInBounds_toArray, List.set_cons_zero, List.set_cons_succ])
          refine pl_take (d := 24) (v := .agg t.cells.toArray) rfl rfl rfl ?_ ?_
          · intro w' hb0 hw'
            exact run_load_at rfl (g0.later hw') (by rfl) row30
          simp only [Act.put, List.setIfInBounds_toArray, List.set_cons_zero, List.set_cons_succ]
          refine pl_take (d := 25) (v := .bool true) rfl rfl rfl ?_ ?_
          · intro w' hb0 hw'
            have he := neq30 s t HWS.out HWT.out w'
            rw [decide_eq_false HNE.out, Bool.not_false] at he
            exact run_binOp rfl (by rfl) (by rfl) (guard30 _ _ _ _ _ _) he
          simp only [Act.put, List.setIfInBounds_toArray, List.set_cons_zero, List.set_cons_succ]
          refine pl_end ?_
          go_wp2
          refine bodyPost_ret (v := .bool false) (by simp [results, Try.results12, go_sem]) rfl ⟨by rw [HN3.out], hbW⟩
      · obtain rfl : i = a.length := by omega
        have HT : Hid (decide (a = b) = true) := by
          have h := hS.out
          rw [List.take_length, HLEN.out, List.take_length] at h
          exact decide_eq_true h
        have hb1 := hbel.out
        clear hS hbel
        go_wp2
        refine bodyPost_ret (v := .bool true) (by simp [results, Try.results12, go_sem]) rfl ⟨by rw [HT.out], hb1⟩
  · have hlen' : ¬ (a.length : Int) = (b.length : Int) := by omega
    have HN : Hid (decide (a = b) = false) := decide_eq_false (fun e => hlen (congrArg List.length e))
    clear hlen
    go_enter Try.func12, Try.ntmps12
    go_wp2
    refine bodyPost_ret (v := .bool false) (by simp [results, Try.results12, go_sem]) rfl ⟨by rw [HN.out], Below.refl _ _⟩
end Go.Proofs.Ytmfglppgpjplfaa
