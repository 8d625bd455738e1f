/-
  The law's walk: tallies that are added.
-/
import Derived.Test.YthobmcpilfalgaaWj
namespace Go.Proofs.Ythobmcpilfalgaa
open Go.RowKit Go.Proofs.Ythobmcpilfalgaa.Plan Go.Proofs.Ythobmcpilfalgaa.Eager
set_option maxHeartbeats 4000000
set_option maxRecDepth 20000
set_option linter.unusedVariables false
set_option linter.unusedSimpArgs false

theorem tallyAdds4 (x y : Tal) (w : World) : Calls Try.prog 4 #[.agg x.cells.toArray, .agg y.cells.toArray] w fun e w' => e = .returned (.bool true) ∧ Below w.heap.size w w' := by
  have hb0 : Below w.heap.size w ((w.alloc (.cells x.cells.toArray 33)).alloc (.cells y.cells.toArray 33)) := by (with_reducible try refine Lib.hid ?_); (repeat (with_reducible first | assumption | exact Below.refl _ _ | apply Below.drew | apply Below.drewN' | apply Below.setCell | apply Below.alloc)) <;> (try simp [length_fillTo, length_turnTo]) <;> (try omega)
  have hX : Blk ((w.alloc (.cells x.cells.toArray 33)).alloc (.cells y.cells.toArray 33)) w.heap.size x.cells := Blk.alloc (Blk.new' rfl) _
  have hY : Blk ((w.alloc (.cells x.cells.toArray 33)).alloc (.cells y.cells.toArray 33)) (w.heap.size + 1) y.cells := Blk.new' (by simp)
  have HB := Lib.hid hb0; have HX := Lib.hid hX; have HY := Lib.hid hY; clear hb0 hX hY
  go_enter Try.func4, Try.ntmps4
  go_wp2
  refine wp_region_plan none [] [] (.take 0 (.take 1 (.take 3 (.take 4 (.one 2 (.one 5 (.take 6 (.take 7 (.take 8 (.take 10 (.one 9 (.one 11 (.take 12 (.take 13 (.take 14 (.take 15 (.take 16 (.take 18 (.take 19 (.one 17 (.one 20 (.take 21 (.take 22 (.take 23 (.one 24 (.take 25 (.take 26 .done))))))))))))))))))))))))))) (by kernel_rfl) (by kernel_rfl) (fun _ _ dd _ _ h => by cases dd <;> exact h) ?_
  intro W0 hW0
  have hX0 : Blk W0 w.heap.size x.cells := by rw [hW0]; exact HX.out.drew
  have hY0 : Blk W0 (w.heap.size + 1) y.cells := by rw [hW0]; exact HY.out.drew
  have hbW : Below w.heap.size w W0 := by rw [hW0]; exact HB.out.drew
  clear hW0
  (refine pl_take (d := 5) (v := ?_) rfl rfl rfl ?_ ?_; rotate_left; (focus ((intro w' hb0 hw'; have hc := hX0.later hw'; have c0 := hc.at' 0 (by simp [Tal.cells]); have c1 := hc.at' 1 (by simp [Tal.cells]); have c2 := hc.at' 2 (by simp [Tal.cells]); have c3 := hc.at' 3 (by simp [Tal.cells]); have c4 := hc.at' 4 (by simp [Tal.cells]); have c5 := hc.at' 5 (by simp [Tal.cells]); simp only [Tal.cells, List.getElem_cons_succ, List.getElem_cons_zero] at c0 c1 c2 c3 c4 c5; go_simp) <;> with_reducible rfl)); simp only [Act.put, List.setIfInBounds_toArray, List.set_cons_zero, List.set_cons_succ])
  (refine pl_take (d := 6) (v := ?_) rfl rfl rfl ?_ ?_; rotate_left; (focus ((intro w' hb0 hw'; have hc := hY0.later hw'; have c0 := hc.at' 0 (by simp [Tal.cells]); have c1 := hc.at' 1 (by simp [Tal.cells]); have c2 := hc.at' 2 (by simp [Tal.cells]); have c3 := hc.at' 3 (by simp [Tal.cells]); have c4 := hc.at' 4 (by simp [Tal.cells]); have c5 := hc.at' 5 (by simp [Tal.cells]); simp only [Tal.cells, List.getElem_cons_succ, List.getElem_cons_zero] at c0 c1 c2 c3 c4 c5; go_simp) <;> with_reducible rfl)); simp only [Act.put, List.setIfInBounds_toArray, List.set_cons_zero, List.set_cons_succ])
  (refine pl_take (d := 8) (v := ?_) rfl rfl rfl ?_ ?_; rotate_left; (focus ((intro w' hb0 hw'; have hc := hX0.later hw'; have c0 := hc.at' 0 (by simp [Tal.cells]); have c1 := hc.at' 1 (by simp [Tal.cells]); have c2 := hc.at' 2 (by simp [Tal.cells]); have c3 := hc.at' 3 (by simp [Tal.cells]); have c4 := hc.at' 4 (by simp [Tal.cells]); have c5 := hc.at' 5 (by simp [Tal.cells]); simp only [Tal.cells, List.getElem_cons_succ, List.getElem_cons_zero] at c0 c1 c2 c3 c4 c5; go_simp) <;> with_reducible rfl)); simp only [Act.put, List.setIfInBounds_toArray, List.set_cons_zero, List.set_cons_succ])
  (refine pl_take (d := 9) (v := ?_) rfl rfl rfl ?_ ?_; rotate_left; (focus ((intro w' hb0 hw'; have hc := hY0.later hw'; have c0 := hc.at' 0 (by simp [Tal.cells]); have c1 := hc.at' 1 (by simp [Tal.cells]); have c2 := hc.at' 2 (by simp [Tal.cells]); have c3 := hc.at' 3 (by simp [Tal.cells]); have c4 := hc.at' 4 (by simp [Tal.cells]); have c5 := hc.at' 5 (by simp [Tal.cells]); simp only [Tal.cells, List.getElem_cons_succ, List.getElem_cons_zero] at c0 c1 c2 c3 c4 c5; go_simp) <;> with_reducible rfl)); simp only [Act.put, List.setIfInBounds_toArray, List.set_cons_zero, List.set_cons_succ])
  refine pl_one rfl rfl (fun K hK => ?_)
  go_simp
  refine (add19 x y W0).mono ?_
  rintro r W1 ⟨rfl, hbk⟩
  refine hK _ _ (hbk : Rel none W0 W1) ?_
  clear hK
  replace hX0 := hX0.later hbk; replace hY0 := hY0.later hbk; replace hbW := below_step hbW hbk
  clear hbk
  refine pl_one rfl rfl (fun K hK => ?_)
  go_simp
  refine (refAdd20 x y W1).mono ?_
  rintro r W2 ⟨rfl, hbk⟩
  refine hK _ _ (hbk : Rel none W1 W2) ?_
  clear hK
  replace hX0 := hX0.later hbk; replace hY0 := hY0.later hbk; replace hbW := below_step hbW hbk
  clear hbk
  refine pl_take (d := 11) (v := .bool true) rfl rfl rfl ?_ ?_
  · intro w' hb0 hw'
    simp only [Tal.cells]
    go_simp
  simp only [Act.put, List.setIfInBounds_toArray, List.set_cons_zero, List.set_cons_succ]
  (refine pl_take (d := 12) (v := ?_) rfl rfl rfl ?_ ?_; rotate_left; (focus ((intro w' hb0 hw'; go_simp) <;> with_reducible rfl)); simp only [Act.put, List.setIfInBounds_toArray, List.set_cons_zero, List.set_cons_succ])
  (refine pl_take (d := 13) (v := ?_) rfl rfl rfl ?_ ?_; rotate_left; (focus ((intro w' hb0 hw'; have hc := hX0.later hw'; have c0 := hc.at' 0 (by simp [Tal.cells]); have c1 := hc.at' 1 (by simp [Tal.cells]); have c2 := hc.at' 2 (by simp [Tal.cells]); have c3 := hc.at' 3 (by simp [Tal.cells]); have c4 := hc.at' 4 (by simp [Tal.cells]); have c5 := hc.at' 5 (by simp [Tal.cells]); simp only [Tal.cells, List.getElem_cons_succ, List.getElem_cons_zero] at c0 c1 c2 c3 c4 c5; go_simp) <;> with_reducible rfl)); simp only [Act.put, List.setIfInBounds_toArray, List.set_cons_zero, List.set_cons_succ])
  (refine pl_take (d := 15) (v := ?_) rfl rfl rfl ?_ ?_; rotate_left; (focus ((intro w' hb0 hw'; have hc := hX0.later hw'; have c0 := hc.at' 0 (by simp [Tal.cells]); have c1 := hc.at' 1 (by simp [Tal.cells]); have c2 := hc.at' 2 (by simp [Tal.cells]); have c3 := hc.at' 3 (by simp [Tal.cells]); have c4 := hc.at' 4 (by simp [Tal.cells]); have c5 := hc.at' 5 (by simp [Tal.cells]); simp only [Tal.cells, List.getElem_cons_succ, List.getElem_cons_zero] at c0 c1 c2 c3 c4 c5; go_simp) <;> with_reducible rfl)); simp only [Act.put, List.setIfInBounds_toArray, List.set_cons_zero, List.set_cons_succ])
  refine pl_one rfl rfl (fun K hK => ?_)
  go_simp
  refine (packets21 x W2).mono ?_
  rintro r W3 ⟨rfl, hbk⟩
  refine hK _ _ (hbk : Rel none W2 W3) ?_
  clear hK
  replace hX0 := hX0.later hbk; replace hY0 := hY0.later hbk; replace hbW := below_step hbW hbk
  clear hbk
  refine pl_one rfl rfl (fun K hK => ?_)
  go_simp
  refine (refPackets22 x W3).mono ?_
  rintro r W4 ⟨rfl, hbk⟩
  refine hK _ _ (hbk : Rel none W3 W4) ?_
  clear hK
  replace hX0 := hX0.later hbk; replace hY0 := hY0.later hbk; replace hbW := below_step hbW hbk
  clear hbk
  refine pl_take (d := 17) (v := .bool true) rfl rfl rfl ?_ ?_
  · intro w' hb0 hw'
    go_simp
  simp only [Act.put, List.setIfInBounds_toArray, List.set_cons_zero, List.set_cons_succ]
  (refine pl_take (d := 18) (v := ?_) rfl rfl rfl ?_ ?_; rotate_left; (focus ((intro w' hb0 hw'; go_simp) <;> with_reducible rfl)); simp only [Act.put, List.setIfInBounds_toArray, List.set_cons_zero, List.set_cons_succ])
  (refine pl_take (d := 19) (v := ?_) rfl rfl rfl ?_ ?_; rotate_left; (focus ((intro w' hb0 hw'; go_simp) <;> with_reducible rfl)); simp only [Act.put, List.setIfInBounds_toArray, List.set_cons_zero, List.set_cons_succ])
  (refine pl_take (d := 20) (v := ?_) rfl rfl rfl ?_ ?_; rotate_left; (focus ((intro w' hb0 hw'; have hc := hX0.later hw'; have c0 := hc.at' 0 (by simp [Tal.cells]); have c1 := hc.at' 1 (by simp [Tal.cells]); have c2 := hc.at' 2 (by simp [Tal.cells]); have c3 := hc.at' 3 (by simp [Tal.cells]); have c4 := hc.at' 4 (by simp [Tal.cells]); have c5 := hc.at' 5 (by simp [Tal.cells]); simp only [Tal.cells, List.getElem_cons_succ, List.getElem_cons_zero] at c0 c1 c2 c3 c4 c5; go_simp) <;> with_reducible rfl)); simp only [Act.put, List.setIfInBounds_toArray, List.set_cons_zero, List.set_cons_succ])
  (refine pl_take (d := 21) (v := ?_) rfl rfl rfl ?_ ?_; rotate_left; (focus ((intro w' hb0 hw'; have hc := hY0.later hw'; have c0 := hc.at' 0 (by simp [Tal.cells]); have c1 := hc.at' 1 (by simp [Tal.cells]); have c2 := hc.at' 2 (by simp [Tal.cells]); have c3 := hc.at' 3 (by simp [Tal.cells]); have c4 := hc.at' 4 (by simp [Tal.cells]); have c5 := hc.at' 5 (by simp [Tal.cells]); simp only [Tal.cells, List.getElem_cons_succ, List.getElem_cons_zero] at c0 c1 c2 c3 c4 c5; go_simp) <;> with_reducible rfl)); simp only [Act.put, List.setIfInBounds_toArray, List.set_cons_zero, List.set_cons_succ])
  (refine pl_take (d := 23) (v := ?_) rfl rfl rfl ?_ ?_; rotate_left; (focus ((intro w' hb0 hw'; have hc := hX0.later hw'; have c0 := hc.at' 0 (by simp [Tal.cells]); have c1 := hc.at' 1 (by simp [Tal.cells]); have c2 := hc.at' 2 (by simp [Tal.cells]); have c3 := hc.at' 3 (by simp [Tal.cells]); have c4 := hc.at' 4 (by simp [Tal.cells]); have c5 := hc.at' 5 (by simp [Tal.cells]); simp only [Tal.cells, List.getElem_cons_succ, List.getElem_cons_zero] at c0 c1 c2 c3 c4 c5; go_simp) <;> with_reducible rfl)); simp only [Act.put, List.setIfInBounds_toArray, List.set_cons_zero, List.set_cons_succ])
  (refine pl_take (d := 24) (v := ?_) rfl rfl rfl ?_ ?_; rotate_left; (focus ((intro w' hb0 hw'; have hc := hY0.later hw'; have c0 := hc.at' 0 (by simp [Tal.cells]); have c1 := hc.at' 1 (by simp [Tal.cells]); have c2 := hc.at' 2 (by simp [Tal.cells]); have c3 := hc.at' 3 (by simp [Tal.cells]); have c4 := hc.at' 4 (by simp [Tal.cells]); have c5 := hc.at' 5 (by simp [Tal.cells]); simp only [Tal.cells, List.getElem_cons_succ, List.getElem_cons_zero] at c0 c1 c2 c3 c4 c5; go_simp) <;> with_reducible rfl)); simp only [Act.put, List.setIfInBounds_toArray, List.set_cons_zero, List.set_cons_succ])
  refine pl_one rfl rfl (fun K hK => ?_)
  go_simp
  refine (share23 x y W4).mono ?_
  rintro r W5 ⟨rfl, hbk⟩
  refine hK _ _ (hbk : Rel none W4 W5) ?_
  clear hK
  replace hX0 := hX0.later hbk; replace hY0 := hY0.later hbk; replace hbW := below_step hbW hbk
  clear hbk
  refine pl_one rfl rfl (fun K hK => ?_)
  go_simp
  refine (refShare24 x y W5).mono ?_
  rintro r W6 ⟨rfl, hbk⟩
  refine hK _ _ (hbk : Rel none W5 W6) ?_
  clear hK
  replace hX0 := hX0.later hbk; replace hY0 := hY0.later hbk; replace hbW := below_step hbW hbk
  clear hbk
  refine pl_take (d := 26) (v := .bool true) rfl rfl rfl ?_ ?_
  · intro w' hb0 hw'
    go_simp
  simp only [Act.put, List.setIfInBounds_toArray, List.set_cons_zero, List.set_cons_succ]
  (refine pl_take (d := 27) (v := ?_) rfl rfl rfl ?_ ?_; rotate_left; (focus ((intro w' hb0 hw'; go_simp) <;> with_reducible rfl)); simp only [Act.put, List.setIfInBounds_toArray, List.set_cons_zero, List.set_cons_succ])
  (refine pl_take (d := 28) (v := ?_) rfl rfl rfl ?_ ?_; rotate_left; (focus ((intro w' hb0 hw'; go_simp) <;> with_reducible rfl)); simp only [Act.put, List.setIfInBounds_toArray, List.set_cons_zero, List.set_cons_succ])
  refine pl_one rfl rfl (fun K hK => ?_)
  go_simp
  refine (works7 W6).mono ?_
  rintro r W7 ⟨rfl, hbk⟩
  refine hK _ _ (hbk : Rel none W6 W7) ?_
  clear hK
  replace hX0 := hX0.later hbk; replace hY0 := hY0.later hbk; replace hbW := below_step hbW hbk
  clear hbk
  (refine pl_take (d := 30) (v := ?_) rfl rfl rfl ?_ ?_; rotate_left; (focus ((intro w' hb0 hw'; go_simp) <;> with_reducible rfl)); simp only [Act.put, List.setIfInBounds_toArray, List.set_cons_zero, List.set_cons_succ])
  (refine pl_take (d := 4) (v := ?_) rfl rfl rfl ?_ ?_; rotate_left; (focus ((intro w' hb0 hw'; go_simp) <;> with_reducible rfl)); simp only [Act.put, List.setIfInBounds_toArray, List.set_cons_zero, List.set_cons_succ])
  refine pl_end ?_
  clear hX0 hY0
  go_wp2
  refine bodyPost_ret (v := .bool true) (by simp [results, Try.results4, go_sem]) rfl ⟨rfl, hbW⟩
end Go.Proofs.Ythobmcpilfalgaa
