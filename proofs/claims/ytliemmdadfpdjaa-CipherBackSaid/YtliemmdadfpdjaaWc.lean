/-
  Walk: the words at four places.
-/
import Derived.Test.YtliemmdadfpdjaaWb
namespace Go.Proofs.Ytliemmdadfpdjaa
open Go.RowKit Go.Proofs.Ytliemmdadfpdjaa.Plan Go.Proofs.Ytliemmdadfpdjaa.Eager
set_option maxHeartbeats 1000000
set_option linter.unusedVariables false
set_option linter.unusedSimpArgs false

theorem row48 : RowTy Try.prog 48 16 := ⟨⟨_, rfl, rfl⟩, by kernel_rfl⟩
theorem row46 : RowTy Try.prog 46 64 := ⟨⟨_, rfl, rfl⟩, by kernel_rfl⟩
def z16w : List Value := List.replicate 16 (.int .u32 0)
def W16 (l : List UInt32) : Value := .agg (l.map U32).toArray
theorem oneU32 (l : List UInt32) : ∀ v ∈ l.map U32, v.oneCell' = true := by
  intro v hv
  obtain ⟨x, -, rfl⟩ := List.mem_map.1 hv
  rfl

/-- a quarter at four places -/
def quarterM (l : List UInt32) (i j k m : Nat) : List UInt32 :=
  let q := qM ⟨l.getD i 0, l.getD j 0, l.getD k 0, l.getD m 0⟩
  (((l.set i q.a).set j q.b).set k q.c).set m q.d
theorem quarterM_length (l : List UInt32) (i j k m : Nat) : (quarterM l i j k m).length = l.length := by simp [quarterM]

theorem quarter22 (l : List UInt32) (hl : l.length = 16) (i j k m : Nat) (hi : i < 16) (hj : j < 16) (hk : k < 16) (hm : m < 16) (w : World) :
    Calls Try.prog 22 #[W16 l, .int .i64 (i : Int), .int .i64 (j : Int), .int .i64 (k : Int), .int .i64 (m : Int)] w fun r w' => r = .returned (W16 (quarterM l i j k m)) ∧ Below w.heap.size w w' := by
  have hi' : i < l.length := by omega
  have hj' : j < l.length := by omega
  have hk' : k < l.length := by omega
  have hm' : m < l.length := by omega
  have r0 : (i : Int) < 16 := by omega
  have r1 : (j : Int) < 16 := by omega
  have r2 : (k : Int) < 16 := by omega
  have r3 : (m : Int) < 16 := by omega
  have HM : Hid (quarterM l i j k m = (((l.set i (qM ⟨l[i], l[j], l[k], l[m]⟩).a).set j (qM ⟨l[i], l[j], l[k], l[m]⟩).b).set k (qM ⟨l[i], l[j], l[k], l[m]⟩).c).set m (qM ⟨l[i], l[j], l[k], l[m]⟩).d) := by
    show quarterM l i j k m = _
    simp [quarterM, List.getD, hi', hj', hk', hm']
  have HL := Lib.hid hl; clear hl
  unfold W16
  go_enter Try.func22, Try.ntmps22
  go_wp2
  have HA : Hid (Blk ((w.alloc (.cells (l.map U32).toArray 48)).alloc (.cells z16w.toArray 48)) w.heap.size (l.map U32)) := Blk.first w _ _ _
  have HR : Hid (Blk ((w.alloc (.cells (l.map U32).toArray 48)).alloc (.cells z16w.toArray 48)) (w.heap.size + 1) z16w) := Blk.second w _ _ _
  have HB : Hid (Below w.heap.size w ((w.alloc (.cells (l.map U32).toArray 48)).alloc (.cells z16w.toArray 48))) := by (with_reducible try refine Lib.hid ?_); (repeat (with_reducible first | assumption | exact Below.refl _ _ | apply Below.drew | apply Below.drewN' | apply Below.setCell | apply Below.alloc)) <;> (try simp [length_fillTo, length_turnTo]) <;> (try omega)
  refine wp_region_plan none [23, 24, 25, 26, 27, 28, 29] [1, 2, 3, 19, 20, 21] (.take 0 (.pure 1 (.pure 2 (.pure 3 (.take 4 (.take 5 (.take 6 (.take 7 (.take 8 (.take 9 (.take 10 (.take 11 (.take 12 (.take 13 (.take 14 (.take 15 (.one 16 (.take 17 (.take 18 (.pure 19 (.pure 20 (.pure 21 (.take 22 (.tail [23, 24, 25, 26, 27, 28, 29])))))))))))))))))))))))) (by kernel_rfl) (by kernel_rfl) (fun _ _ dd _ _ h => by cases dd <;> exact h) ?_
  intro W0 hW0
  have hA0 : Blk W0 w.heap.size (l.map U32) := by rw [hW0]; exact HA.out.drew
  have hR0 : Blk W0 (w.heap.size + 1) z16w := by rw [hW0]; exact HR.out.drew
  have hb0' : Below w.heap.size w W0 := by rw [hW0]; exact HB.out.drew
  clear hW0
  (refine pl_take (d := 12) (v := ?_) rfl rfl rfl ?_ ?_; rotate_left; (focus ((intro w' hb0 hw'; go_simp) <;> with_reducible rfl)); simp only [Act.put, List.setIfInBounds_toArray, List.set_cons_zero, List.set_cons_succ])
  (refine pl_pure (d := 13) (v := ?_) rfl rfl rfl ?_ ?_; rotate_left; (focus ((intro w'; go_simp) <;> with_reducible rfl)); simp only [Act.put, List.setIfInBounds_toArray, List.set_cons_zero, List.set_cons_succ])
  (refine pl_pure (d := 14) (v := ?_) rfl rfl rfl ?_ ?_; rotate_left; (focus ((intro w'; go_simp) <;> with_reducible rfl)); simp only [Act.put, List.setIfInBounds_toArray, List.set_cons_zero, List.set_cons_succ])
  (refine pl_pure (d := 15) (v := ?_) rfl rfl rfl ?_ ?_; rotate_left; (focus ((intro w'; go_simp) <;> with_reducible rfl)); simp only [Act.put, List.setIfInBounds_toArray, List.set_cons_zero, List.set_cons_succ])
  (refine pl_take (d := 16) (v := ?_) rfl rfl rfl ?_ ?_; rotate_left; (focus ((intro w' hb0 hw'; go_simp) <;> with_reducible rfl)); simp only [Act.put, List.setIfInBounds_toArray, List.set_cons_zero, List.set_cons_succ])
  (refine pl_take (d := 17) (v := ?_) rfl rfl rfl ?_ ?_; rotate_left; (focus ((intro w' hb0 hw'; go_simp) <;> with_reducible rfl)); simp only [Act.put, List.setIfInBounds_toArray, List.set_cons_zero, List.set_cons_succ])
  (refine pl_take (d := 18) (v := ?_) rfl rfl rfl ?_ ?_; rotate_left; (focus ((intro w' hb0 hw'; have hb0' : Below W0.heap.size W0 w' := hb0; have c := (hA0.later hb0').at' i (by simp [HL.out]; omega); rw [List.getElem_map] at c; unfold U32 at c; go_simp) <;> with_reducible rfl)); simp only [Act.put, List.setIfInBounds_toArray, List.set_cons_zero, List.set_cons_succ])
  (refine pl_take (d := 19) (v := ?_) rfl rfl rfl ?_ ?_; rotate_left; (focus ((intro w' hb0 hw'; go_simp) <;> with_reducible rfl)); simp only [Act.put, List.setIfInBounds_toArray, List.set_cons_zero, List.set_cons_succ])
  (refine pl_take (d := 20) (v := ?_) rfl rfl rfl ?_ ?_; rotate_left; (focus ((intro w' hb0 hw'; go_simp) <;> with_reducible rfl)); simp only [Act.put, List.setIfInBounds_toArray, List.set_cons_zero, List.set_cons_succ])
  (refine pl_take (d := 21) (v := ?_) rfl rfl rfl ?_ ?_; rotate_left; (focus ((intro w' hb0 hw'; have hb0' : Below W0.heap.size W0 w' := hb0; have c := (hA0.later hb0').at' j (by simp [HL.out]; omega); rw [List.getElem_map] at c; unfold U32 at c; go_simp) <;> with_reducible rfl)); simp only [Act.put, List.setIfInBounds_toArray, List.set_cons_zero, List.set_cons_succ])
  (refine pl_take (d := 22) (v := ?_) rfl rfl rfl ?_ ?_; rotate_left; (focus ((intro w' hb0 hw'; go_simp) <;> with_reducible rfl)); simp only [Act.put, List.setIfInBounds_toArray, List.set_cons_zero, List.set_cons_succ])
  (refine pl_take (d := 23) (v := ?_) rfl rfl rfl ?_ ?_; rotate_left; (focus ((intro w' hb0 hw'; go_simp) <;> with_reducible rfl)); simp only [Act.put, List.setIfInBounds_toArray, List.set_cons_zero, List.set_cons_succ])
  (refine pl_take (d := 24) (v := ?_) rfl rfl rfl ?_ ?_; rotate_left; (focus ((intro w' hb0 hw'; have hb0' : Below W0.heap.size W0 w' := hb0; have c := (hA0.later hb0').at' k (by simp [HL.out]; omega); rw [List.getElem_map] at c; unfold U32 at c; go_simp) <;> with_reducible rfl)); simp only [Act.put, List.setIfInBounds_toArray, List.set_cons_zero, List.set_cons_succ])
  (refine pl_take (d := 25) (v := ?_) rfl rfl rfl ?_ ?_; rotate_left; (focus ((intro w' hb0 hw'; go_simp) <;> with_reducible rfl)); simp only [Act.put, List.setIfInBounds_toArray, List.set_cons_zero, List.set_cons_succ])
  (refine pl_take (d := 26) (v := ?_) rfl rfl rfl ?_ ?_; rotate_left; (focus ((intro w' hb0 hw'; go_simp) <;> with_reducible rfl)); simp only [Act.put, List.setIfInBounds_toArray, List.set_cons_zero, List.set_cons_succ])
  (refine pl_take (d := 27) (v := ?_) rfl rfl rfl ?_ ?_; rotate_left; (focus ((intro w' hb0 hw'; have hb0' : Below W0.heap.size W0 w' := hb0; have c := (hA0.later hb0').at' m (by simp [HL.out]; omega); rw [List.getElem_map] at c; unfold U32 at c; go_simp) <;> with_reducible rfl)); simp only [Act.put, List.setIfInBounds_toArray, List.set_cons_zero, List.set_cons_succ])
  refine pl_one rfl rfl (fun K hK => ?_)
  go_simp
  refine (quarter7 (l[i]'hi') (l[j]'hj') (l[k]'hk') (l[m]'hm') W0).mono ?_
  rintro r w1 ⟨rfl, hw1⟩
  rw [hw1]; clear hw1 w1
  refine hK _ _ (Below.refl _ _ : Rel none W0 W0) ?_
  clear hK
  obtain ⟨q, hq⟩ : ∃ z, qM ⟨l[i]'hi', l[j]'hj', l[k]'hk', l[m]'hm'⟩ = z := ⟨_, rfl⟩
  rw [hq]
  have HQ := Lib.hid hq; clear hq
  unfold Q4.val U32
  (refine pl_take (d := 11) (v := ?_) rfl rfl rfl ?_ ?_; rotate_left; (focus ((intro w' hb0 hw'; go_simp) <;> with_reducible rfl)); simp only [Act.put, List.setIfInBounds_toArray, List.set_cons_zero, List.set_cons_succ])
  (refine pl_take (d := 29) (v := ?_) rfl rfl rfl ?_ ?_; rotate_left; (focus ((intro w' hb0 hw'; go_simp) <;> with_reducible rfl)); simp only [Act.put, List.setIfInBounds_toArray, List.set_cons_zero, List.set_cons_succ])
  (refine pl_pure (d := 30) (v := ?_) rfl rfl rfl ?_ ?_; rotate_left; (focus ((intro w'; go_simp) <;> with_reducible rfl)); simp only [Act.put, List.setIfInBounds_toArray, List.set_cons_zero, List.set_cons_succ])
  (refine pl_pure (d := 31) (v := ?_) rfl rfl rfl ?_ ?_; rotate_left; (focus ((intro w'; go_simp) <;> with_reducible rfl)); simp only [Act.put, List.setIfInBounds_toArray, List.set_cons_zero, List.set_cons_succ])
  (refine pl_pure (d := 32) (v := ?_) rfl rfl rfl ?_ ?_; rotate_left; (focus ((intro w'; go_simp) <;> with_reducible rfl)); simp only [Act.put, List.setIfInBounds_toArray, List.set_cons_zero, List.set_cons_succ])
  (refine pl_take (d := 33) (v := ?_) rfl rfl rfl ?_ ?_; rotate_left; (focus ((intro w' hb0 hw'; go_simp) <;> with_reducible rfl)); simp only [Act.put, List.setIfInBounds_toArray, List.set_cons_zero, List.set_cons_succ])
  refine pl_tail ?_
  refine tl_do rfl rfl (fun K hK => ?_)
  have c := hA0.at' i (by simp [HL.out]; omega)
  have cz := hA0.froz
  go_simp
  refine hK _ _ ?_
  clear hK c cz
  have hA1 := hA0.set i (by simp [HL.out]; omega) (.int .u32 (q.a.toNat : Int))
  have hR1 := hR0.setOther (a := ⟨w.heap.size, i, none⟩) (by simp) (.int .u32 (q.a.toNat : Int))
  have hb1 := hb0'.setCell (p := ⟨w.heap.size, i, none⟩) (Nat.le_refl _) (.int .u32 (q.a.toNat : Int))
  generalize W0.setCell ⟨w.heap.size, i, none⟩ (.int .u32 (q.a.toNat : Int)) = W1 at *
  have hb1' := hb1
  (try simp only [Act.put, List.setIfInBounds_toArray, List.set_cons_zero, List.set_cons_succ])
  refine tl_do rfl rfl (fun K hK => ?_)
  go_simp
  refine hK _ _ ?_
  clear hK
  (try simp only [Act.put, List.setIfInBounds_toArray, List.set_cons_zero, List.set_cons_succ])
  refine tl_do rfl rfl (fun K hK => ?_)
  have c := hA1.at' j (by simp [HL.out]; omega)
  have cz := hA1.froz
  go_simp
  refine hK _ _ ?_
  clear hK c cz
  have hA2 := hA1.set j (by simp [HL.out]; omega) (.int .u32 (q.b.toNat : Int))
  have hR2 := hR1.setOther (a := ⟨w.heap.size, j, none⟩) (by simp) (.int .u32 (q.b.toNat : Int))
  have hb2 := hb1'.setCell (p := ⟨w.heap.size, j, none⟩) (Nat.le_refl _) (.int .u32 (q.b.toNat : Int))
  generalize W1.setCell ⟨w.heap.size, j, none⟩ (.int .u32 (q.b.toNat : Int)) = W2 at *
  have hb2' := hb2
  (try simp only [Act.put, List.setIfInBounds_toArray, List.set_cons_zero, List.set_cons_succ])
  refine tl_do rfl rfl (fun K hK => ?_)
  go_simp
  refine hK _ _ ?_
  clear hK
  (try simp only [Act.put, List.setIfInBounds_toArray, List.set_cons_zero, List.set_cons_succ])
  refine tl_do rfl rfl (fun K hK => ?_)
  have c := hA2.at' k (by simp [HL.out]; omega)
  have cz := hA2.froz
  go_simp
  refine hK _ _ ?_
  clear hK c cz
  have hA3 := hA2.set k (by simp [HL.out]; omega) (.int .u32 (q.c.toNat : Int))
  have hR3 := hR2.setOther (a := ⟨w.heap.size, k, none⟩) (by simp) (.int .u32 (q.c.toNat : Int))
  have hb3 := hb2'.setCell (p := ⟨w.heap.size, k, none⟩) (Nat.le_refl _) (.int .u32 (q.c.toNat : Int))
  generalize W2.setCell ⟨w.heap.size, k, none⟩ (.int .u32 (q.c.toNat : Int)) = W3 at *
  have hb3' := hb3
  (try simp only [Act.put, List.setIfInBounds_toArray, List.set_cons_zero, List.set_cons_succ])
  refine tl_do rfl rfl (fun K hK => ?_)
  go_simp
  refine hK _ _ ?_
  clear hK
  (try simp only [Act.put, List.setIfInBounds_toArray, List.set_cons_zero, List.set_cons_succ])
  refine tl_do rfl rfl (fun K hK => ?_)
  have c := hA3.at' m (by simp [HL.out]; omega)
  have cz := hA3.froz
  go_simp
  refine hK _ _ ?_
  clear hK c cz
  have hA4 := hA3.set m (by simp [HL.out]; omega) (.int .u32 (q.d.toNat : Int))
  have hR4 := hR3.setOther (a := ⟨w.heap.size, m, none⟩) (by simp) (.int .u32 (q.d.toNat : Int))
  have hb4 := hb3'.setCell (p := ⟨w.heap.size, m, none⟩) (Nat.le_refl _) (.int .u32 (q.d.toNat : Int))
  generalize W3.setCell ⟨w.heap.size, m, none⟩ (.int .u32 (q.d.toNat : Int)) = W4 at *
  have hb4' := hb4
  (try simp only [Act.put, List.setIfInBounds_toArray, List.set_cons_zero, List.set_cons_succ])
  refine tl_end ?_
  have hvs : ((((l.map U32).set i (.int .u32 (q.a.toNat : Int))).set j (.int .u32 (q.b.toNat : Int))).set k (.int .u32 (q.c.toNat : Int))).set m (.int .u32 (q.d.toNat : Int)) = (quarterM l i j k m).map U32 := by
    rw [HM.out, HQ.out]
    simp only [List.map_set, U32]
  rw [hvs] at hA4
  have hlq : (quarterM l i j k m).length = 16 := (quarterM_length _ _ _ _ _).trans HL.out
  have hrow : RowTy Try.prog 48 ((quarterM l i j k m).map U32).length := by rw [List.length_map, hlq]; exact row48
  clear hvs hA0 hA1 hA2 hA3 hb0' hb1 hb2 hb3 hb4' hb1' hb2' hb3' hR0 hR1 hR2 hR3
  have HQL := Lib.hid hlq; clear hlq
  go_wp2_with (first | (refine wpList_load_blk rfl rfl hA4 rfl hrow ?_) | (refine stop_store rfl ?_))
  refine ⟨wpList_store_blk rfl rfl hR4 (by rfl) (by rfl) hrow (by simp [HQL.out, z16w]) (oneU32 _) ?_⟩
  intro W5 hR5 hg5
  have hb5 := Below.grownB hb4 hg5 (by omega) hb4.size
  go_wp2
  refine ret_blk (fn := Try.f22) rfl rfl hR5 hrow rfl ⟨rfl, hb5⟩
end Go.Proofs.Ytliemmdadfpdjaa
