/-
  The law's walk: one result.
-/
import Derived.Test.YtnfkjicoielpnaaWl
namespace Go.Proofs.Ytnfkjicoielpnaa
open Go.RowKit Go.Proofs.Ytnfkjicoielpnaa.Plan Go.Proofs.Ytnfkjicoielpnaa.Eager
set_option maxHeartbeats 2000000
set_option maxRecDepth 20000
set_option linter.unusedVariables false
set_option linter.unusedSimpArgs false

theorem judgeOne4 (s : St) (r : Res) (w : World) :
    Calls Try.prog 4 #[.agg s.cells.toArray, .agg r.cells.toArray] w fun e w' => e = .returned (.bool true) ∧ Below w.heap.size w w' := by
  obtain ⟨sval, sver, sis, sun⟩ := s
  obtain ⟨job, kind, ver, key, val, has, gone, err⟩ := r
  simp only [St.cells, Res.cells]
  have hb0 : Below w.heap.size w ((w.alloc (.cells (St.cells ⟨sval, sver, sis, sun⟩).toArray 33)).alloc (.cells (Res.cells ⟨job, kind, ver, key, val, has, gone, err⟩).toArray 36)) := by (with_reducible try refine Lib.hid ?_); (repeat (with_reducible first | assumption | exact Below.refl _ _ | apply Below.drew | apply Below.drewN' | apply Below.setCell | apply Below.alloc)) <;> (try simp [length_fillTo, length_turnTo]) <;> (try omega)
  have hX : Blk ((w.alloc (.cells (St.cells ⟨sval, sver, sis, sun⟩).toArray 33)).alloc (.cells (Res.cells ⟨job, kind, ver, key, val, has, gone, err⟩).toArray 36)) w.heap.size (St.cells ⟨sval, sver, sis, sun⟩) := Blk.alloc (Blk.new' rfl) _
  have hY : Blk ((w.alloc (.cells (St.cells ⟨sval, sver, sis, sun⟩).toArray 33)).alloc (.cells (Res.cells ⟨job, kind, ver, key, val, has, gone, err⟩).toArray 36)) (w.heap.size + 1) (Res.cells ⟨job, kind, ver, key, val, has, gone, err⟩) := Blk.new' (by simp)
  have HB := Lib.hid hb0; have HX := Lib.hid hX; have HY := Lib.hid hY; clear hb0 hX hY
  by_cases hbig : (300 : Int) < (sval.size : Int)
  · go_enter Try.func4, Try.ntmps4
    go_wp2_with fail
    refine (works15 _).mono ?_
    rintro r w1 ⟨rfl, hb⟩
    replace HB := Lib.hid (below_step HB.out hb); clear hb
    go_wp2
    refine bodyPost_ret (v := .bool true) (by simp [results, Try.results4, go_sem]) rfl ⟨rfl, HB.out⟩
  have hal : Below ((w.alloc (.cells (St.cells ⟨sval, sver, sis, sun⟩).toArray 33)).alloc (.cells (Res.cells ⟨job, kind, ver, key, val, has, gone, err⟩).toArray 36)).heap.size ((w.alloc (.cells (St.cells ⟨sval, sver, sis, sun⟩).toArray 33)).alloc (.cells (Res.cells ⟨job, kind, ver, key, val, has, gone, err⟩).toArray 36)) (((w.alloc (.cells (St.cells ⟨sval, sver, sis, sun⟩).toArray 33)).alloc (.cells (Res.cells ⟨job, kind, ver, key, val, has, gone, err⟩).toArray 36)).alloc (.cells (Res.cells ⟨job, kind, ver, key, val, has, gone, err⟩).toArray 36)) := (Below.refl _ _).alloc (Nat.le_refl _) _
  have hR : RRes (((w.alloc (.cells (St.cells ⟨sval, sver, sis, sun⟩).toArray 33)).alloc (.cells (Res.cells ⟨job, kind, ver, key, val, has, gone, err⟩).toArray 36)).alloc (.cells (Res.cells ⟨job, kind, ver, key, val, has, gone, err⟩).toArray 36)) (some ⟨w.heap.size + 1 + 1, 0, none⟩) 1 1 [⟨job, kind, ver, key, val, has, gone, err⟩] := Rws.one (Blk.new' (by simp))
  replace HB := Lib.hid (below_step HB.out hal); replace HX := Lib.hid (HX.out.later hal); replace HY := Lib.hid (HY.out.later hal)
  have HR := Lib.hid hR; clear hal hR
  go_enter Try.func4, Try.ntmps4
  go_wp2_with fail
  refine (great6 [⟨job, kind, ver, key, val, has, gone, err⟩] _ _ 1 1 HR.out).mono ?_
  rintro r w1 ⟨⟨b, rfl, -⟩, hb⟩
  replace HB := Lib.hid (below_step HB.out hb); replace HX := Lib.hid (HX.out.later hb); replace HY := Lib.hid (HY.out.later hb); clear hb HR
  cases b with
  | true =>
    go_wp2_with fail
    refine (works15 _).mono ?_
    rintro r w2 ⟨rfl, hb⟩
    replace HB := Lib.hid (below_step HB.out hb); clear hb
    go_wp2
    refine bodyPost_ret (v := .bool true) (by simp [results, Try.results4, go_sem]) rfl ⟨rfl, HB.out⟩
  | false =>
  have x0 := HX.out.at' 0 (by simp [St.cells]); have x1 := HX.out.at' 1 (by simp [St.cells]); have x2 := HX.out.at' 2 (by simp [St.cells]); have x3 := HX.out.at' 3 (by simp [St.cells])
  have y0 := HY.out.at' 0 (by simp [Res.cells]); have y1 := HY.out.at' 1 (by simp [Res.cells]); have y2 := HY.out.at' 2 (by simp [Res.cells]); have y3 := HY.out.at' 3 (by simp [Res.cells]); have y4 := HY.out.at' 4 (by simp [Res.cells]); have y5 := HY.out.at' 5 (by simp [Res.cells]); have y6 := HY.out.at' 6 (by simp [Res.cells]); have y7 := HY.out.at' 7 (by simp [Res.cells])
  simp only [St.cells, Res.cells, List.getElem_cons_zero, List.getElem_cons_succ] at x0 x1 x2 x3 y0 y1 y2 y3 y4 y5 y6 y7
  have hlx := HX.out.lt; have hly := HY.out.lt
  have hal : Below w1.heap.size w1 (w1.alloc (.cells (scells (⟨#[]⟩, ⟨sval, sver, sis, sun⟩)).toArray 38)) := (Below.refl _ _).alloc (Nat.le_refl _) _
  have HZ : Hid (Blk (w1.alloc (.cells (scells (⟨#[]⟩, ⟨sval, sver, sis, sun⟩)).toArray 38)) w1.heap.size (scells (⟨#[]⟩, ⟨sval, sver, sis, sun⟩))) := Blk.new' rfl
  replace HB := Lib.hid (below_step HB.out hal); replace HX := Lib.hid (HX.out.later hal); replace HY := Lib.hid (HY.out.later hal); clear hal
  obtain ⟨z5, hz5⟩ : ∃ z, w1.heap.size = z := ⟨_, rfl⟩
  have HZ5 := Lib.hid hz5; clear hz5
  go_wp2_with fail
  refine (refAfter16 ⟨#[]⟩ ⟨sval, sver, sis, sun⟩ ⟨job, kind, ver, key, val, has, gone, err⟩ _).mono ?_
  rintro r w2 ⟨rfl, hb⟩
  replace HB := Lib.hid (below_step HB.out hb); replace HX := Lib.hid (HX.out.later hb); replace HY := Lib.hid (HY.out.later hb); replace HZ := Lib.hid (HZ.out.later hb); clear hb x0 x1 x2 x3 y0 y1 y2 y3 y4 y5 y6 y7 hlx hly
  rw [HZ5.out] at HZ ⊢
  clear HZ5
  obtain ⟨A, hA⟩ : ∃ A, after ⟨sval, sver, sis, sun⟩ ⟨job, kind, ver, key, val, has, gone, err⟩ = A := ⟨_, rfl⟩
  obtain ⟨aval, aver, ais, aun⟩ := A
  have HA := Lib.hid hA; clear hA
  rw [HA.out]
  simp only [scells]
  have hal : Below w2.heap.size w2 (w2.alloc (.cells (scells (⟨#[]⟩, ⟨aval, aver, ais, aun⟩)).toArray 38)) := (Below.refl _ _).alloc (Nat.le_refl _) _
  have HU : Hid (Blk (w2.alloc (.cells (scells (⟨#[]⟩, ⟨aval, aver, ais, aun⟩)).toArray 38)) w2.heap.size (scells (⟨#[]⟩, ⟨aval, aver, ais, aun⟩))) := Blk.new' rfl
  replace HB := Lib.hid (below_step HB.out hal); replace HX := Lib.hid (HX.out.later hal); replace HY := Lib.hid (HY.out.later hal); replace HZ := Lib.hid (HZ.out.later hal); clear hal
  obtain ⟨z6, hz6⟩ : ∃ z, w2.heap.size = z := ⟨_, rfl⟩
  have HZ6 := Lib.hid hz6; clear hz6
  go_wp2
  rw [HZ6.out] at HU ⊢
  clear HZ6
  refine wp_region_plan none [] [] (.take 0 (.take 1 (.take 3 (.take 4 (.one 2 (.one 5 (.take 6 (.take 7 (.take 8 (.take 9 (.take 11 (.take 12 (.take 13 (.take 14 (.take 15 (.take 16 (.take 17 (.take 18 (.take 19 (.one 10 (.take 20 (.take 21 (.take 22 (.one 23 (.take 24 (.take 25 .done)))))))))))))))))))))))))) (by kernel_rfl) (by kernel_rfl) (fun _ _ dd _ _ h => by cases dd <;> exact h) ?_
  intro W0 hW0
  have hX0 : Blk W0 w.heap.size (St.cells ⟨sval, sver, sis, sun⟩) := by rw [hW0]; exact HX.out.drew
  have hY0 : Blk W0 (w.heap.size + 1) (Res.cells ⟨job, kind, ver, key, val, has, gone, err⟩) := by rw [hW0]; exact HY.out.drew
  have hZ0 : Blk W0 z5 (scells (⟨#[]⟩, ⟨sval, sver, sis, sun⟩)) := by rw [hW0]; exact HZ.out.drew
  have hU0 : Blk W0 z6 (scells (⟨#[]⟩, ⟨aval, aver, ais, aun⟩)) := by rw [hW0]; exact HU.out.drew
  have hbW : Below w.heap.size w W0 := by rw [hW0]; exact HB.out.drew
  clear hW0
  (refine pl_take (d := 29) (v := ?_) rfl rfl rfl ?_ ?_; rotate_left; (focus ((intro w' hb0 hw'; have hc := hX0.later hw'; have c0 := hc.at' 0 (by simp [St.cells]); have c1 := hc.at' 1 (by simp [St.cells]); have c2 := hc.at' 2 (by simp [St.cells]); have c3 := hc.at' 3 (by simp [St.cells]); simp only [St.cells, List.getElem_cons_succ, List.getElem_cons_zero] at c0 c1 c2 c3; go_simp) <;> with_reducible rfl)); simp only [Act.put, List.setIfInBounds_toArray, List.set_cons_zero, List.set_cons_succ])
  (refine pl_take (d := 30) (v := ?_) rfl rfl rfl ?_ ?_; rotate_left; (focus ((intro w' hb0 hw'; have hc := hY0.later hw'; have c0 := hc.at' 0 (by simp [Res.cells]); have c1 := hc.at' 1 (by simp [Res.cells]); have c2 := hc.at' 2 (by simp [Res.cells]); have c3 := hc.at' 3 (by simp [Res.cells]); have c4 := hc.at' 4 (by simp [Res.cells]); have c5 := hc.at' 5 (by simp [Res.cells]); have c6 := hc.at' 6 (by simp [Res.cells]); have c7 := hc.at' 7 (by simp [Res.cells]); simp only [Res.cells, List.getElem_cons_succ, List.getElem_cons_zero] at c0 c1 c2 c3 c4 c5 c6 c7; go_simp) <;> with_reducible rfl)); simp only [Act.put, List.setIfInBounds_toArray, List.set_cons_zero, List.set_cons_succ])
  (refine pl_take (d := 32) (v := ?_) rfl rfl rfl ?_ ?_; rotate_left; (focus ((intro w' hb0 hw'; have hc := hZ0.later hw'; have c0 := hc.at' 0 (by simp [scells]); have c1 := hc.at' 1 (by simp [scells]); have c2 := hc.at' 2 (by simp [scells]); have c3 := hc.at' 3 (by simp [scells]); have c4 := hc.at' 4 (by simp [scells]); simp only [scells, List.getElem_cons_succ, List.getElem_cons_zero] at c0 c1 c2 c3 c4; go_simp) <;> with_reducible rfl)); simp only [Act.put, List.setIfInBounds_toArray, List.set_cons_zero, List.set_cons_succ])
  (refine pl_take (d := 33) (v := ?_) rfl rfl rfl ?_ ?_; rotate_left; (focus ((intro w' hb0 hw'; have hc := hY0.later hw'; have c0 := hc.at' 0 (by simp [Res.cells]); have c1 := hc.at' 1 (by simp [Res.cells]); have c2 := hc.at' 2 (by simp [Res.cells]); have c3 := hc.at' 3 (by simp [Res.cells]); have c4 := hc.at' 4 (by simp [Res.cells]); have c5 := hc.at' 5 (by simp [Res.cells]); have c6 := hc.at' 6 (by simp [Res.cells]); have c7 := hc.at' 7 (by simp [Res.cells]); simp only [Res.cells, List.getElem_cons_succ, List.getElem_cons_zero] at c0 c1 c2 c3 c4 c5 c6 c7; go_simp) <;> with_reducible rfl)); simp only [Act.put, List.setIfInBounds_toArray, List.set_cons_zero, List.set_cons_succ])
  refine pl_one rfl rfl (fun K hK => ?_)
  go_simp
  refine (fits17 ⟨sval, sver, sis, sun⟩ ⟨job, kind, ver, key, val, has, gone, err⟩ W0).mono ?_
  rintro r W1 ⟨rfl, hbk⟩
  
  refine hK _ _ (hbk : Rel none W0 W1) ?_
  clear hK
  replace hbW := below_step hbW hbk
  replace hX0 := hX0.later hbk
  replace hY0 := hY0.later hbk
  replace hZ0 := hZ0.later hbk
  replace hU0 := hU0.later hbk
  clear hbk
  refine pl_one rfl rfl (fun K hK => ?_)
  go_simp
  refine (refFits18 ⟨#[]⟩ ⟨sval, sver, sis, sun⟩ ⟨job, kind, ver, key, val, has, gone, err⟩ W1).mono ?_
  rintro r W2 ⟨rfl, hbk⟩
  
  refine hK _ _ (hbk : Rel none W1 W2) ?_
  clear hK
  replace hbW := below_step hbW hbk
  replace hX0 := hX0.later hbk
  replace hY0 := hY0.later hbk
  replace hZ0 := hZ0.later hbk
  replace hU0 := hU0.later hbk
  clear hbk
  (refine pl_take (d := 35) (v := ?_) rfl rfl rfl ?_ ?_; rotate_left; (focus ((intro w' hb0 hw'; go_simp) <;> with_reducible rfl)); simp only [Act.put, List.setIfInBounds_toArray, List.set_cons_zero, List.set_cons_succ])
  (refine pl_take (d := 36) (v := ?_) rfl rfl rfl ?_ ?_; rotate_left; (focus ((intro w' hb0 hw'; go_simp) <;> with_reducible rfl)); simp only [Act.put, List.setIfInBounds_toArray, List.set_cons_zero, List.set_cons_succ])
  (refine pl_take (d := 37) (v := ?_) rfl rfl rfl ?_ ?_; rotate_left; (focus ((intro w' hb0 hw'; have hc := hX0.later hw'; have c0 := hc.at' 0 (by simp [St.cells]); have c1 := hc.at' 1 (by simp [St.cells]); have c2 := hc.at' 2 (by simp [St.cells]); have c3 := hc.at' 3 (by simp [St.cells]); simp only [St.cells, List.getElem_cons_succ, List.getElem_cons_zero] at c0 c1 c2 c3; go_simp) <;> with_reducible rfl)); simp only [Act.put, List.setIfInBounds_toArray, List.set_cons_zero, List.set_cons_succ])
  (refine pl_take (d := 38) (v := ?_) rfl rfl rfl ?_ ?_; rotate_left; (focus ((intro w' hb0 hw'; have hc := hY0.later hw'; have c0 := hc.at' 0 (by simp [Res.cells]); have c1 := hc.at' 1 (by simp [Res.cells]); have c2 := hc.at' 2 (by simp [Res.cells]); have c3 := hc.at' 3 (by simp [Res.cells]); have c4 := hc.at' 4 (by simp [Res.cells]); have c5 := hc.at' 5 (by simp [Res.cells]); have c6 := hc.at' 6 (by simp [Res.cells]); have c7 := hc.at' 7 (by simp [Res.cells]); simp only [Res.cells, List.getElem_cons_succ, List.getElem_cons_zero] at c0 c1 c2 c3 c4 c5 c6 c7; go_simp) <;> with_reducible rfl)); simp only [Act.put, List.setIfInBounds_toArray, List.set_cons_zero, List.set_cons_succ])
  (refine pl_take (d := 40) (v := ?_) rfl rfl rfl ?_ ?_; rotate_left; (focus ((intro w' hb0 hw'; go_simp) <;> with_reducible rfl)); simp only [Act.put, List.setIfInBounds_toArray, List.set_cons_zero, List.set_cons_succ])
  (refine pl_take (d := 41) (v := ?_) rfl rfl rfl ?_ ?_; rotate_left; (focus ((intro w' hb0 hw'; have hc := hU0.later hw'; have c0 := hc.at' 0 (by simp [scells]); have c1 := hc.at' 1 (by simp [scells]); have c2 := hc.at' 2 (by simp [scells]); have c3 := hc.at' 3 (by simp [scells]); have c4 := hc.at' 4 (by simp [scells]); simp only [scells, List.getElem_cons_succ, List.getElem_cons_zero] at c0 c1 c2 c3 c4; go_simp) <;> with_reducible rfl)); simp only [Act.put, List.setIfInBounds_toArray, List.set_cons_zero, List.set_cons_succ])
  (refine pl_take (d := 42) (v := ?_) rfl rfl rfl ?_ ?_; rotate_left; (focus ((intro w' hb0 hw'; go_simp) <;> with_reducible rfl)); simp only [Act.put, List.setIfInBounds_toArray, List.set_cons_zero, List.set_cons_succ])
  (refine pl_take (d := 43) (v := ?_) rfl rfl rfl ?_ ?_; rotate_left; (focus ((intro w' hb0 hw'; have hc := hU0.later hw'; have c0 := hc.at' 0 (by simp [scells]); have c1 := hc.at' 1 (by simp [scells]); have c2 := hc.at' 2 (by simp [scells]); have c3 := hc.at' 3 (by simp [scells]); have c4 := hc.at' 4 (by simp [scells]); simp only [scells, List.getElem_cons_succ, List.getElem_cons_zero] at c0 c1 c2 c3 c4; go_simp) <;> with_reducible rfl)); simp only [Act.put, List.setIfInBounds_toArray, List.set_cons_zero, List.set_cons_succ])
  (refine pl_take (d := 44) (v := ?_) rfl rfl rfl ?_ ?_; rotate_left; (focus ((intro w' hb0 hw'; go_simp) <;> with_reducible rfl)); simp only [Act.put, List.setIfInBounds_toArray, List.set_cons_zero, List.set_cons_succ])
  (refine pl_take (d := 45) (v := ?_) rfl rfl rfl ?_ ?_; rotate_left; (focus ((intro w' hb0 hw'; have hc := hU0.later hw'; have c0 := hc.at' 0 (by simp [scells]); have c1 := hc.at' 1 (by simp [scells]); have c2 := hc.at' 2 (by simp [scells]); have c3 := hc.at' 3 (by simp [scells]); have c4 := hc.at' 4 (by simp [scells]); simp only [scells, List.getElem_cons_succ, List.getElem_cons_zero] at c0 c1 c2 c3 c4; go_simp) <;> with_reducible rfl)); simp only [Act.put, List.setIfInBounds_toArray, List.set_cons_zero, List.set_cons_succ])
  (refine pl_take (d := 46) (v := ?_) rfl rfl rfl ?_ ?_; rotate_left; (focus ((intro w' hb0 hw'; go_simp) <;> with_reducible rfl)); simp only [Act.put, List.setIfInBounds_toArray, List.set_cons_zero, List.set_cons_succ])
  (refine pl_take (d := 47) (v := ?_) rfl rfl rfl ?_ ?_; rotate_left; (focus ((intro w' hb0 hw'; have hc := hU0.later hw'; have c0 := hc.at' 0 (by simp [scells]); have c1 := hc.at' 1 (by simp [scells]); have c2 := hc.at' 2 (by simp [scells]); have c3 := hc.at' 3 (by simp [scells]); have c4 := hc.at' 4 (by simp [scells]); simp only [scells, List.getElem_cons_succ, List.getElem_cons_zero] at c0 c1 c2 c3 c4; go_simp) <;> with_reducible rfl)); simp only [Act.put, List.setIfInBounds_toArray, List.set_cons_zero, List.set_cons_succ])
  (refine pl_take (d := 48) (v := ?_) rfl rfl rfl ?_ ?_; rotate_left; (focus ((intro w' hb0 hw'; go_simp) <;> with_reducible rfl)); simp only [Act.put, List.setIfInBounds_toArray, List.set_cons_zero, List.set_cons_succ])
  refine pl_one rfl rfl (fun K hK => ?_)
  go_simp
  refine (after19 ⟨sval, sver, sis, sun⟩ ⟨job, kind, ver, key, val, has, gone, err⟩ W2).mono ?_
  rintro r W3 ⟨rfl, hbk⟩
  rw [HA.out]
  simp only [St.cells]
  refine hK _ _ (hbk : Rel none W2 W3) ?_
  clear hK
  replace hbW := below_step hbW hbk
  replace hX0 := hX0.later hbk
  replace hY0 := hY0.later hbk
  replace hZ0 := hZ0.later hbk
  replace hU0 := hU0.later hbk
  clear hbk
  refine pl_take (d := 49) (v := .bool true) rfl rfl rfl ?_ ?_
  · intro w' hb0 hw'
    go_simp
  simp only [Act.put, List.setIfInBounds_toArray, List.set_cons_zero, List.set_cons_succ]
  (refine pl_take (d := 50) (v := ?_) rfl rfl rfl ?_ ?_; rotate_left; (focus ((intro w' hb0 hw'; go_simp) <;> with_reducible rfl)); simp only [Act.put, List.setIfInBounds_toArray, List.set_cons_zero, List.set_cons_succ])
  (refine pl_take (d := 51) (v := ?_) rfl rfl rfl ?_ ?_; rotate_left; (focus ((intro w' hb0 hw'; go_simp) <;> with_reducible rfl)); simp only [Act.put, List.setIfInBounds_toArray, List.set_cons_zero, List.set_cons_succ])
  refine pl_one rfl rfl (fun K hK => ?_)
  go_simp
  refine (works15 W3).mono ?_
  rintro r W4 ⟨rfl, hbk⟩
  
  refine hK _ _ (hbk : Rel none W3 W4) ?_
  clear hK
  replace hbW := below_step hbW hbk
  clear hbk
  (refine pl_take (d := 53) (v := ?_) rfl rfl rfl ?_ ?_; rotate_left; (focus ((intro w' hb0 hw'; go_simp) <;> with_reducible rfl)); simp only [Act.put, List.setIfInBounds_toArray, List.set_cons_zero, List.set_cons_succ])
  (refine pl_take (d := 4) (v := ?_) rfl rfl rfl ?_ ?_; rotate_left; (focus ((intro w' hb0 hw'; go_simp) <;> with_reducible rfl)); simp only [Act.put, List.setIfInBounds_toArray, List.set_cons_zero, List.set_cons_succ])
  refine pl_end ?_
  go_wp2
  refine bodyPost_ret (v := .bool true) (by simp [results, Try.results4, go_sem]) rfl ⟨rfl, hbW⟩
end Go.Proofs.Ytnfkjicoielpnaa
