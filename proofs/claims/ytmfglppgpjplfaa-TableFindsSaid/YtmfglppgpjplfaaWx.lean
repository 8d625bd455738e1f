/-
  The law's walk: where sessions stand.
-/
import Derived.Test.YtmfglppgpjplfaaWv
namespace Go.Proofs.Ytmfglppgpjplfaa
open Go.RowKit Go.Proofs.Ytmfglppgpjplfaa.Plan Go.Proofs.Ytmfglppgpjplfaa.Eager
set_option maxHeartbeats 4000000
set_option maxRecDepth 20000
set_option linter.unusedVariables false
set_option linter.unusedSimpArgs false

theorem tableFinds5 (l : List Ses) (m : Nat) (e : En) (w : World) (oa : Option Addr) (n c : Nat) (h : RSes w oa n c l) :
    Calls Try.prog 5 #[.slice oa n c, .int .u64 m, .agg e.cells.toArray] w fun r w' => r = .returned (.bool true) ∧ Below w.heap.size w w' := by
  obtain rfl : n = l.length := h.rows.len
  have hal : Below w.heap.size w (w.alloc (.cells e.cells.toArray 26)) := (Below.refl _ _).alloc (Nat.le_refl _) _
  have HX : Hid (Blk (w.alloc (.cells e.cells.toArray 26)) w.heap.size e.cells) := Blk.new' rfl
  have H := Lib.hid (h.below hal); have HB := Lib.hid hal
  clear h hal
  go_enter Try.func5, Try.ntmps5
  go_wp2_with fail
  refine (great7 l _ oa _ c H.out).mono ?_
  rintro r w2 ⟨⟨b, rfl, hbl⟩, hb⟩
  replace HX := Lib.hid (HX.out.later hb); replace H := Lib.hid (H.out.below hb); replace HB := Lib.hid (below_step HB.out hb)
  clear hb hbl
  cases b with
  | true =>
    go_wp2_with fail
    refine (works9 _).mono ?_
    rintro r w3 ⟨rfl, hb⟩
    replace HB := Lib.hid (below_step HB.out hb)
    clear hb
    go_wp2
    refine bodyPost_ret (v := .bool true) (by simp [results, Try.results5, go_sem]) rfl ⟨rfl, HB.out⟩
  | false =>
  go_wp2_with (refine stop_load (ty := 26) rfl ?_)
  refine ⟨wpList_load_blk_w (by rfl) rfl HX.out (by rfl) row26 ?_⟩
  go_wp2_with fail
  refine (greatE13 e w2).mono ?_
  rintro r w3 ⟨⟨b, rfl⟩, hb⟩
  replace HX := Lib.hid (HX.out.later hb); replace H := Lib.hid (H.out.below hb); replace HB := Lib.hid (below_step HB.out hb)
  clear hb
  cases b with
  | true =>
    go_wp2_with fail
    refine (works9 _).mono ?_
    rintro r w4 ⟨rfl, hb⟩
    replace HB := Lib.hid (below_step HB.out hb)
    clear hb
    go_wp2
    refine bodyPost_ret (v := .bool true) (by simp [results, Try.results5, go_sem]) rfl ⟨rfl, HB.out⟩
  | false =>
  go_wp2_with fail
  refine wp_region_plan (some w3.heap.size) [] [] (.take 0 (.take 1 (.take 3 (.take 4 (.one 2 (.one 5 (.take 6 (.take 7 (.take 8 (.take 9 (.take 11 (.take 12 (.one 10 (.one 13 (.take 14 (.take 15 (.take 16 (.take 17 (.take 18 (.take 20 (.take 21 (.one 19 (.one 22 (.take 23 (.take 24 (.take 25 (.take 26 (.take 27 (.take 29 (.take 30 (.one 28 (.one 31 (.take 32 (.take 33 (.take 34 (.one 35 (.take 36 (.take 37 .done)))))))))))))))))))))))))))))))))))))) (by kernel_rfl) (by kernel_rfl) (fun _ _ dd _ _ h => by cases dd <;> exact h) ?_
  intro W0 hW0
  have hbW : Below w3.heap.size w3 W0 := by rw [hW0]; exact below_drew w3
  have hn : w3.heap.size ≤ W0.heap.size := hbW.size
  clear hW0
  have HL2 := H
  generalize W0 = Wz at *
  (refine pl_take (d := 14) (v := ?_) rfl rfl rfl ?_ ?_; rotate_left; (focus ((intro w' hb0 hw'; go_simp) <;> with_reducible rfl)); simp only [Act.put, List.setIfInBounds_toArray, List.set_cons_zero, List.set_cons_succ])
  (refine pl_take (d := 15) (v := ?_) rfl rfl rfl ?_ ?_; rotate_left; (focus ((intro w' hb0 hw'; go_simp) <;> with_reducible rfl)); simp only [Act.put, List.setIfInBounds_toArray, List.set_cons_zero, List.set_cons_succ])
  (refine pl_take (d := 17) (v := ?_) rfl rfl rfl ?_ ?_; rotate_left; (focus ((intro w' hb0 hw'; go_simp) <;> with_reducible rfl)); simp only [Act.put, List.setIfInBounds_toArray, List.set_cons_zero, List.set_cons_succ])
  (refine pl_take (d := 18) (v := ?_) rfl rfl rfl ?_ ?_; rotate_left; (focus ((intro w' hb0 hw'; go_simp) <;> with_reducible rfl)); simp only [Act.put, List.setIfInBounds_toArray, List.set_cons_zero, List.set_cons_succ])
  refine pl_one rfl rfl (fun K hK => ?_)
  go_simp
  refine (byId14 l m Wz oa _ c (HL2.out.below hbW)).mono ?_
  rintro r Wv ⟨rfl, hbk0⟩
  have hbk : Below w3.heap.size Wz Wv := hbk0.mono hn
  refine hK _ _ hbk ?_
  clear hK
  replace hbW := hbW.trans hbk
  replace hn := Nat.le_trans hn hbk0.size
  clear hbk hbk0
  generalize Wv = Wz at *
  refine pl_one rfl rfl (fun K hK => ?_)
  go_simp
  refine (refById15 l m Wz oa _ c (HL2.out.below hbW)).mono ?_
  rintro r Wv ⟨rfl, hbk0⟩
  have hbk : Below w3.heap.size Wz Wv := hbk0.mono hn
  refine hK _ _ hbk ?_
  clear hK
  replace hbW := hbW.trans hbk
  replace hn := Nat.le_trans hn hbk0.size
  clear hbk hbk0
  generalize Wv = Wz at *
  refine pl_take (d := 20) (v := .bool true) rfl rfl rfl ?_ ?_
  · intro w' hb0 hw'
    go_simp
  simp only [Act.put, List.setIfInBounds_toArray, List.set_cons_zero, List.set_cons_succ]
  (refine pl_take (d := 21) (v := ?_) rfl rfl rfl ?_ ?_; rotate_left; (focus ((intro w' hb0 hw'; go_simp) <;> with_reducible rfl)); simp only [Act.put, List.setIfInBounds_toArray, List.set_cons_zero, List.set_cons_succ])
  (refine pl_take (d := 22) (v := ?_) rfl rfl rfl ?_ ?_; rotate_left; (focus ((intro w' hb0 hw'; go_simp) <;> with_reducible rfl)); simp only [Act.put, List.setIfInBounds_toArray, List.set_cons_zero, List.set_cons_succ])
  (refine pl_take (d := 23) (v := ?_) rfl rfl rfl ?_ ?_; rotate_left; (focus ((intro w' hb0 hw'; go_simp) <;> with_reducible rfl)); simp only [Act.put, List.setIfInBounds_toArray, List.set_cons_zero, List.set_cons_succ])
  (refine pl_take (d := 25) (v := ?_) rfl rfl rfl ?_ ?_; rotate_left; (focus ((intro w' hb0 hw'; go_simp) <;> with_reducible rfl)); simp only [Act.put, List.setIfInBounds_toArray, List.set_cons_zero, List.set_cons_succ])
  (refine pl_take (d := 26) (v := ?_) rfl rfl rfl ?_ ?_; rotate_left; (focus ((intro w' hb0 hw'; go_simp) <;> with_reducible rfl)); simp only [Act.put, List.setIfInBounds_toArray, List.set_cons_zero, List.set_cons_succ])
  refine pl_one rfl rfl (fun K hK => ?_)
  go_simp
  refine (waits16 l m Wz oa _ c (HL2.out.below hbW)).mono ?_
  rintro r Wv ⟨rfl, hbk0⟩
  have hbk : Below w3.heap.size Wz Wv := hbk0.mono hn
  refine hK _ _ hbk ?_
  clear hK
  replace hbW := hbW.trans hbk
  replace hn := Nat.le_trans hn hbk0.size
  clear hbk hbk0
  generalize Wv = Wz at *
  refine pl_one rfl rfl (fun K hK => ?_)
  go_simp
  refine (refWaits17 l m Wz oa _ c (HL2.out.below hbW)).mono ?_
  rintro r Wv ⟨rfl, hbk0⟩
  have hbk : Below w3.heap.size Wz Wv := hbk0.mono hn
  refine hK _ _ hbk ?_
  clear hK
  replace hbW := hbW.trans hbk
  replace hn := Nat.le_trans hn hbk0.size
  clear hbk hbk0
  generalize Wv = Wz at *
  refine pl_take (d := 28) (v := .bool true) rfl rfl rfl ?_ ?_
  · intro w' hb0 hw'
    go_simp
  simp only [Act.put, List.setIfInBounds_toArray, List.set_cons_zero, List.set_cons_succ]
  (refine pl_take (d := 29) (v := ?_) rfl rfl rfl ?_ ?_; rotate_left; (focus ((intro w' hb0 hw'; go_simp) <;> with_reducible rfl)); simp only [Act.put, List.setIfInBounds_toArray, List.set_cons_zero, List.set_cons_succ])
  (refine pl_take (d := 30) (v := ?_) rfl rfl rfl ?_ ?_; rotate_left; (focus ((intro w' hb0 hw'; go_simp) <;> with_reducible rfl)); simp only [Act.put, List.setIfInBounds_toArray, List.set_cons_zero, List.set_cons_succ])
  (refine pl_take (d := 31) (v := ?_) rfl rfl rfl ?_ ?_; rotate_left; (focus ((intro w' hb0 hw'; go_simp) <;> with_reducible rfl)); simp only [Act.put, List.setIfInBounds_toArray, List.set_cons_zero, List.set_cons_succ])
  refine pl_take (d := 32) (v := .agg e.cells.toArray) rfl rfl rfl ?_ ?_
  · intro w' hb0 hw'
    exact run_load_blk rfl (HX.out.later (hbW.trans hw')) (by rfl) row26
  simp only [Act.put, List.setIfInBounds_toArray, List.set_cons_zero, List.set_cons_succ]
  (refine pl_take (d := 34) (v := ?_) rfl rfl rfl ?_ ?_; rotate_left; (focus ((intro w' hb0 hw'; go_simp) <;> with_reducible rfl)); simp only [Act.put, List.setIfInBounds_toArray, List.set_cons_zero, List.set_cons_succ])
  refine pl_take (d := 35) (v := .agg e.cells.toArray) rfl rfl rfl ?_ ?_
  · intro w' hb0 hw'
    exact run_load_blk rfl (HX.out.later (hbW.trans hw')) (by rfl) row26
  simp only [Act.put, List.setIfInBounds_toArray, List.set_cons_zero, List.set_cons_succ]
  refine pl_one rfl rfl (fun K hK => ?_)
  go_simp
  refine (asks18 l e Wz oa _ c (HL2.out.below hbW)).mono ?_
  rintro r Wv ⟨rfl, hbk0⟩
  have hbk : Below w3.heap.size Wz Wv := hbk0.mono hn
  refine hK _ _ hbk ?_
  clear hK
  replace hbW := hbW.trans hbk
  replace hn := Nat.le_trans hn hbk0.size
  clear hbk hbk0
  generalize Wv = Wz at *
  refine pl_one rfl rfl (fun K hK => ?_)
  go_simp
  refine (refAsks19 l e Wz oa _ c (HL2.out.below hbW)).mono ?_
  rintro r Wv ⟨rfl, hbk0⟩
  have hbk : Below w3.heap.size Wz Wv := hbk0.mono hn
  refine hK _ _ hbk ?_
  clear hK
  replace hbW := hbW.trans hbk
  replace hn := Nat.le_trans hn hbk0.size
  clear hbk hbk0
  generalize Wv = Wz at *
  refine pl_take (d := 37) (v := .bool true) rfl rfl rfl ?_ ?_
  · intro w' hb0 hw'
    go_simp
  simp only [Act.put, List.setIfInBounds_toArray, List.set_cons_zero, List.set_cons_succ]
  (refine pl_take (d := 38) (v := ?_) rfl rfl rfl ?_ ?_; rotate_left; (focus ((intro w' hb0 hw'; go_simp) <;> with_reducible rfl)); simp only [Act.put, List.setIfInBounds_toArray, List.set_cons_zero, List.set_cons_succ])
  (refine pl_take (d := 39) (v := ?_) rfl rfl rfl ?_ ?_; rotate_left; (focus ((intro w' hb0 hw'; go_simp) <;> with_reducible rfl)); simp only [Act.put, List.setIfInBounds_toArray, List.set_cons_zero, List.set_cons_succ])
  (refine pl_take (d := 40) (v := ?_) rfl rfl rfl ?_ ?_; rotate_left; (focus ((intro w' hb0 hw'; go_simp) <;> with_reducible rfl)); simp only [Act.put, List.setIfInBounds_toArray, List.set_cons_zero, List.set_cons_succ])
  refine pl_take (d := 41) (v := .agg e.cells.toArray) rfl rfl rfl ?_ ?_
  · intro w' hb0 hw'
    exact run_load_blk rfl (HX.out.later (hbW.trans hw')) (by rfl) row26
  simp only [Act.put, List.setIfInBounds_toArray, List.set_cons_zero, List.set_cons_succ]
  (refine pl_take (d := 43) (v := ?_) rfl rfl rfl ?_ ?_; rotate_left; (focus ((intro w' hb0 hw'; go_simp) <;> with_reducible rfl)); simp only [Act.put, List.setIfInBounds_toArray, List.set_cons_zero, List.set_cons_succ])
  refine pl_take (d := 44) (v := .agg e.cells.toArray) rfl rfl rfl ?_ ?_
  · intro w' hb0 hw'
    exact run_load_blk rfl (HX.out.later (hbW.trans hw')) (by rfl) row26
  simp only [Act.put, List.setIfInBounds_toArray, List.set_cons_zero, List.set_cons_succ]
  refine pl_one rfl rfl (fun K hK => ?_)
  go_simp
  refine (for20 l e Wz oa _ c (HL2.out.below hbW)).mono ?_
  rintro r Wv ⟨rfl, hbk0⟩
  have hbk : Below w3.heap.size Wz Wv := hbk0.mono hn
  refine hK _ _ hbk ?_
  clear hK
  replace hbW := hbW.trans hbk
  replace hn := Nat.le_trans hn hbk0.size
  clear hbk hbk0
  generalize Wv = Wz at *
  refine pl_one rfl rfl (fun K hK => ?_)
  go_simp
  refine (refFor21 l e Wz oa _ c (HL2.out.below hbW)).mono ?_
  rintro r Wv ⟨rfl, hbk0⟩
  have hbk : Below w3.heap.size Wz Wv := hbk0.mono hn
  refine hK _ _ hbk ?_
  clear hK
  replace hbW := hbW.trans hbk
  replace hn := Nat.le_trans hn hbk0.size
  clear hbk hbk0
  generalize Wv = Wz at *
  refine pl_take (d := 46) (v := .bool true) rfl rfl rfl ?_ ?_
  · intro w' hb0 hw'
    go_simp
  simp only [Act.put, List.setIfInBounds_toArray, List.set_cons_zero, List.set_cons_succ]
  (refine pl_take (d := 47) (v := ?_) rfl rfl rfl ?_ ?_; rotate_left; (focus ((intro w' hb0 hw'; go_simp) <;> with_reducible rfl)); simp only [Act.put, List.setIfInBounds_toArray, List.set_cons_zero, List.set_cons_succ])
  (refine pl_take (d := 48) (v := ?_) rfl rfl rfl ?_ ?_; rotate_left; (focus ((intro w' hb0 hw'; go_simp) <;> with_reducible rfl)); simp only [Act.put, List.setIfInBounds_toArray, List.set_cons_zero, List.set_cons_succ])
  refine pl_one rfl rfl (fun K hK => ?_)
  go_simp
  refine (works9 Wz).mono ?_
  rintro r Wv ⟨rfl, hbk0⟩
  have hbk : Below w3.heap.size Wz Wv := hbk0.mono hn
  refine hK _ _ hbk ?_
  clear hK
  replace hbW := hbW.trans hbk
  replace hn := Nat.le_trans hn hbk0.size
  clear hbk hbk0
  generalize Wv = Wz at *
  (refine pl_take (d := 50) (v := ?_) rfl rfl rfl ?_ ?_; rotate_left; (focus ((intro w' hb0 hw'; go_simp) <;> with_reducible rfl)); simp only [Act.put, List.setIfInBounds_toArray, List.set_cons_zero, List.set_cons_succ])
  (refine pl_take (d := 6) (v := ?_) rfl rfl rfl ?_ ?_; rotate_left; (focus ((intro w' hb0 hw'; go_simp) <;> with_reducible rfl)); simp only [Act.put, List.setIfInBounds_toArray, List.set_cons_zero, List.set_cons_succ])
  refine pl_end ?_
  have HBW := Lib.hid (below_step HB.out hbW)
  clear hbW
  go_wp2
  refine bodyPost_ret (v := .bool true) (by simp [results, Try.results5, go_sem]) rfl ⟨rfl, HBW.out⟩
end Go.Proofs.Ytmfglppgpjplfaa
