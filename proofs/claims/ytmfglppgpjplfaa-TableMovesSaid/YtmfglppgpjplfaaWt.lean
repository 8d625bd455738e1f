/-
  The law's walk: a table with one session set, without one, and without those of a name.
-/
import Derived.Test.YtmfglppgpjplfaaWq
namespace Go.Proofs.Ytmfglppgpjplfaa
open Go.RowKit Go.Proofs.Ytmfglppgpjplfaa.Plan Go.Proofs.Ytmfglppgpjplfaa.Eager
set_option maxHeartbeats 4000000
set_option maxRecDepth 20000
set_option linter.unusedVariables false
set_option linter.unusedSimpArgs false

theorem put_wf (l : List Ses) (a : Int) (s : Ses) (h : ∀ x ∈ l, x.Wf) (hs : s.Wf) : ∀ x ∈ putD l a s, x.Wf := by
  intro x hx
  unfold putD at hx
  split at hx
  · rcases List.mem_or_eq_of_mem_set hx with h1 | h1
    · exact h x h1
    · rw [h1]; exact hs
  · exact h x hx
theorem drop_wf (l : List Ses) (a : Int) (h : ∀ x ∈ l, x.Wf) : ∀ x ∈ dropD l a, x.Wf := by
  intro x hx
  unfold dropD at hx
  split at hx
  · exact h x (List.mem_of_mem_eraseIdx hx)
  · exact h x hx
theorem close_wf (l : List Ses) (name : ByteArray) (h : ∀ x ∈ l, x.Wf) : ∀ x ∈ closeD l name, x.Wf := by
  intro x hx
  exact h x (List.mem_filter.1 hx).1

theorem tableMoves6 (l : List Ses) (a : Int) (s : Ses) (name : ByteArray) (w : World) (oa : Option Addr) (n c : Nat) (h : RSes w oa n c l) (hwf : ∀ x ∈ l, x.Wf) (hsw : s.Wf) :
    Calls Try.prog 6 #[.slice oa n c, .int .i64 a, .agg s.cells.toArray, .string name] w fun r w' => r = .returned (.bool true) ∧ Below w.heap.size w w' := by
  obtain rfl : n = l.length := h.rows.len
  have hal : Below w.heap.size w (w.alloc (.cells s.cells.toArray 30)) := (Below.refl _ _).alloc (Nat.le_refl _) _
  have HX : Hid (Blk (w.alloc (.cells s.cells.toArray 30)) w.heap.size s.cells) := Blk.new' rfl
  have H := Lib.hid (h.below hal); have HB := Lib.hid hal
  have HWP := Lib.hid (put_wf l a s hwf hsw); have HWD := Lib.hid (drop_wf l a hwf); have HWC := Lib.hid (close_wf l name hwf)
  clear h hal hwf hsw
  go_enter Try.func6, Try.ntmps6
  go_wp2_with fail
  refine (great7 l _ oa _ c H.out).mono ?_
  rintro r w2 ⟨⟨b, rfl, hbl⟩, hb⟩
  replace HX := Lib.hid (HX.out.later hb); replace H := Lib.hid (H.out.below hb); replace HB := Lib.hid (below_step HB.out hb)
  have HBL := Lib.hid hbl
  clear hb hbl
  cases b with
  | true =>
    go_wp2_with fail
    refine (works9 _).mono ?_
    rintro r w3 ⟨rfl, hb⟩
    replace HB := Lib.hid (below_step HB.out hb)
    clear hb
    go_wp2
    refine bodyPost_ret (v := .bool true) (by simp [results, Try.results6, go_sem]) rfl ⟨rfl, HB.out⟩
  | false =>
  have HL9 : Hid (l.length ≤ 900) := by
    have := HBL.out rfl
    show _ ≤ _
    omega
  clear HBL
  go_wp2_with (refine stop_load (ty := 30) rfl ?_)
  refine ⟨wpList_load_blk_w (by rfl) rfl HX.out (by rfl) row30 ?_⟩
  go_wp2_with fail
  refine (greatS8 s w2).mono ?_
  rintro r w3 ⟨⟨b, rfl⟩, hb⟩
  replace HX := Lib.hid (HX.out.later hb); replace H := Lib.hid (H.out.below hb); replace HB := Lib.hid (below_step HB.out hb)
  clear hb
  cases b with
  | true =>
    go_wp2_with fail
    refine (works9 _).mono ?_
    rintro r w4 ⟨rfl, hb⟩
    replace HB := Lib.hid (below_step HB.out hb)
    clear hb
    go_wp2
    refine bodyPost_ret (v := .bool true) (by simp [results, Try.results6, go_sem]) rfl ⟨rfl, HB.out⟩
  | false =>
  by_cases hbb : (1000 : Int) < (name.size : Int)
  · go_wp2_with fail
    refine (works9 _).mono ?_
    rintro r w4 ⟨rfl, hb⟩
    replace HB := Lib.hid (below_step HB.out hb)
    clear hb
    go_wp2
    refine bodyPost_ret (v := .bool true) (by simp [results, Try.results6, go_sem]) rfl ⟨rfl, HB.out⟩
  go_wp2_with fail
  clear hbb
  refine wp_region_plan (some w3.heap.size) [] [] (.take 0 (.take 1 (.take 2 (.take 4 (.take 5 (.take 6 (.one 3 (.one 7 (.one 8 (.take 9 (.take 10 (.take 11 (.take 13 (.take 14 (.one 12 (.one 15 (.one 16 (.take 17 (.take 18 (.take 19 (.take 20 (.take 22 (.take 23 (.one 21 (.one 24 (.one 25 (.take 26 (.take 27 (.one 28 (.take 29 (.take 30 .done))))))))))))))))))))))))))))))) (by kernel_rfl) (by kernel_rfl) (fun _ _ dd _ _ h => by cases dd <;> exact h) ?_
  intro W0 hW0
  have hbW : Below w3.heap.size w3 W0 := by rw [hW0]; exact below_drew w3
  have hn : w3.heap.size ≤ W0.heap.size := hbW.size
  clear hW0
  have HL2 := H
  generalize W0 = Wz at *
  (refine pl_take (d := 21) (v := ?_) rfl rfl rfl ?_ ?_; rotate_left; (focus ((intro w' hb0 hw'; go_simp) <;> with_reducible rfl)); simp only [Act.put, List.setIfInBounds_toArray, List.set_cons_zero, List.set_cons_succ])
  (refine pl_take (d := 22) (v := ?_) rfl rfl rfl ?_ ?_; rotate_left; (focus ((intro w' hb0 hw'; go_simp) <;> with_reducible rfl)); simp only [Act.put, List.setIfInBounds_toArray, List.set_cons_zero, List.set_cons_succ])
  refine pl_take (d := 23) (v := .agg s.cells.toArray) rfl rfl rfl ?_ ?_
  · intro w' hb0 hw'
    exact run_load_blk rfl (HX.out.later (hbW.trans hb0)) (by rfl) row30
  simp only [Act.put, List.setIfInBounds_toArray, List.set_cons_zero, List.set_cons_succ]
  (refine pl_take (d := 25) (v := ?_) rfl rfl rfl ?_ ?_; rotate_left; (focus ((intro w' hb0 hw'; go_simp) <;> with_reducible rfl)); simp only [Act.put, List.setIfInBounds_toArray, List.set_cons_zero, List.set_cons_succ])
  (refine pl_take (d := 26) (v := ?_) rfl rfl rfl ?_ ?_; rotate_left; (focus ((intro w' hb0 hw'; go_simp) <;> with_reducible rfl)); simp only [Act.put, List.setIfInBounds_toArray, List.set_cons_zero, List.set_cons_succ])
  refine pl_take (d := 27) (v := .agg s.cells.toArray) rfl rfl rfl ?_ ?_
  · intro w' hb0 hw'
    exact run_load_blk rfl (HX.out.later (hbW.trans hb0)) (by rfl) row30
  simp only [Act.put, List.setIfInBounds_toArray, List.set_cons_zero, List.set_cons_succ]
  refine pl_one rfl rfl (fun K hK => ?_)
  go_simp
  refine (put22 l a s Wz oa _ c (HL2.out.below hbW) HL9.out).mono ?_
  rintro r Wv ⟨v, rfl, hO, hbk0⟩
  have hbk : Below w3.heap.size Wz Wv := hbk0.mono hn
  refine hK _ _ hbk ?_
  clear hK
  obtain ⟨po, pc, rfl, hR⟩ := Own.rws hO rfl
  have hp : RSes Wv po _ pc _ := hR
  replace hbW := hbW.trans hbk
  replace hn := Nat.le_trans hn hbk0.size
  clear hbk hbk0 hO hR
  generalize Wv = Wz at *
  refine pl_one rfl rfl (fun K hK => ?_)
  go_simp
  refine (refPut23 l a s Wz oa _ c (HL2.out.below hbW) HL9.out).mono ?_
  rintro r Wv ⟨v, rfl, hO, hbk0⟩
  have hbk : Below w3.heap.size Wz Wv := hbk0.mono hn
  refine hK _ _ hbk ?_
  clear hK
  obtain ⟨qo, qc, rfl, hR⟩ := Own.rws hO rfl
  have hq : RSes Wv qo _ qc _ := hR
  replace hp := hp.below hbk0
  replace hbW := hbW.trans hbk
  replace hn := Nat.le_trans hn hbk0.size
  clear hbk hbk0 hO hR
  generalize Wv = Wz at *
  refine pl_one rfl rfl (fun K hK => ?_)
  go_simp
  refine (same12 (putD l a s) (putD l a s) Wz po qo _ _ pc qc hp hq HWP.out HWP.out).mono ?_
  rintro r Wv ⟨rfl, hbk0⟩
  rw [decide_eq_true rfl]
  have hbk : Below w3.heap.size Wz Wv := hbk0.mono hn
  refine hK _ _ hbk ?_
  clear hK
  replace hbW := hbW.trans hbk
  replace hn := Nat.le_trans hn hbk0.size
  clear hbk hbk0 hp hq
  generalize Wv = Wz at *
  (refine pl_take (d := 30) (v := ?_) rfl rfl rfl ?_ ?_; rotate_left; (focus ((intro w' hb0 hw'; go_simp) <;> with_reducible rfl)); simp only [Act.put, List.setIfInBounds_toArray, List.set_cons_zero, List.set_cons_succ])
  (refine pl_take (d := 31) (v := ?_) rfl rfl rfl ?_ ?_; rotate_left; (focus ((intro w' hb0 hw'; go_simp) <;> with_reducible rfl)); simp only [Act.put, List.setIfInBounds_toArray, List.set_cons_zero, List.set_cons_succ])
  (refine pl_take (d := 32) (v := ?_) rfl rfl rfl ?_ ?_; rotate_left; (focus ((intro w' hb0 hw'; go_simp) <;> with_reducible rfl)); simp only [Act.put, List.setIfInBounds_toArray, List.set_cons_zero, List.set_cons_succ])
  (refine pl_take (d := 34) (v := ?_) rfl rfl rfl ?_ ?_; rotate_left; (focus ((intro w' hb0 hw'; go_simp) <;> with_reducible rfl)); simp only [Act.put, List.setIfInBounds_toArray, List.set_cons_zero, List.set_cons_succ])
  (refine pl_take (d := 35) (v := ?_) rfl rfl rfl ?_ ?_; rotate_left; (focus ((intro w' hb0 hw'; go_simp) <;> with_reducible rfl)); simp only [Act.put, List.setIfInBounds_toArray, List.set_cons_zero, List.set_cons_succ])
  refine pl_one rfl rfl (fun K hK => ?_)
  go_simp
  refine (drop24 l a Wz oa _ c (HL2.out.below hbW) HL9.out).mono ?_
  rintro r Wv ⟨v, rfl, hO, hbk0⟩
  have hbk : Below w3.heap.size Wz Wv := hbk0.mono hn
  refine hK _ _ hbk ?_
  clear hK
  obtain ⟨po, pc, rfl, hR⟩ := Own.rws hO rfl
  have hp : RSes Wv po _ pc _ := hR
  replace hbW := hbW.trans hbk
  replace hn := Nat.le_trans hn hbk0.size
  clear hbk hbk0 hO hR
  generalize Wv = Wz at *
  refine pl_one rfl rfl (fun K hK => ?_)
  go_simp
  refine (refDrop25 l a Wz oa _ c (HL2.out.below hbW) HL9.out).mono ?_
  rintro r Wv ⟨v, rfl, hO, hbk0⟩
  have hbk : Below w3.heap.size Wz Wv := hbk0.mono hn
  refine hK _ _ hbk ?_
  clear hK
  obtain ⟨qo, qc, rfl, hR⟩ := Own.rws hO rfl
  have hq : RSes Wv qo _ qc _ := hR
  replace hp := hp.below hbk0
  replace hbW := hbW.trans hbk
  replace hn := Nat.le_trans hn hbk0.size
  clear hbk hbk0 hO hR
  generalize Wv = Wz at *
  refine pl_one rfl rfl (fun K hK => ?_)
  go_simp
  refine (same12 (dropD l a) (dropD l a) Wz po qo _ _ pc qc hp hq HWD.out HWD.out).mono ?_
  rintro r Wv ⟨rfl, hbk0⟩
  rw [decide_eq_true rfl]
  have hbk : Below w3.heap.size Wz Wv := hbk0.mono hn
  refine hK _ _ hbk ?_
  clear hK
  replace hbW := hbW.trans hbk
  replace hn := Nat.le_trans hn hbk0.size
  clear hbk hbk0 hp hq
  generalize Wv = Wz at *
  (refine pl_take (d := 38) (v := ?_) rfl rfl rfl ?_ ?_; rotate_left; (focus ((intro w' hb0 hw'; go_simp) <;> with_reducible rfl)); simp only [Act.put, List.setIfInBounds_toArray, List.set_cons_zero, List.set_cons_succ])
  (refine pl_take (d := 39) (v := ?_) rfl rfl rfl ?_ ?_; rotate_left; (focus ((intro w' hb0 hw'; go_simp) <;> with_reducible rfl)); simp only [Act.put, List.setIfInBounds_toArray, List.set_cons_zero, List.set_cons_succ])
  (refine pl_take (d := 40) (v := ?_) rfl rfl rfl ?_ ?_; rotate_left; (focus ((intro w' hb0 hw'; go_simp) <;> with_reducible rfl)); simp only [Act.put, List.setIfInBounds_toArray, List.set_cons_zero, List.set_cons_succ])
  (refine pl_take (d := 41) (v := ?_) rfl rfl rfl ?_ ?_; rotate_left; (focus ((intro w' hb0 hw'; go_simp) <;> with_reducible rfl)); simp only [Act.put, List.setIfInBounds_toArray, List.set_cons_zero, List.set_cons_succ])
  (refine pl_take (d := 43) (v := ?_) rfl rfl rfl ?_ ?_; rotate_left; (focus ((intro w' hb0 hw'; go_simp) <;> with_reducible rfl)); simp only [Act.put, List.setIfInBounds_toArray, List.set_cons_zero, List.set_cons_succ])
  (refine pl_take (d := 44) (v := ?_) rfl rfl rfl ?_ ?_; rotate_left; (focus ((intro w' hb0 hw'; go_simp) <;> with_reducible rfl)); simp only [Act.put, List.setIfInBounds_toArray, List.set_cons_zero, List.set_cons_succ])
  refine pl_one rfl rfl (fun K hK => ?_)
  go_simp
  refine (close26 l name Wz oa _ c (HL2.out.below hbW) HL9.out).mono ?_
  rintro r Wv ⟨v, rfl, hO, hbk0⟩
  have hbk : Below w3.heap.size Wz Wv := hbk0.mono hn
  refine hK _ _ hbk ?_
  clear hK
  obtain ⟨po, pc, rfl, hR⟩ := Own.rws hO rfl
  have hp : RSes Wv po _ pc _ := hR
  replace hbW := hbW.trans hbk
  replace hn := Nat.le_trans hn hbk0.size
  clear hbk hbk0 hO hR
  generalize Wv = Wz at *
  refine pl_one rfl rfl (fun K hK => ?_)
  go_simp
  refine (refClose27 l name Wz oa _ c (HL2.out.below hbW) HL9.out).mono ?_
  rintro r Wv ⟨v, rfl, hO, hbk0⟩
  have hbk : Below w3.heap.size Wz Wv := hbk0.mono hn
  refine hK _ _ hbk ?_
  clear hK
  obtain ⟨qo, qc, rfl, hR⟩ := Own.rws hO rfl
  have hq : RSes Wv qo _ qc _ := hR
  replace hp := hp.below hbk0
  replace hbW := hbW.trans hbk
  replace hn := Nat.le_trans hn hbk0.size
  clear hbk hbk0 hO hR
  generalize Wv = Wz at *
  refine pl_one rfl rfl (fun K hK => ?_)
  go_simp
  refine (same12 (closeD l name) (closeD l name) Wz po qo _ _ pc qc hp hq HWC.out HWC.out).mono ?_
  rintro r Wv ⟨rfl, hbk0⟩
  rw [decide_eq_true rfl]
  have hbk : Below w3.heap.size Wz Wv := hbk0.mono hn
  refine hK _ _ hbk ?_
  clear hK
  replace hbW := hbW.trans hbk
  replace hn := Nat.le_trans hn hbk0.size
  clear hbk hbk0 hp hq
  generalize Wv = Wz at *
  (refine pl_take (d := 47) (v := ?_) rfl rfl rfl ?_ ?_; rotate_left; (focus ((intro w' hb0 hw'; go_simp) <;> with_reducible rfl)); simp only [Act.put, List.setIfInBounds_toArray, List.set_cons_zero, List.set_cons_succ])
  (refine pl_take (d := 48) (v := ?_) rfl rfl rfl ?_ ?_; rotate_left; (focus ((intro w' hb0 hw'; go_simp) <;> with_reducible rfl)); simp only [Act.put, List.setIfInBounds_toArray, List.set_cons_zero, List.set_cons_succ])
  refine pl_one rfl rfl (fun K hK => ?_)
  go_simp
  refine (works9 Wz).mono ?_
  rintro r Wv ⟨rfl, hbk0⟩
  have hbk : Below w3.heap.size Wz Wv := hbk0.mono hn
  refine hK _ _ hbk ?_
  clear hK
  replace hbW := hbW.trans hbk
  clear hbk hbk0 hn
  generalize Wv = Wz at *
  (refine pl_take (d := 50) (v := ?_) rfl rfl rfl ?_ ?_; rotate_left; (focus ((intro w' hb0 hw'; go_simp) <;> with_reducible rfl)); simp only [Act.put, List.setIfInBounds_toArray, List.set_cons_zero, List.set_cons_succ])
  (refine pl_take (d := 8) (v := ?_) rfl rfl rfl ?_ ?_; rotate_left; (focus ((intro w' hb0 hw'; go_simp) <;> with_reducible rfl)); simp only [Act.put, List.setIfInBounds_toArray, List.set_cons_zero, List.set_cons_succ])
  refine pl_end ?_
  have HBW := Lib.hid (below_step HB.out hbW)
  clear hbW
  go_wp2
  refine bodyPost_ret (v := .bool true) (by simp [results, Try.results6, go_sem]) rfl ⟨rfl, HBW.out⟩
end Go.Proofs.Ytmfglppgpjplfaa
