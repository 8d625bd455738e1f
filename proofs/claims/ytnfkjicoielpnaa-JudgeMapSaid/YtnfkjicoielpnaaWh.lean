/-
  Walk: which result is the first wrong one.
-/
import Derived.Test.YtnfkjicoielpnaaWg
namespace Go.Proofs.Ytnfkjicoielpnaa
open Go.RowKit Go.Proofs.Ytnfkjicoielpnaa.Plan Go.Proofs.Ytnfkjicoielpnaa.Eager
set_option maxHeartbeats 1000000
set_option maxRecDepth 20000
set_option linter.unusedVariables false
set_option linter.unusedSimpArgs false

/-- does the result at a place fit what is known of its key? -/
def fitAt (l : List Res) (i : Nat) : Bool := match l[i]? with
  | some r => fits (known (ofKey (l.take i) r.key)) r
  | none => true
def judgeD (l : List Res) : Int := match (List.range l.length).find? fun i => !fitAt l i with
  | some i => (i : Int)
  | none => -1
theorem judgeD_at (l : List Res) (k : Nat) (hk : k < l.length) (h : ∀ j, j < k → fitAt l j = true) (h1 : fitAt l k = false) : judgeD l = (k : Int) := by
  have e : (List.range l.length).find? (fun i => !fitAt l i) = some k := by
    rw [List.find?_range_eq_some]
    exact ⟨by simp [h1], by simpa using hk, fun j hj => by simp [h j hj]⟩
  unfold judgeD; rw [e]
theorem judgeD_none (l : List Res) (h : ∀ j, j < l.length → fitAt l j = true) : judgeD l = -1 := by
  have e : (List.range l.length).find? (fun i => !fitAt l i) = none := by
    rw [List.find?_range_eq_none]
    exact fun j hj => by simp [h j hj]
  unfold judgeD; rw [e]

theorem judge7 (l : List Res) (w : World) (oa : Option Addr) (n c : Nat) (h : RRes w oa n c l) (hl : l.length ≤ 1000) :
    Calls Try.prog 7 #[.slice oa n c] w fun r w' => r = .returned (.int .i64 (judgeD l)) ∧ Below w.heap.size w w' := by
  obtain rfl : n = l.length := h.rows.len
  have H := Lib.hid h; have HL := Lib.hid hl; clear h hl
  go_enter Try.func7, Try.ntmps7
  go_wp2
  go_loopw [3, 4, 7] (fun _ _ i wr => ∃ k : Nat, k ≤ l.length ∧ i = .int .i64 k ∧ Hid (∀ j, j < k → fitAt l j = true) ∧ Hid (Below w.heap.size w wr)) (fun _ _ i _ => l.length - (intOf i).toNat)
  case atStart => exact ⟨0, by omega, rfl, Lib.hid (fun j h => by omega), by (with_reducible try refine Lib.hid ?_); (repeat (with_reducible first | assumption | exact Below.refl _ _ | apply Below.drew | apply Below.drewN' | apply Below.setCell | apply Below.alloc)) <;> (try simp [length_fillTo, length_turnTo]) <;> (try omega)⟩
  case round =>
    obtain ⟨k, hk, rfl, hS, hbel⟩ := hrel
    by_cases hlt : k < l.length
    · have hi1 : (k : Int) < (l.length : Int) := by omega
      have rk : IntKind.i64.wrap ((k : Int) + 1) = ((k + 1 : Nat) : Int) := by
        have h1 := HL.out
        rw [IntKind.wrap_i64]; omega
      have hkc : (k : Int) ≤ (c : Int) := by have := H.out.le; omega
      have hkc' : k ≤ c := by omega
      obtain ⟨b1, p1, rfl, hb1, e0, e1, e2, e3, e4, e5, e6, e7⟩ := (H.out.rows.below hbel.out).res hlt
      have HF : Hid (fitAt l k = fits (known (ofKey (l.take k) l[k].key)) l[k]) := by show _ = _; unfold fitAt; rw [List.getElem?_eq_getElem hlt]
      obtain ⟨q1, hq1'⟩ : ∃ q, l[k] = q := ⟨_, rfl⟩
      rw [hq1'] at e0 e1 e2 e3 e4 e5 e6 e7 HF
      clear hq1'
      obtain ⟨job, kind, ver, key, val, has, gone, err⟩ := q1
      simp only at e0 e1 e2 e3 e4 e5 e6 e7 HF
      have hal : Below wr.heap.size wr (wr.alloc (.cells (Res.cells ⟨job, kind, ver, key, val, has, gone, err⟩).toArray 36)) := (Below.refl _ _).alloc (Nat.le_refl _) _
      have hX : Blk (wr.alloc (.cells (Res.cells ⟨job, kind, ver, key, val, has, gone, err⟩).toArray 36)) wr.heap.size (Res.cells ⟨job, kind, ver, key, val, has, gone, err⟩) := Blk.new' rfl
      have hb2 := below_step hbel.out hal
      have hTK := ((H.out.below hbel.out).below hal).take (Nat.le_of_lt hlt)
      have HX := Lib.hid hX; have HB := Lib.hid hb2; have HTK := Lib.hid hTK
      clear hX hb2 hTK hal hbel
      cases hf : fitAt l k
      · have hfit : Hid (fits (known (ofKey (l.take k) key)) ⟨job, kind, ver, key, val, has, gone, err⟩ = false) := HF.out.symm.trans hf
        have HJ := Lib.hid (judgeD_at l k hlt hS.out hf)
        clear hf HF
        go_wp2
        refine wp_region_plan none [] [] (.take 0 (.take 1 (.take 2 (.take 3 (.take 4 (.take 7 (.one 5 (.one 6 (.one 8 (.take 9 .done)))))))))) (by kernel_rfl) (by kernel_rfl) (fun _ _ dd _ _ h => by cases dd <;> exact h) ?_
        intro W0 hW0
        have hX0 : Blk W0 wr.heap.size (Res.cells ⟨job, kind, ver, key, val, has, gone, err⟩) := by rw [hW0]; exact HX.out.drew
        have hbW0 : Below w.heap.size w W0 := by rw [hW0]; exact HB.out.drew
        have HTK0 : RRes W0 (some ⟨b1, p1, none⟩) k c (l.take k) := by rw [hW0]; exact HTK.out.below (below_drew _)
        clear hW0 e0 e1 e2 e3 e4 e5 e6 e7
        (refine pl_take (d := 12) (v := ?_) rfl rfl rfl ?_ ?_; rotate_left; (focus ((intro w' hb0 hw'; go_simp) <;> with_reducible rfl)); simp only [Act.put, List.setIfInBounds_toArray, List.set_cons_zero, List.set_cons_succ])
        (refine pl_take (d := 13) (v := ?_) rfl rfl rfl ?_ ?_; rotate_left; (focus ((intro w' hb0 hw'; go_simp) <;> with_reducible rfl)); simp only [Act.put, List.setIfInBounds_toArray, List.set_cons_zero, List.set_cons_succ])
        (refine pl_take (d := 14) (v := ?_) rfl rfl rfl ?_ ?_; rotate_left; (focus ((intro w' hb0 hw'; go_simp) <;> with_reducible rfl)); simp only [Act.put, List.setIfInBounds_toArray, List.set_cons_zero, List.set_cons_succ])
        (refine pl_take (d := 15) (v := ?_) rfl rfl rfl ?_ ?_; rotate_left; (focus ((intro w' hb0 hw'; go_simp) <;> with_reducible rfl)); simp only [Act.put, List.setIfInBounds_toArray, List.set_cons_zero, List.set_cons_succ])
        (refine pl_take (d := 16) (v := ?_) rfl rfl rfl ?_ ?_; rotate_left; (focus ((intro w' hb0 hw'; have hc := hX0.later hw'; have c0 := hc.at' 0 (by simp [Res.cells]); have c1 := hc.at' 1 (by simp [Res.cells]); have c2 := hc.at' 2 (by simp [Res.cells]); have c3 := hc.at' 3 (by simp [Res.cells]); have c4 := hc.at' 4 (by simp [Res.cells]); have c5 := hc.at' 5 (by simp [Res.cells]); have c6 := hc.at' 6 (by simp [Res.cells]); have c7 := hc.at' 7 (by simp [Res.cells]); simp only [Res.cells, List.getElem_cons_succ, List.getElem_cons_zero] at c0 c1 c2 c3 c4 c5 c6 c7; go_simp) <;> with_reducible rfl)); simp only [Act.put, List.setIfInBounds_toArray, List.set_cons_zero, List.set_cons_succ])
        (refine pl_take (d := 19) (v := ?_) rfl rfl rfl ?_ ?_; rotate_left; (focus ((intro w' hb0 hw'; have hc := hX0.later hw'; have c0 := hc.at' 0 (by simp [Res.cells]); have c1 := hc.at' 1 (by simp [Res.cells]); have c2 := hc.at' 2 (by simp [Res.cells]); have c3 := hc.at' 3 (by simp [Res.cells]); have c4 := hc.at' 4 (by simp [Res.cells]); have c5 := hc.at' 5 (by simp [Res.cells]); have c6 := hc.at' 6 (by simp [Res.cells]); have c7 := hc.at' 7 (by simp [Res.cells]); simp only [Res.cells, List.getElem_cons_succ, List.getElem_cons_zero] at c0 c1 c2 c3 c4 c5 c6 c7; go_simp) <;> with_reducible rfl)); simp only [Act.put, List.setIfInBounds_toArray, List.set_cons_zero, List.set_cons_succ])
        refine pl_one rfl rfl (fun K hK => ?_)
        go_simp
        refine (of21 (l.take k) key W0 (some ⟨b1, p1, none⟩) k c HTK0 (by have := HL.out; simp; omega)).mono ?_
        rintro r W1 ⟨⟨o', c', rfl, hR⟩, hbk⟩
        refine hK _ _ (hbk : Rel none W0 W1) ?_
        clear hK
        have hbW1 := below_step hbW0 hbk
        clear hbk
        refine pl_one rfl rfl (fun K hK => ?_)
        go_simp
        refine (known20 (ofKey (l.take k) key) W1 o' _ c' hR).mono ?_
        rintro r W2 ⟨rfl, hbk⟩
        refine hK _ _ (hbk : Rel none W1 W2) ?_
        clear hK
        have hbW2 := below_step hbW1 hbk
        clear hbk
        refine pl_one rfl rfl (fun K hK => ?_)
        go_simp
        refine (fits17 (known (ofKey (l.take k) key)) ⟨job, kind, ver, key, val, has, gone, err⟩ W2).mono ?_
        rintro r W3 ⟨rfl, hbk⟩
        refine hK _ _ (hbk : Rel none W2 W3) ?_
        clear hK
        have hbW3 := below_step hbW2 hbk
        clear hbk
        rw [hfit.out]
        (refine pl_take (d := 21) (v := ?_) rfl rfl rfl ?_ ?_; rotate_left; (focus ((intro w' hb0 hw'; go_simp) <;> with_reducible rfl)); simp only [Act.put, List.setIfInBounds_toArray, List.set_cons_zero, List.set_cons_succ])
        refine pl_end ?_
        have HB3 := Lib.hid hbW3
        clear hbW3 hbW2 hbW1 hbW0
        go_wp2
        refine bodyPost_ret (v := .int .i64 (k : Int)) (by simp [results, Try.results7, go_sem]) rfl ⟨by rw [HJ.out], HB3.out⟩
      · have hfit : Hid (fits (known (ofKey (l.take k) key)) ⟨job, kind, ver, key, val, has, gone, err⟩ = true) := HF.out.symm.trans hf
        have HS2 : Hid (∀ j, j < k + 1 → fitAt l j = true) := fun j hj => by
          by_cases e : j = k
          · rw [e]; exact hf
          · exact hS.out j (by omega)
        clear hf HF hS
        go_wp2
        refine wp_region_plan none [] [] (.take 0 (.take 1 (.take 2 (.take 3 (.take 4 (.take 7 (.one 5 (.one 6 (.one 8 (.take 9 .done)))))))))) (by kernel_rfl) (by kernel_rfl) (fun _ _ dd _ _ h => by cases dd <;> exact h) ?_
        intro W0 hW0
        have hX0 : Blk W0 wr.heap.size (Res.cells ⟨job, kind, ver, key, val, has, gone, err⟩) := by rw [hW0]; exact HX.out.drew
        have hbW0 : Below w.heap.size w W0 := by rw [hW0]; exact HB.out.drew
        have HTK0 : RRes W0 (some ⟨b1, p1, none⟩) k c (l.take k) := by rw [hW0]; exact HTK.out.below (below_drew _)
        clear hW0 e0 e1 e2 e3 e4 e5 e6 e7
        (refine pl_take (d := 12) (v := ?_) rfl rfl rfl ?_ ?_; rotate_left; (focus ((intro w' hb0 hw'; go_simp) <;> with_reducible rfl)); simp only [Act.put, List.setIfInBounds_toArray, List.set_cons_zero, List.set_cons_succ])
        (refine pl_take (d := 13) (v := ?_) rfl rfl rfl ?_ ?_; rotate_left; (focus ((intro w' hb0 hw'; go_simp) <;> with_reducible rfl)); simp only [Act.put, List.setIfInBounds_toArray, List.set_cons_zero, List.set_cons_succ])
        (refine pl_take (d := 14) (v := ?_) rfl rfl rfl ?_ ?_; rotate_left; (focus ((intro w' hb0 hw'; go_simp) <;> with_reducible rfl)); simp only [Act.put, List.setIfInBounds_toArray, List.set_cons_zero, List.set_cons_succ])
        (refine pl_take (d := 15) (v := ?_) rfl rfl rfl ?_ ?_; rotate_left; (focus ((intro w' hb0 hw'; go_simp) <;> with_reducible rfl)); simp only [Act.put, List.setIfInBounds_toArray, List.set_cons_zero, List.set_cons_succ])
        (refine pl_take (d := 16) (v := ?_) rfl rfl rfl ?_ ?_; rotate_left; (focus ((intro w' hb0 hw'; have hc := hX0.later hw'; have c0 := hc.at' 0 (by simp [Res.cells]); have c1 := hc.at' 1 (by simp [Res.cells]); have c2 := hc.at' 2 (by simp [Res.cells]); have c3 := hc.at' 3 (by simp [Res.cells]); have c4 := hc.at' 4 (by simp [Res.cells]); have c5 := hc.at' 5 (by simp [Res.cells]); have c6 := hc.at' 6 (by simp [Res.cells]); have c7 := hc.at' 7 (by simp [Res.cells]); simp only [Res.cells, List.getElem_cons_succ, List.getElem_cons_zero] at c0 c1 c2 c3 c4 c5 c6 c7; go_simp) <;> with_reducible rfl)); simp only [Act.put, List.setIfInBounds_toArray, List.set_cons_zero, List.set_cons_succ])
        (refine pl_take (d := 19) (v := ?_) rfl rfl rfl ?_ ?_; rotate_left; (focus ((intro w' hb0 hw'; have hc := hX0.later hw'; have c0 := hc.at' 0 (by simp [Res.cells]); have c1 := hc.at' 1 (by simp [Res.cells]); have c2 := hc.at' 2 (by simp [Res.cells]); have c3 := hc.at' 3 (by simp [Res.cells]); have c4 := hc.at' 4 (by simp [Res.cells]); have c5 := hc.at' 5 (by simp [Res.cells]); have c6 := hc.at' 6 (by simp [Res.cells]); have c7 := hc.at' 7 (by simp [Res.cells]); simp only [Res.cells, List.getElem_cons_succ, List.getElem_cons_zero] at c0 c1 c2 c3 c4 c5 c6 c7; go_simp) <;> with_reducible rfl)); simp only [Act.put, List.setIfInBounds_toArray, List.set_cons_zero, List.set_cons_succ])
        refine pl_one rfl rfl (fun K hK => ?_)
        go_simp
        refine (of21 (l.take k) key W0 (some ⟨b1, p1, none⟩) k c HTK0 (by have := HL.out; simp; omega)).mono ?_
        rintro r W1 ⟨⟨o', c', rfl, hR⟩, hbk⟩
        refine hK _ _ (hbk : Rel none W0 W1) ?_
        clear hK
        have hbW1 := below_step hbW0 hbk
        clear hbk
        refine pl_one rfl rfl (fun K hK => ?_)
        go_simp
        refine (known20 (ofKey (l.take k) key) W1 o' _ c' hR).mono ?_
        rintro r W2 ⟨rfl, hbk⟩
        refine hK _ _ (hbk : Rel none W1 W2) ?_
        clear hK
        have hbW2 := below_step hbW1 hbk
        clear hbk
        refine pl_one rfl rfl (fun K hK => ?_)
        go_simp
        refine (fits17 (known (ofKey (l.take k) key)) ⟨job, kind, ver, key, val, has, gone, err⟩ W2).mono ?_
        rintro r W3 ⟨rfl, hbk⟩
        refine hK _ _ (hbk : Rel none W2 W3) ?_
        clear hK
        have hbW3 := below_step hbW2 hbk
        clear hbk
        rw [hfit.out]
        (refine pl_take (d := 21) (v := ?_) rfl rfl rfl ?_ ?_; rotate_left; (focus ((intro w' hb0 hw'; go_simp) <;> with_reducible rfl)); simp only [Act.put, List.setIfInBounds_toArray, List.set_cons_zero, List.set_cons_succ])
        refine pl_end ?_
        have HB3 := Lib.hid hbW3
        clear hbW3 hbW2 hbW1 hbW0
        go_wp2
        go_roundw
        case measure => (simp [intOf]) <;> omega
        case rel => exact ⟨k + 1, by omega, rfl, HS2, HB3⟩
    · obtain rfl : k = l.length := by omega
      have HJ := Lib.hid (judgeD_none l hS.out)
      have hb1 := hbel.out
      clear hS
      go_wp2
      refine bodyPost_ret (v := .int .i64 (-1)) (by simp [results, Try.results7, go_sem]) rfl ⟨by rw [HJ.out], hb1⟩
end Go.Proofs.Ytnfkjicoielpnaa
