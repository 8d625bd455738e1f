/-
  Walks: the document's states of all keys; its first wrong result.
-/
import Derived.Test.YtnfkjicoielpnaaWd
import Derived.Test.YtnfkjicoielpnaaWh
import Derived.Test.YtnfkjicoielpnaaWi
namespace Go.Proofs.Ytnfkjicoielpnaa
open Go.RowKit Go.Proofs.Ytnfkjicoielpnaa.Plan Go.Proofs.Ytnfkjicoielpnaa.Eager
set_option maxHeartbeats 2000000
set_option maxRecDepth 20000
set_option linter.unusedVariables false
set_option linter.unusedSimpArgs false

theorem states23 (l : List Res) (w : World) (oa : Option Addr) (n c : Nat) (h : RRes w oa n c l) (hl : l.length ≤ 900) :
    Calls Try.prog 23 #[.slice oa n c] w fun r w' => (∃ o' c', r = .returned (.slice o' (stsOf l).length c') ∧ Rws scells w' o' (stsOf l).length c' (stsOf l)) ∧ Below w.heap.size w w' := by
  obtain rfl : n = l.length := h.rows.len
  have H := Lib.hid h; have HL := Lib.hid hl; clear h hl
  go_enter Try.func23, Try.ntmps23
  go_wp2
  go_loopw [3, 4, 5] (fun v _ u wr => ∃ k : Nat, k ≤ l.length ∧ u = .int .i64 k ∧ Hid (Own wr w.heap.size 38 5 v (stsOf (l.take k)).length ((stsOf (l.take k)).flatMap scells)) ∧ Hid (Below w.heap.size w wr)) (fun _ _ u _ => l.length - (intOf u).toNat)
  case atStart => exact ⟨0, by omega, rfl, Lib.hid (Own.nil _ _ _ _), by (with_reducible try refine Lib.hid ?_); (repeat (with_reducible first | assumption | exact Below.refl _ _ | apply Below.drew | apply Below.drewN' | apply Below.setCell | apply Below.alloc)) <;> (try simp [length_fillTo, length_turnTo]) <;> (try omega)⟩
  case round =>
    obtain ⟨k, hk, rfl, hO, hbel⟩ := hrel
    by_cases hlt : k < l.length
    · have hi1 : (k : Int) < (l.length : Int) := by omega
      have rk : IntKind.i64.wrap ((k : Int) + 1) = ((k + 1 : Nat) : Int) := by
        have h1 := HL.out
        rw [IntKind.wrap_i64]; omega
      have hll := HL.out
      obtain ⟨b1, p1, rfl, hb1, e0, e1, e2, e3, e4, e5, e6, e7⟩ := (H.out.rows.below hbel.out).res hlt
      have HSE : Hid ((withK (stsOf (l.take k)) l[k].key).set (atK (stsOf (l.take k)) l[k].key) (l[k].key, after (known (ofKey (l.take k) l[k].key)) l[k]) = stsOf (l.take (k + 1))) := by
        show _ = _
        rw [List.take_succ_eq_append_getElem hlt]
        exact withK_set _ _
      have hgq := withK_get? (l.take k) l[k].key
      obtain ⟨q1, hq1'⟩ : ∃ q, l[k] = q := ⟨_, rfl⟩
      rw [hq1'] at e0 e1 e2 e3 e4 e5 e6 e7 hgq HSE
      clear hq1'
      obtain ⟨job, kind, ver, key, val, has, gone, err⟩ := q1
      simp only at e0 e1 e2 e3 e4 e5 e6 e7 HSE hgq
      obtain ⟨s, hs⟩ : ∃ s, known (ofKey (l.take k) key) = s := ⟨_, rfl⟩
      rw [hs] at HSE hgq
      clear hs
      have hlA : (stsOf (l.take k)).length ≤ 1000 := by have := stsOf_len (l.take k); simp at this; omega
      go_wp2_with fail
      refine (find22 (stsOf (l.take k)) key wr w.heap.size u3 hO.out hbel.out.size hlA).mono ?_
      rintro r w1 ⟨v1, rfl, hO1, hb1'⟩
      obtain ⟨i, hi⟩ : ∃ i, atK (stsOf (l.take k)) key = i := ⟨_, rfl⟩
      obtain ⟨A, hA⟩ : ∃ A, withK (stsOf (l.take k)) key = A := ⟨_, rfl⟩
      rw [hA] at hO1
      rw [hA, hi] at HSE hgq
      rw [hi]
      clear hi hA hlA
      obtain ⟨hai, hga⟩ := List.getElem?_eq_some_iff.1 hgq
      obtain ⟨g, cA, rfl, hAc, hcm, hgb, -⟩ := hO1.blk (by omega)
      have hbb : Below w.heap.size w w1 := hbel.out.trans hb1'
      have hbk : Below w.heap.size wr w1 := hb1'
      have hblt : b1 < w.heap.size := by
        obtain ⟨x, y, ex, hx, -⟩ := H.out.rows.res hlt
        have : b1 = x := by simpa using congrArg (Option.map Addr.block) ex
        omega
      replace e0 := (hbk.cell (p := ⟨b1, p1 + k * 8, none⟩) hblt).trans e0
      replace e1 := (hbk.cell (p := ⟨b1, p1 + k * 8 + 1, none⟩) hblt).trans e1
      replace e2 := (hbk.cell (p := ⟨b1, p1 + k * 8 + 2, none⟩) hblt).trans e2
      replace e3 := (hbk.cell (p := ⟨b1, p1 + k * 8 + 3, none⟩) hblt).trans e3
      replace e4 := (hbk.cell (p := ⟨b1, p1 + k * 8 + 4, none⟩) hblt).trans e4
      replace e5 := (hbk.cell (p := ⟨b1, p1 + k * 8 + 5, none⟩) hblt).trans e5
      replace e6 := (hbk.cell (p := ⟨b1, p1 + k * 8 + 6, none⟩) hblt).trans e6
      replace e7 := (hbk.cell (p := ⟨b1, p1 + k * 8 + 7, none⟩) hblt).trans e7
      obtain ⟨oa2, c2, ea2, hR1⟩ := Own.rws hO1 rfl
      obtain ⟨rfl, -, rfl⟩ : some (⟨g, 0, none⟩ : Addr) = oa2 ∧ True ∧ cA = c2 := by simpa using ea2
      obtain ⟨b2, p2, ep2, hb2, g0, g1, g2, g3, g4⟩ := hR1.rows.ks hai
      obtain ⟨rfl, rfl⟩ : g = b2 ∧ 0 = p2 := by simpa using ep2
      simp only [hga, Nat.zero_add] at g0 g1 g2 g3 g4
      have hai' : (i : Int) < (A.length : Int) := by omega
      have HAI := Lib.hid hai
      have HSET : Hid (A.set i (key, after s ⟨job, kind, ver, key, val, has, gone, err⟩) = stsOf (l.take (k + 1))) := HSE.out
      have HO1 := Lib.hid hO1; have HB1 := Lib.hid hbb
      clear hO1 hbb hbk hb1' hO hbel hR1 hga hgq HSE ea2 ep2 hb1

      go_wp2
      refine wp_region_plan none [12] [] (.take 0 (.take 1 (.take 2 (.take 3 (.take 4 (.take 5 (.take 6 (.take 7 (.take 8 (.take 9 (.one 10 (.take 11 (.tail [12]))))))))))))) (by kernel_rfl) (by kernel_rfl) (fun _ _ dd _ _ h => by cases dd <;> exact h) ?_
      intro W0 hW0
      have hO0 : Own W0 w.heap.size 38 5 (.slice (some ⟨g, 0, none⟩) A.length cA) A.length (A.flatMap scells) := by rw [hW0]; exact HO1.out.drew
      have hbW0 : Below w.heap.size w W0 := by rw [hW0]; exact HB1.out.drew
      have a0 := cell_later g0 (below_drew w1); have a1 := cell_later g1 (below_drew w1); have a2 := cell_later g2 (below_drew w1); have a3 := cell_later g3 (below_drew w1); have a4 := cell_later g4 (below_drew w1)
      have f0 := cell_later e0 (below_drew w1); have f1 := cell_later e1 (below_drew w1); have f2 := cell_later e2 (below_drew w1); have f3 := cell_later e3 (below_drew w1); have f4 := cell_later e4 (below_drew w1); have f5 := cell_later e5 (below_drew w1); have f6 := cell_later e6 (below_drew w1); have f7 := cell_later e7 (below_drew w1)
      rw [← hW0] at a0 a1 a2 a3 a4 f0 f1 f2 f3 f4 f5 f6 f7
      clear hW0
      (refine pl_take (d := 22) (v := ?_) rfl rfl rfl ?_ ?_; rotate_left; (focus ((intro w' hb0 hw'; go_simp) <;> with_reducible rfl)); simp only [Act.put, List.setIfInBounds_toArray, List.set_cons_zero, List.set_cons_succ])
      (refine pl_take (d := 23) (v := ?_) rfl rfl rfl ?_ ?_; rotate_left; (focus ((intro w' hb0 hw'; go_simp) <;> with_reducible rfl)); simp only [Act.put, List.setIfInBounds_toArray, List.set_cons_zero, List.set_cons_succ])
      (refine pl_take (d := 24) (v := ?_) rfl rfl rfl ?_ ?_; rotate_left; (focus ((intro w' hb0 hw'; go_simp) <;> with_reducible rfl)); simp only [Act.put, List.setIfInBounds_toArray, List.set_cons_zero, List.set_cons_succ])
      (refine pl_take (d := 25) (v := ?_) rfl rfl rfl ?_ ?_; rotate_left; (focus ((intro w' hb0 hw'; go_simp) <;> with_reducible rfl)); simp only [Act.put, List.setIfInBounds_toArray, List.set_cons_zero, List.set_cons_succ])
      (refine pl_take (d := 26) (v := ?_) rfl rfl rfl ?_ ?_; rotate_left; (focus ((intro w' hb0 hw'; go_simp) <;> with_reducible rfl)); simp only [Act.put, List.setIfInBounds_toArray, List.set_cons_zero, List.set_cons_succ])
      (refine pl_take (d := 27) (v := ?_) rfl rfl rfl ?_ ?_; rotate_left; (focus ((intro w' hb0 hw'; have c0 := cell_later a0 hw'; have c1 := cell_later a1 hw'; have c2 := cell_later a2 hw'; have c3 := cell_later a3 hw'; have c4 := cell_later a4 hw'; go_simp) <;> with_reducible rfl)); simp only [Act.put, List.setIfInBounds_toArray, List.set_cons_zero, List.set_cons_succ])
      (refine pl_take (d := 28) (v := ?_) rfl rfl rfl ?_ ?_; rotate_left; (focus ((intro w' hb0 hw'; go_simp) <;> with_reducible rfl)); simp only [Act.put, List.setIfInBounds_toArray, List.set_cons_zero, List.set_cons_succ])
      (refine pl_take (d := 29) (v := ?_) rfl rfl rfl ?_ ?_; rotate_left; (focus ((intro w' hb0 hw'; go_simp) <;> with_reducible rfl)); simp only [Act.put, List.setIfInBounds_toArray, List.set_cons_zero, List.set_cons_succ])
      (refine pl_take (d := 30) (v := ?_) rfl rfl rfl ?_ ?_; rotate_left; (focus ((intro w' hb0 hw'; go_simp) <;> with_reducible rfl)); simp only [Act.put, List.setIfInBounds_toArray, List.set_cons_zero, List.set_cons_succ])
      (refine pl_take (d := 31) (v := ?_) rfl rfl rfl ?_ ?_; rotate_left; (focus ((intro w' hb0 hw'; have c0 := cell_later f0 hw'; have c1 := cell_later f1 hw'; have c2 := cell_later f2 hw'; have c3 := cell_later f3 hw'; have c4 := cell_later f4 hw'; have c5 := cell_later f5 hw'; have c6 := cell_later f6 hw'; have c7 := cell_later f7 hw'; go_simp) <;> with_reducible rfl)); simp only [Act.put, List.setIfInBounds_toArray, List.set_cons_zero, List.set_cons_succ])
      refine pl_one rfl rfl (fun K hK => ?_)
      go_simp
      refine (refAfter16 key s ⟨job, kind, ver, key, val, has, gone, err⟩ W0).mono ?_
      rintro r W3 ⟨rfl, hbk⟩
      refine hK _ _ (hbk : Rel none W0 W3) ?_
      clear hK
      have hO3 := hO0.later hbk
      have hbW3 := below_step hbW0 hbk
      clear hbk hO0 hbW0 a0 a1 a2 a3 a4 f0 f1 f2 f3 f4 f5 f6 f7
      (refine pl_take (d := 33) (v := ?_) rfl rfl rfl ?_ ?_; rotate_left; (focus ((intro w' hb0 hw'; go_simp) <;> with_reducible rfl)); simp only [Act.put, List.setIfInBounds_toArray, List.set_cons_zero, List.set_cons_succ])
      refine pl_tail ?_
      refine tl_do rfl rfl (fun K hK => ?_)
      refine wp_store_own rfl hO3 (by rfl) (vs := scells (key, after s ⟨job, kind, ver, key, val, has, gone, err⟩)) (by rfl) row38 (by rw [flat_length (k := 5) (fun _ => rfl)]; simp [scells]; have := HAI.out; omega) (by simp [scells, Value.oneCell']) ?_
      intro W5 hO5 hg5
      have hb5 := hO3.below hg5 hbW3 (Nat.le_refl _) hbW3.size
      have hO6 : Own W5 w.heap.size 38 5 (.slice (some ⟨g, 0, none⟩) A.length cA) (stsOf (l.take (k + 1))).length ((stsOf (l.take (k + 1))).flatMap scells) := by
        have e1 : (scells (key, after s ⟨job, kind, ver, key, val, has, gone, err⟩)).length = 5 := rfl
        rw [e1, flat_set (k := 5) (fun _ => rfl) A i _ HAI.out, HSET.out] at hO5
        have e2 : (stsOf (l.take (k + 1))).length = A.length := by rw [← HSET.out]; simp
        rw [e2]; exact hO5
      have HO6 := Lib.hid hO6; have HB5 := Lib.hid hb5
      refine hK _ _ ?_
      clear hK hO6 hb5 hO5 hg5 hO3 hbW3
      (try simp only [Act.put, List.setIfInBounds_toArray, List.set_cons_zero, List.set_cons_succ])
      refine tl_end ?_
      go_wp2
      go_roundw
      case measure => (simp [intOf]) <;> omega
      case rel => exact ⟨k + 1, by omega, rfl, HO6, HB5⟩
    · obtain rfl : k = l.length := by omega
      rw [List.take_length] at hO
      obtain ⟨o', c', rfl, hR⟩ := Own.rws hO.out rfl
      have HR := Lib.hid hR; have HB := hbel; clear hR hbel hO
      go_wp2
      refine bodyPost_ret (v := .slice o' (stsOf l).length c') (by simp [results, Try.results23, go_sem]) rfl ⟨⟨o', c', rfl, HR.out⟩, HB.out⟩

theorem refJudge8 (l : List Res) (w : World) (oa : Option Addr) (n c : Nat) (h : RRes w oa n c l) (hl : l.length ≤ 900) :
    Calls Try.prog 8 #[.slice oa n c] w fun r w' => r = .returned (.int .i64 (judgeD l)) ∧ Below w.heap.size w w' := by
  obtain rfl : n = l.length := h.rows.len
  have H := Lib.hid h; have HL := Lib.hid hl; clear h hl
  go_enter Try.func8, Try.ntmps8
  go_wp2
  go_loopw [3, 4, 5] (fun v _ u wr => ∃ k : Nat, k ≤ l.length ∧ u = .int .i64 k ∧ Hid (∀ j, j < k → fitAt l j = true) ∧ Hid (Own wr w.heap.size 38 5 v (stsOf (l.take k)).length ((stsOf (l.take k)).flatMap scells)) ∧ Hid (Below w.heap.size w wr)) (fun _ _ u _ => l.length - (intOf u).toNat)
  case atStart => exact ⟨0, by omega, rfl, Lib.hid (fun j h => by omega), Lib.hid (Own.nil _ _ _ _), by (with_reducible try refine Lib.hid ?_); (repeat (with_reducible first | assumption | exact Below.refl _ _ | apply Below.drew | apply Below.drewN' | apply Below.setCell | apply Below.alloc)) <;> (try simp [length_fillTo, length_turnTo]) <;> (try omega)⟩
  case round =>
    obtain ⟨k, hk, rfl, hS, hO, hbel⟩ := hrel
    by_cases hlt : k < l.length
    · have hi1 : (k : Int) < (l.length : Int) := by omega
      have rk : IntKind.i64.wrap ((k : Int) + 1) = ((k + 1 : Nat) : Int) := by
        have h1 := HL.out
        rw [IntKind.wrap_i64]; omega
      have hll := HL.out
      obtain ⟨b1, p1, rfl, hb1, e0, e1, e2, e3, e4, e5, e6, e7⟩ := (H.out.rows.below hbel.out).res hlt
      have HF : Hid (fitAt l k = fits (known (ofKey (l.take k) l[k].key)) l[k]) := by show _ = _; unfold fitAt; rw [List.getElem?_eq_getElem hlt]
      have HSE : Hid ((withK (stsOf (l.take k)) l[k].key).set (atK (stsOf (l.take k)) l[k].key) (l[k].key, after (known (ofKey (l.take k) l[k].key)) l[k]) = stsOf (l.take (k + 1))) := by
        show _ = _
        rw [List.take_succ_eq_append_getElem hlt]
        exact withK_set _ _
      have hgq := withK_get? (l.take k) l[k].key
      obtain ⟨q1, hq1'⟩ : ∃ q, l[k] = q := ⟨_, rfl⟩
      rw [hq1'] at e0 e1 e2 e3 e4 e5 e6 e7 hgq HSE HF
      clear hq1'
      obtain ⟨job, kind, ver, key, val, has, gone, err⟩ := q1
      simp only at e0 e1 e2 e3 e4 e5 e6 e7 HSE hgq HF
      obtain ⟨s, hs⟩ : ∃ s, known (ofKey (l.take k) key) = s := ⟨_, rfl⟩
      rw [hs] at HSE hgq HF
      clear hs
      have hlA : (stsOf (l.take k)).length ≤ 1000 := by have := stsOf_len (l.take k); simp at this; omega
      go_wp2_with fail
      refine (find22 (stsOf (l.take k)) key wr w.heap.size u3 hO.out hbel.out.size hlA).mono ?_
      rintro r w1 ⟨v1, rfl, hO1, hb1'⟩
      obtain ⟨i, hi⟩ : ∃ i, atK (stsOf (l.take k)) key = i := ⟨_, rfl⟩
      obtain ⟨A, hA⟩ : ∃ A, withK (stsOf (l.take k)) key = A := ⟨_, rfl⟩
      rw [hA] at hO1
      rw [hA, hi] at HSE hgq
      rw [hi]
      clear hi hA hlA
      obtain ⟨hai, hga⟩ := List.getElem?_eq_some_iff.1 hgq
      obtain ⟨g, cA, rfl, hAc, hcm, hgb, -⟩ := hO1.blk (by omega)
      have hbb : Below w.heap.size w w1 := hbel.out.trans hb1'
      have hbk : Below w.heap.size wr w1 := hb1'
      have hblt : b1 < w.heap.size := by
        obtain ⟨x, y, ex, hx, -⟩ := H.out.rows.res hlt
        have : b1 = x := by simpa using congrArg (Option.map Addr.block) ex
        omega
      replace e0 := (hbk.cell (p := ⟨b1, p1 + k * 8, none⟩) hblt).trans e0
      replace e1 := (hbk.cell (p := ⟨b1, p1 + k * 8 + 1, none⟩) hblt).trans e1
      replace e2 := (hbk.cell (p := ⟨b1, p1 + k * 8 + 2, none⟩) hblt).trans e2
      replace e3 := (hbk.cell (p := ⟨b1, p1 + k * 8 + 3, none⟩) hblt).trans e3
      replace e4 := (hbk.cell (p := ⟨b1, p1 + k * 8 + 4, none⟩) hblt).trans e4
      replace e5 := (hbk.cell (p := ⟨b1, p1 + k * 8 + 5, none⟩) hblt).trans e5
      replace e6 := (hbk.cell (p := ⟨b1, p1 + k * 8 + 6, none⟩) hblt).trans e6
      replace e7 := (hbk.cell (p := ⟨b1, p1 + k * 8 + 7, none⟩) hblt).trans e7
      obtain ⟨oa2, c2, ea2, hR1⟩ := Own.rws hO1 rfl
      obtain ⟨rfl, -, rfl⟩ : some (⟨g, 0, none⟩ : Addr) = oa2 ∧ True ∧ cA = c2 := by simpa using ea2
      obtain ⟨b2, p2, ep2, hb2, g0, g1, g2, g3, g4⟩ := hR1.rows.ks hai
      obtain ⟨rfl, rfl⟩ : g = b2 ∧ 0 = p2 := by simpa using ep2
      simp only [hga, Nat.zero_add] at g0 g1 g2 g3 g4
      have hai' : (i : Int) < (A.length : Int) := by omega
      have HAI := Lib.hid hai
      have HSET : Hid (A.set i (key, after s ⟨job, kind, ver, key, val, has, gone, err⟩) = stsOf (l.take (k + 1))) := HSE.out
      have HO1 := Lib.hid hO1; have HB1 := Lib.hid hbb
      clear hO1 hbb hbk hb1' hO hbel hR1 hga hgq HSE ea2 ep2 hb1

      cases hf : fitAt l k
      · have hfit : Hid (fits s ⟨job, kind, ver, key, val, has, gone, err⟩ = false) := HF.out.symm.trans hf
        have HJ := Lib.hid (judgeD_at l k hlt hS.out hf)
        clear hf HF
        go_wp2
        refine wp_region_plan none [] [] (.take 0 (.take 1 (.take 2 (.take 3 (.take 4 (.take 5 (.take 6 (.take 7 (.one 8 (.take 9 .done)))))))))) (by kernel_rfl) (by kernel_rfl) (fun _ _ dd _ _ h => by cases dd <;> exact h) ?_
        intro W0 hW0
        have hO0 : Own W0 w.heap.size 38 5 (.slice (some ⟨g, 0, none⟩) A.length cA) A.length (A.flatMap scells) := by rw [hW0]; exact HO1.out.drew
        have hbW0 : Below w.heap.size w W0 := by rw [hW0]; exact HB1.out.drew
        have a0 := cell_later g0 (below_drew w1); have a1 := cell_later g1 (below_drew w1); have a2 := cell_later g2 (below_drew w1); have a3 := cell_later g3 (below_drew w1); have a4 := cell_later g4 (below_drew w1)
        have f0 := cell_later e0 (below_drew w1); have f1 := cell_later e1 (below_drew w1); have f2 := cell_later e2 (below_drew w1); have f3 := cell_later e3 (below_drew w1); have f4 := cell_later e4 (below_drew w1); have f5 := cell_later e5 (below_drew w1); have f6 := cell_later e6 (below_drew w1); have f7 := cell_later e7 (below_drew w1)
        rw [← hW0] at a0 a1 a2 a3 a4 f0 f1 f2 f3 f4 f5 f6 f7
        clear hW0
        (refine pl_take (d := 22) (v := ?_) rfl rfl rfl ?_ ?_; rotate_left; (focus ((intro w' hb0 hw'; go_simp) <;> with_reducible rfl)); simp only [Act.put, List.setIfInBounds_toArray, List.set_cons_zero, List.set_cons_succ])
        (refine pl_take (d := 23) (v := ?_) rfl rfl rfl ?_ ?_; rotate_left; (focus ((intro w' hb0 hw'; go_simp) <;> with_reducible rfl)); simp only [Act.put, List.setIfInBounds_toArray, List.set_cons_zero, List.set_cons_succ])
        (refine pl_take (d := 24) (v := ?_) rfl rfl rfl ?_ ?_; rotate_left; (focus ((intro w' hb0 hw'; go_simp) <;> with_reducible rfl)); simp only [Act.put, List.setIfInBounds_toArray, List.set_cons_zero, List.set_cons_succ])
        (refine pl_take (d := 25) (v := ?_) rfl rfl rfl ?_ ?_; rotate_left; (focus ((intro w' hb0 hw'; have c0 := cell_later a0 hw'; have c1 := cell_later a1 hw'; have c2 := cell_later a2 hw'; have c3 := cell_later a3 hw'; have c4 := cell_later a4 hw'; go_simp) <;> with_reducible rfl)); simp only [Act.put, List.setIfInBounds_toArray, List.set_cons_zero, List.set_cons_succ])
        (refine pl_take (d := 26) (v := ?_) rfl rfl rfl ?_ ?_; rotate_left; (focus ((intro w' hb0 hw'; go_simp) <;> with_reducible rfl)); simp only [Act.put, List.setIfInBounds_toArray, List.set_cons_zero, List.set_cons_succ])
        (refine pl_take (d := 27) (v := ?_) rfl rfl rfl ?_ ?_; rotate_left; (focus ((intro w' hb0 hw'; go_simp) <;> with_reducible rfl)); simp only [Act.put, List.setIfInBounds_toArray, List.set_cons_zero, List.set_cons_succ])
        (refine pl_take (d := 28) (v := ?_) rfl rfl rfl ?_ ?_; rotate_left; (focus ((intro w' hb0 hw'; go_simp) <;> with_reducible rfl)); simp only [Act.put, List.setIfInBounds_toArray, List.set_cons_zero, List.set_cons_succ])
        (refine pl_take (d := 29) (v := ?_) rfl rfl rfl ?_ ?_; rotate_left; (focus ((intro w' hb0 hw'; have c0 := cell_later f0 hw'; have c1 := cell_later f1 hw'; have c2 := cell_later f2 hw'; have c3 := cell_later f3 hw'; have c4 := cell_later f4 hw'; have c5 := cell_later f5 hw'; have c6 := cell_later f6 hw'; have c7 := cell_later f7 hw'; go_simp) <;> with_reducible rfl)); simp only [Act.put, List.setIfInBounds_toArray, List.set_cons_zero, List.set_cons_succ])
        refine pl_one rfl rfl (fun K hK => ?_)
        go_simp
        refine (refFits18 key s ⟨job, kind, ver, key, val, has, gone, err⟩ W0).mono ?_
        rintro r W1 ⟨rfl, hbk⟩
        refine hK _ _ (hbk : Rel none W0 W1) ?_
        clear hK
        have hO2 := hO0.later hbk
        have hbW2 := below_step hbW0 hbk
        have k0 := cell_later a0 hbk; have k1 := cell_later a1 hbk; have k2 := cell_later a2 hbk; have k3 := cell_later a3 hbk; have k4 := cell_later a4 hbk
        have j0 := cell_later f0 hbk; have j1 := cell_later f1 hbk; have j2 := cell_later f2 hbk; have j3 := cell_later f3 hbk; have j4 := cell_later f4 hbk; have j5 := cell_later f5 hbk; have j6 := cell_later f6 hbk; have j7 := cell_later f7 hbk
        clear hbk hO0 hbW0 a0 a1 a2 a3 a4 f0 f1 f2 f3 f4 f5 f6 f7
        rw [hfit.out]
        (refine pl_take (d := 31) (v := ?_) rfl rfl rfl ?_ ?_; rotate_left; (focus ((intro w' hb0 hw'; go_simp) <;> with_reducible rfl)); simp only [Act.put, List.setIfInBounds_toArray, List.set_cons_zero, List.set_cons_succ])
        refine pl_end ?_
        have HB3 := Lib.hid hbW2
        clear hbW2
        go_wp2
        refine bodyPost_ret (v := .int .i64 (k : Int)) (by simp [results, Try.results8, go_sem]) rfl ⟨by rw [HJ.out], HB3.out⟩
      · have hfit : Hid (fits s ⟨job, kind, ver, key, val, has, gone, err⟩ = true) := HF.out.symm.trans hf
        have HS2 : Hid (∀ j, j < k + 1 → fitAt l j = true) := fun j hj => by
          by_cases e : j = k
          · rw [e]; exact hf
          · exact hS.out j (by omega)
        clear hf HF hS
        go_wp2
        refine wp_region_plan none [] [] (.take 0 (.take 1 (.take 2 (.take 3 (.take 4 (.take 5 (.take 6 (.take 7 (.one 8 (.take 9 .done)))))))))) (by kernel_rfl) (by kernel_rfl) (fun _ _ dd _ _ h => by cases dd <;> exact h) ?_
        intro W0 hW0
        have hO0 : Own W0 w.heap.size 38 5 (.slice (some ⟨g, 0, none⟩) A.length cA) A.length (A.flatMap scells) := by rw [hW0]; exact HO1.out.drew
        have hbW0 : Below w.heap.size w W0 := by rw [hW0]; exact HB1.out.drew
        have a0 := cell_later g0 (below_drew w1); have a1 := cell_later g1 (below_drew w1); have a2 := cell_later g2 (below_drew w1); have a3 := cell_later g3 (below_drew w1); have a4 := cell_later g4 (below_drew w1)
        have f0 := cell_later e0 (below_drew w1); have f1 := cell_later e1 (below_drew w1); have f2 := cell_later e2 (below_drew w1); have f3 := cell_later e3 (below_drew w1); have f4 := cell_later e4 (below_drew w1); have f5 := cell_later e5 (below_drew w1); have f6 := cell_later e6 (below_drew w1); have f7 := cell_later e7 (below_drew w1)
        rw [← hW0] at a0 a1 a2 a3 a4 f0 f1 f2 f3 f4 f5 f6 f7
        clear hW0
        (refine pl_take (d := 22) (v := ?_) rfl rfl rfl ?_ ?_; rotate_left; (focus ((intro w' hb0 hw'; go_simp) <;> with_reducible rfl)); simp only [Act.put, List.setIfInBounds_toArray, List.set_cons_zero, List.set_cons_succ])
        (refine pl_take (d := 23) (v := ?_) rfl rfl rfl ?_ ?_; rotate_left; (focus ((intro w' hb0 hw'; go_simp) <;> with_reducible rfl)); simp only [Act.put, List.setIfInBounds_toArray, List.set_cons_zero, List.set_cons_succ])
        (refine pl_take (d := 24) (v := ?_) rfl rfl rfl ?_ ?_; rotate_left; (focus ((intro w' hb0 hw'; go_simp) <;> with_reducible rfl)); simp only [Act.put, List.setIfInBounds_toArray, List.set_cons_zero, List.set_cons_succ])
        (refine pl_take (d := 25) (v := ?_) rfl rfl rfl ?_ ?_; rotate_left; (focus ((intro w' hb0 hw'; have c0 := cell_later a0 hw'; have c1 := cell_later a1 hw'; have c2 := cell_later a2 hw'; have c3 := cell_later a3 hw'; have c4 := cell_later a4 hw'; go_simp) <;> with_reducible rfl)); simp only [Act.put, List.setIfInBounds_toArray, List.set_cons_zero, List.set_cons_succ])
        (refine pl_take (d := 26) (v := ?_) rfl rfl rfl ?_ ?_; rotate_left; (focus ((intro w' hb0 hw'; go_simp) <;> with_reducible rfl)); simp only [Act.put, List.setIfInBounds_toArray, List.set_cons_zero, List.set_cons_succ])
        (refine pl_take (d := 27) (v := ?_) rfl rfl rfl ?_ ?_; rotate_left; (focus ((intro w' hb0 hw'; go_simp) <;> with_reducible rfl)); simp only [Act.put, List.setIfInBounds_toArray, List.set_cons_zero, List.set_cons_succ])
        (refine pl_take (d := 28) (v := ?_) rfl rfl rfl ?_ ?_; rotate_left; (focus ((intro w' hb0 hw'; go_simp) <;> with_reducible rfl)); simp only [Act.put, List.setIfInBounds_toArray, List.set_cons_zero, List.set_cons_succ])
        (refine pl_take (d := 29) (v := ?_) rfl rfl rfl ?_ ?_; rotate_left; (focus ((intro w' hb0 hw'; have c0 := cell_later f0 hw'; have c1 := cell_later f1 hw'; have c2 := cell_later f2 hw'; have c3 := cell_later f3 hw'; have c4 := cell_later f4 hw'; have c5 := cell_later f5 hw'; have c6 := cell_later f6 hw'; have c7 := cell_later f7 hw'; go_simp) <;> with_reducible rfl)); simp only [Act.put, List.setIfInBounds_toArray, List.set_cons_zero, List.set_cons_succ])
        refine pl_one rfl rfl (fun K hK => ?_)
        go_simp
        refine (refFits18 key s ⟨job, kind, ver, key, val, has, gone, err⟩ W0).mono ?_
        rintro r W1 ⟨rfl, hbk⟩
        refine hK _ _ (hbk : Rel none W0 W1) ?_
        clear hK
        have hO2 := hO0.later hbk
        have hbW2 := below_step hbW0 hbk
        have k0 := cell_later a0 hbk; have k1 := cell_later a1 hbk; have k2 := cell_later a2 hbk; have k3 := cell_later a3 hbk; have k4 := cell_later a4 hbk
        have j0 := cell_later f0 hbk; have j1 := cell_later f1 hbk; have j2 := cell_later f2 hbk; have j3 := cell_later f3 hbk; have j4 := cell_later f4 hbk; have j5 := cell_later f5 hbk; have j6 := cell_later f6 hbk; have j7 := cell_later f7 hbk
        clear hbk hO0 hbW0 a0 a1 a2 a3 a4 f0 f1 f2 f3 f4 f5 f6 f7
        rw [hfit.out]
        (refine pl_take (d := 31) (v := ?_) rfl rfl rfl ?_ ?_; rotate_left; (focus ((intro w' hb0 hw'; go_simp) <;> with_reducible rfl)); simp only [Act.put, List.setIfInBounds_toArray, List.set_cons_zero, List.set_cons_succ])
        refine pl_end ?_
        have HO2 := Lib.hid hO2; have HB2 := Lib.hid hbW2
        clear hO2 hbW2 HO1 HB1 g0 g1 g2 g3 g4 e0 e1 e2 e3 e4 e5 e6 e7
        go_wp2
        refine wp_region_plan none [12] [] (.take 0 (.take 1 (.take 2 (.take 3 (.take 4 (.take 5 (.take 6 (.take 7 (.take 8 (.take 9 (.one 10 (.take 11 (.tail [12]))))))))))))) (by kernel_rfl) (by kernel_rfl) (fun _ _ dd _ _ h => by cases dd <;> exact h) ?_
        intro W0 hW0
        have hO0 : Own W0 w.heap.size 38 5 (.slice (some ⟨g, 0, none⟩) A.length cA) A.length (A.flatMap scells) := by rw [hW0]; exact HO2.out.drew
        have hbW0 : Below w.heap.size w W0 := by rw [hW0]; exact HB2.out.drew
        have a0 := cell_later k0 (below_drew W1); have a1 := cell_later k1 (below_drew W1); have a2 := cell_later k2 (below_drew W1); have a3 := cell_later k3 (below_drew W1); have a4 := cell_later k4 (below_drew W1)
        have f0 := cell_later j0 (below_drew W1); have f1 := cell_later j1 (below_drew W1); have f2 := cell_later j2 (below_drew W1); have f3 := cell_later j3 (below_drew W1); have f4 := cell_later j4 (below_drew W1); have f5 := cell_later j5 (below_drew W1); have f6 := cell_later j6 (below_drew W1); have f7 := cell_later j7 (below_drew W1)
        rw [← hW0] at a0 a1 a2 a3 a4 f0 f1 f2 f3 f4 f5 f6 f7
        clear hW0
        (refine pl_take (d := 33) (v := ?_) rfl rfl rfl ?_ ?_; rotate_left; (focus ((intro w' hb0 hw'; go_simp) <;> with_reducible rfl)); simp only [Act.put, List.setIfInBounds_toArray, List.set_cons_zero, List.set_cons_succ])
        (refine pl_take (d := 34) (v := ?_) rfl rfl rfl ?_ ?_; rotate_left; (focus ((intro w' hb0 hw'; go_simp) <;> with_reducible rfl)); simp only [Act.put, List.setIfInBounds_toArray, List.set_cons_zero, List.set_cons_succ])
        (refine pl_take (d := 35) (v := ?_) rfl rfl rfl ?_ ?_; rotate_left; (focus ((intro w' hb0 hw'; go_simp) <;> with_reducible rfl)); simp only [Act.put, List.setIfInBounds_toArray, List.set_cons_zero, List.set_cons_succ])
        (refine pl_take (d := 36) (v := ?_) rfl rfl rfl ?_ ?_; rotate_left; (focus ((intro w' hb0 hw'; go_simp) <;> with_reducible rfl)); simp only [Act.put, List.setIfInBounds_toArray, List.set_cons_zero, List.set_cons_succ])
        (refine pl_take (d := 37) (v := ?_) rfl rfl rfl ?_ ?_; rotate_left; (focus ((intro w' hb0 hw'; go_simp) <;> with_reducible rfl)); simp only [Act.put, List.setIfInBounds_toArray, List.set_cons_zero, List.set_cons_succ])
        (refine pl_take (d := 38) (v := ?_) rfl rfl rfl ?_ ?_; rotate_left; (focus ((intro w' hb0 hw'; have c0 := cell_later a0 hw'; have c1 := cell_later a1 hw'; have c2 := cell_later a2 hw'; have c3 := cell_later a3 hw'; have c4 := cell_later a4 hw'; go_simp) <;> with_reducible rfl)); simp only [Act.put, List.setIfInBounds_toArray, List.set_cons_zero, List.set_cons_succ])
        (refine pl_take (d := 39) (v := ?_) rfl rfl rfl ?_ ?_; rotate_left; (focus ((intro w' hb0 hw'; go_simp) <;> with_reducible rfl)); simp only [Act.put, List.setIfInBounds_toArray, List.set_cons_zero, List.set_cons_succ])
        (refine pl_take (d := 40) (v := ?_) rfl rfl rfl ?_ ?_; rotate_left; (focus ((intro w' hb0 hw'; go_simp) <;> with_reducible rfl)); simp only [Act.put, List.setIfInBounds_toArray, List.set_cons_zero, List.set_cons_succ])
        (refine pl_take (d := 41) (v := ?_) rfl rfl rfl ?_ ?_; rotate_left; (focus ((intro w' hb0 hw'; go_simp) <;> with_reducible rfl)); simp only [Act.put, List.setIfInBounds_toArray, List.set_cons_zero, List.set_cons_succ])
        (refine pl_take (d := 42) (v := ?_) rfl rfl rfl ?_ ?_; rotate_left; (focus ((intro w' hb0 hw'; have c0 := cell_later f0 hw'; have c1 := cell_later f1 hw'; have c2 := cell_later f2 hw'; have c3 := cell_later f3 hw'; have c4 := cell_later f4 hw'; have c5 := cell_later f5 hw'; have c6 := cell_later f6 hw'; have c7 := cell_later f7 hw'; go_simp) <;> with_reducible rfl)); simp only [Act.put, List.setIfInBounds_toArray, List.set_cons_zero, List.set_cons_succ])
        refine pl_one rfl rfl (fun K hK => ?_)
        go_simp
        refine (refAfter16 key s ⟨job, kind, ver, key, val, has, gone, err⟩ W0).mono ?_
        rintro r W3 ⟨rfl, hbk⟩
        refine hK _ _ (hbk : Rel none W0 W3) ?_
        clear hK
        have hO3 := hO0.later hbk
        have hbW3 := below_step hbW0 hbk
        clear hbk hO0 hbW0 a0 a1 a2 a3 a4 f0 f1 f2 f3 f4 f5 f6 f7
        (refine pl_take (d := 44) (v := ?_) rfl rfl rfl ?_ ?_; rotate_left; (focus ((intro w' hb0 hw'; go_simp) <;> with_reducible rfl)); simp only [Act.put, List.setIfInBounds_toArray, List.set_cons_zero, List.set_cons_succ])
        refine pl_tail ?_
        refine tl_do rfl rfl (fun K hK => ?_)
        refine wp_store_own rfl hO3 (by rfl) (vs := scells (key, after s ⟨job, kind, ver, key, val, has, gone, err⟩)) (by rfl) row38 (by rw [flat_length (k := 5) (fun _ => rfl)]; simp [scells]; have := HAI.out; omega) (by simp [scells, Value.oneCell']) ?_
        intro W5 hO5 hg5
        have hb5 := hO3.below hg5 hbW3 (Nat.le_refl _) hbW3.size
        have hO6 : Own W5 w.heap.size 38 5 (.slice (some ⟨g, 0, none⟩) A.length cA) (stsOf (l.take (k + 1))).length ((stsOf (l.take (k + 1))).flatMap scells) := by
          have e1 : (scells (key, after s ⟨job, kind, ver, key, val, has, gone, err⟩)).length = 5 := rfl
          rw [e1, flat_set (k := 5) (fun _ => rfl) A i _ HAI.out, HSET.out] at hO5
          have e2 : (stsOf (l.take (k + 1))).length = A.length := by rw [← HSET.out]; simp
          rw [e2]; exact hO5
        have HO6 := Lib.hid hO6; have HB5 := Lib.hid hb5
        refine hK _ _ ?_
        clear hK hO6 hb5 hO5 hg5 hO3 hbW3
        (try simp only [Act.put, List.setIfInBounds_toArray, List.set_cons_zero, List.set_cons_succ])
        refine tl_end ?_
        go_wp2
        go_roundw
        case measure => (simp [intOf]) <;> omega
        case rel => exact ⟨k + 1, by omega, rfl, HS2, HO6, HB5⟩
    · obtain rfl : k = l.length := by omega
      have HJ := Lib.hid (judgeD_none l hS.out)
      have hb1 := hbel.out
      clear hS hO
      go_wp2
      refine bodyPost_ret (v := .int .i64 (-1)) (by simp [results, Try.results8, go_sem]) rfl ⟨by rw [HJ.out], hb1⟩
end Go.Proofs.Ytnfkjicoielpnaa
