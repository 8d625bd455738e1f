/-
  Walks: a packet twice.
-/
import Derived.Test.YthnfbbnpjfjaiaaWf
namespace Go.Proofs.Ythnfbbnpjfjaiaa
open Go.RowKit Go.Proofs.Ythnfbbnpjfjaiaa.Plan Go.Proofs.Ythnfbbnpjfjaiaa.Eager
set_option maxHeartbeats 1000000
set_option maxRecDepth 20000
set_option linter.unusedVariables false
set_option linter.unusedSimpArgs false

def doubleD (D : List Dat) (i : Int) : List Dat × Int := if i < 0 ∨ (D.length : Int) ≤ i then (D, 2) else if 255 < D.length then (D, 27) else (D ++ [D.getD i.toNat default], 0)

theorem refDouble15 (l : List Pk) (i : Int) (w : World) (oa : Option Addr) (n c : Nat) (h : Pks w oa n c l) (hl : l.length ≤ 1000) :
    Calls Try.prog 15 #[.slice oa n c, .int .i64 i] w (ListOk w (doubleD (l.map Pk.dat) i).1 (doubleD (l.map Pk.dat) i).2) := by
  obtain rfl : n = l.length := h.rows.len
  obtain ⟨R, hR⟩ : ∃ R, doubleD (l.map Pk.dat) i = R := ⟨_, rfl⟩
  rw [hR]
  have HS : Hid (R = if i < 0 ∨ (l.length : Int) ≤ i then (l.map Pk.dat, 2) else if 255 < l.length then (l.map Pk.dat, 27) else (l.map Pk.dat ++ [(l.map Pk.dat).getD i.toNat default], 0)) := by
    show _ = _
    rw [← hR]; unfold doubleD; simp
  clear hR
  have H := Lib.hid h; have HL := Lib.hid hl; have HM0 := Lib.hid h.rows.cells; clear h hl
  by_cases h0 : i < 0
  · have HR : Hid (R = (l.map Pk.dat, 2)) := by show _ = _; rw [HS.out, if_pos (Or.inl h0)]
    clear HS
    go_enter Try.func15, Try.ntmps15
    go_wp2
    refine bodyPost_ret (v := .tuple #[.slice oa l.length c, .int .i64 2]) (by simp [results, Try.results15, go_sem]) rfl ⟨oa, _, c, l, by rw [HR.out], H.out, by rw [HR.out], Below.refl _ _⟩
  · by_cases h1 : (l.length : Int) ≤ i
    · have HR : Hid (R = (l.map Pk.dat, 2)) := by show _ = _; rw [HS.out, if_pos (Or.inr h1)]
      clear HS
      go_enter Try.func15, Try.ntmps15
      go_wp2
      refine bodyPost_ret (v := .tuple #[.slice oa l.length c, .int .i64 2]) (by simp [results, Try.results15, go_sem]) rfl ⟨oa, _, c, l, by rw [HR.out], H.out, by rw [HR.out], Below.refl _ _⟩
    · have hno : ¬ (i < 0 ∨ (l.length : Int) ≤ i) := by omega
      obtain ⟨k, rfl⟩ : ∃ k : Nat, i = (k : Int) := ⟨i.toNat, by omega⟩
      have hlt : k < l.length := by omega
      by_cases hful : 255 < l.length
      · have hful' : (255 : Int) < (l.length : Int) := by omega
        have HR : Hid (R = (l.map Pk.dat, 27)) := by show _ = _; rw [HS.out, if_neg hno, if_pos hful]
        clear hful hno HS
        go_enter Try.func15, Try.ntmps15
        go_wp2
        refine bodyPost_ret (v := .tuple #[.slice oa l.length c, .int .i64 27]) (by simp [results, Try.results15, go_sem]) rfl ⟨oa, _, c, l, by rw [HR.out], H.out, by rw [HR.out], Below.refl _ _⟩
      · have hful' : ¬ (255 : Int) < (l.length : Int) := by omega
        have hkl : (k : Int) < (l.length : Int) := by omega
        obtain ⟨b1, p1, rfl, hb1, e10, e11, e12⟩ := H.out.rows.pk hlt
        have hok := H.out.ok _ (List.getElem_mem hlt)
        have hR0 : R = (l.map Pk.dat ++ [l[k].dat], 0) := by
          rw [HS.out, if_neg hno, if_neg hful]
          simp [List.getD, hlt]
        obtain ⟨q1, hq1'⟩ : ∃ q, l[k] = q := ⟨_, rfl⟩
        rw [hq1'] at e10 e11 e12 hok hR0
        clear hq1'
        obtain ⟨f, t, po, pn, pc, pb⟩ := q1
        simp only at e10 e11 e12
        have HR := Lib.hid hR0; have HP := Lib.hid hok
        clear hful hno HS hR0 hok hlt
        go_enter Try.func15, Try.ntmps15
        go_wp2
        refine wp_region_plan (some w.heap.size) [] [] (.take 1 (.take 3 (.take 4 (.take 5 (.take 6 (.two 0 (.two 2 (.one 7 (.one 8 (.take 9 (.take 10 .done)))) 7 (.one 2 (.one 8 (.take 9 (.take 10 .done))))) 7 (.one 0 (.one 2 (.one 8 (.take 9 (.take 10 .done))))))))))) (by kernel_rfl) (by kernel_rfl) (fun _ _ dd _ _ h => by cases dd <;> exact h) ?_
        intro W0 hW0
        have hbW0 := below_drew w
        have hMW0 := HM0.out.below (below_drew w) (Nat.le_refl _)
        have c0 := cell_later e10 (below_drew w); have c1 := cell_later e11 (below_drew w); have c2 := cell_later e12 (below_drew w)
        rw [← hW0] at hbW0 hMW0 c0 c1 c2
        have hzW0 : w.heap.size ≤ W0.heap.size := hbW0.size
        have hll := HL.out
        clear hW0 e10 e11 e12
        (refine pl_take (d := 20) (v := ?_) rfl rfl rfl ?_ ?_; rotate_left; (focus ((intro w' hb0 hw'; go_simp) <;> with_reducible rfl)); simp only [Act.put, List.setIfInBounds_toArray, List.set_cons_zero, List.set_cons_succ])
        (refine pl_take (d := 22) (v := ?_) rfl rfl rfl ?_ ?_; rotate_left; (focus ((intro w' hb0 hw'; go_simp) <;> with_reducible rfl)); simp only [Act.put, List.setIfInBounds_toArray, List.set_cons_zero, List.set_cons_succ])
        (refine pl_take (d := 23) (v := ?_) rfl rfl rfl ?_ ?_; rotate_left; (focus ((intro w' hb0 hw'; go_simp) <;> with_reducible rfl)); simp only [Act.put, List.setIfInBounds_toArray, List.set_cons_zero, List.set_cons_succ])
        (refine pl_take (d := 24) (v := ?_) rfl rfl rfl ?_ ?_; rotate_left; (focus ((intro w' hb0 hw'; go_simp) <;> with_reducible rfl)); simp only [Act.put, List.setIfInBounds_toArray, List.set_cons_zero, List.set_cons_succ])
        (refine pl_take (d := 25) (v := ?_) rfl rfl rfl ?_ ?_; rotate_left; (focus ((intro w' hb0 hw'; have hb9 : Below w.heap.size W0 w' := hb0; have d0 := (hb9.cell (p := ⟨b1, p1 + k * 3, none⟩) (by simpa using hb1)).trans c0; have d1 := (hb9.cell (p := ⟨b1, p1 + k * 3 + 1, none⟩) (by simpa using hb1)).trans c1; have d2 := (hb9.cell (p := ⟨b1, p1 + k * 3 + 2, none⟩) (by simpa using hb1)).trans c2; go_simp) <;> with_reducible rfl)); simp only [Act.put, List.setIfInBounds_toArray, List.set_cons_zero, List.set_cons_succ])
        refine pl_two rfl rfl rfl rfl (fun K hK => ?_) (fun K hK => ?_)
        · go_simp
          refine hK _ _ ((Below.refl _ _).alloc hzW0 _ : Below (w.heap.size) W0 _) ?_
          have hEV0 := Own.lit W0 [] 25 3 0 (by simp [maxLen]) rfl (w.heap.size) hzW0
          have hbV0 := hbW0.alloc hbW0.size (.cells ([] : List Value).toArray 25)
          have hzV0 : w.heap.size ≤ (W0.alloc (.cells ([] : List Value).toArray 25)).heap.size := by simp; omega
          have hMV0 := hMW0.alloc (.cells ([] : List Value).toArray 25)
          clear hK
          obtain ⟨be, hbe⟩ : ∃ b, W0.heap.size = b := ⟨_, rfl⟩
          rw [hbe] at hEV0 ⊢
          clear hbe
          generalize W0.alloc (.cells ([] : List Value).toArray 25) = V0 at *
          refine pl_two rfl rfl rfl rfl (fun K hK => ?_) (fun K hK => ?_)
          · refine wp_app el22 (by rfl) (by rfl) hEV0 (by rfl) (m := l.length) (flat3 l) hMV0 (Pk.oneCells l) (by simp [maxLen]; omega) (by omega) hzV0 ?_
            intro va V02 hAV02 hgV02
            have hbV02 := hEV0.below hgV02 hbV0 (by omega) hzV0
            have hzV02 := Nat.le_trans hzV0 hgV02.size
            have hMV02 := keptLow hEV0 hgV02 hMV0 HM0.out (by omega)
            refine hK _ _ (hEV0.below hgV02 (Below.refl _ _) (Nat.le_refl _) hzV0 : Below (w.heap.size) V0 V02) ?_
            clear hK
            refine pl_one rfl rfl (fun K hK => ?_)
            go_simp
            refine hK _ _ ((Below.refl _ _).alloc hzV02 _ : Below (w.heap.size) V02 _) ?_
            have hNV027 := Blk.new V02 [Value.string f, .string t, .slice po pn pc] 25
            have hbV027 := hbV02.alloc hbV02.size (.cells [Value.string f, .string t, .slice po pn pc].toArray 25)
            have hzV027 : w.heap.size ≤ (V02.alloc (.cells [Value.string f, .string t, .slice po pn pc].toArray 25)).heap.size := by simp; omega
            have hMV027 := hMV02.alloc (.cells [Value.string f, .string t, .slice po pn pc].toArray 25)
            have hAV027 := hAV02.alloc (.cells [Value.string f, .string t, .slice po pn pc].toArray 25)
            clear hK
            obtain ⟨bn, hbn⟩ : ∃ b, V02.heap.size = b := ⟨_, rfl⟩
            rw [hbn] at hNV027 ⊢
            clear hbn
            generalize V02.alloc (.cells [Value.string f, .string t, .slice po pn pc].toArray 25) = V027 at *
            refine pl_one rfl rfl (fun K hK => ?_)
            refine wp_app el22 (by rfl) (by rfl) hAV027 (by rfl) (m := 1) rfl hNV027.cells (by simp [Value.oneCell']) (by simp [maxLen]; omega) (by omega) hzV027 ?_
            intro vb WL hL hgL
            have hbL := hAV027.below hgL hbV027 (by omega) hzV027
            have hML := keptLow hAV027 hgL hMV027 HM0.out (by omega)
            refine hK _ _ (hAV027.below hgL (Below.refl _ _) (Nat.le_refl _) hzV027 : Below (w.heap.size) V027 WL) ?_
            clear hK
            (refine pl_take (d := 4) (v := ?_) rfl rfl rfl ?_ ?_; rotate_left; (focus ((intro w' hb0 hw'; go_simp) <;> with_reducible rfl)); simp only [Act.put, List.setIfInBounds_toArray, List.set_cons_zero, List.set_cons_succ])
            (refine pl_take (d := 5) (v := ?_) rfl rfl rfl ?_ ?_; rotate_left; (focus ((intro w' hb0 hw'; go_simp) <;> with_reducible rfl)); simp only [Act.put, List.setIfInBounds_toArray, List.set_cons_zero, List.set_cons_succ])
            refine pl_end ?_
            obtain ⟨oL, cL, rfl, hn1, hn2, hcL, -⟩ := hL.cells
            have hfin : Pks WL oL (l.length + 1) cL (l ++ [⟨f, t, po, pn, pc, pb⟩]) := ⟨⟨by simp, by rw [List.flatMap_append]; simpa [Pk.cells] using hcL⟩, (by omega), hn2, fun q hq => by
              rcases List.mem_append.1 hq with hq | hq
              · exact (H.out.ok q hq).below hbL
              · obtain rfl : q = ⟨f, t, po, pn, pc, pb⟩ := by simpa using hq
                exact HP.out.below hbL⟩
            have HFIN := Lib.hid hfin; have HBL := Lib.hid hbL
            clear hfin hbL hL hML hcL hgL c0 c1 c2
            go_wp2
            refine bodyPost_ret (v := .tuple #[.slice oL (0 + l.length + 1) cL, .int .i64 0]) (by simp [results, Try.results15, go_sem]) rfl ⟨oL, l.length + 1, cL, _, by rw [HR.out, Nat.zero_add], HFIN.out, by rw [HR.out, List.map_append]; rfl, HBL.out⟩
          · go_simp
            refine hK _ _ ((Below.refl _ _).alloc hzV0 _ : Below (w.heap.size) V0 _) ?_
            have hNV07 := Blk.new V0 [Value.string f, .string t, .slice po pn pc] 25
            have hbV07 := hbV0.alloc hbV0.size (.cells [Value.string f, .string t, .slice po pn pc].toArray 25)
            have hzV07 : w.heap.size ≤ (V0.alloc (.cells [Value.string f, .string t, .slice po pn pc].toArray 25)).heap.size := by simp; omega
            have hMV07 := hMV0.alloc (.cells [Value.string f, .string t, .slice po pn pc].toArray 25)
            have hEV07 := hEV0.alloc (.cells [Value.string f, .string t, .slice po pn pc].toArray 25)
            have hne : ¬ be = V0.heap.size := by have := (hEV0.row.lt be rfl).2; omega
            clear hK
            obtain ⟨bn, hbn⟩ : ∃ b, V0.heap.size = b := ⟨_, rfl⟩
            rw [hbn] at hNV07 ⊢
            rw [hbn] at hne
            clear hbn
            generalize V0.alloc (.cells [Value.string f, .string t, .slice po pn pc].toArray 25) = V07 at *
            refine pl_one rfl rfl (fun K hK => ?_)
            refine wp_app el22 (by rfl) (by rfl) hEV07 (by rfl) (m := l.length) (flat3 l) hMV07 (Pk.oneCells l) (by simp [maxLen]; omega) (by omega) hzV07 ?_
            intro va V072 hAV072 hgV072
            have hbV072 := hEV07.below hgV072 hbV07 (by omega) hzV07
            have hzV072 := Nat.le_trans hzV07 hgV072.size
            have hMV072 := keptLow hEV07 hgV072 hMV07 HM0.out (by omega)
            have hNV072 := hNV07.grown hgV072 (by simpa [Value.ownBlock] using hne)
            refine hK _ _ (hEV07.below hgV072 (Below.refl _ _) (Nat.le_refl _) hzV07 : Below (w.heap.size) V07 V072) ?_
            clear hK
            refine pl_one rfl rfl (fun K hK => ?_)
            refine wp_app el22 (by rfl) (by rfl) hAV072 (by rfl) (m := 1) rfl hNV072.cells (by simp [Value.oneCell']) (by simp [maxLen]; omega) (by omega) hzV072 ?_
            intro vb WL hL hgL
            have hbL := hAV072.below hgL hbV072 (by omega) hzV072
            have hML := keptLow hAV072 hgL hMV072 HM0.out (by omega)
            refine hK _ _ (hAV072.below hgL (Below.refl _ _) (Nat.le_refl _) hzV072 : Below (w.heap.size) V072 WL) ?_
            clear hK
            (refine pl_take (d := 4) (v := ?_) rfl rfl rfl ?_ ?_; rotate_left; (focus ((intro w' hb0 hw'; go_simp) <;> with_reducible rfl)); simp only [Act.put, List.setIfInBounds_toArray, List.set_cons_zero, List.set_cons_succ])
            (refine pl_take (d := 5) (v := ?_) rfl rfl rfl ?_ ?_; rotate_left; (focus ((intro w' hb0 hw'; go_simp) <;> with_reducible rfl)); simp only [Act.put, List.setIfInBounds_toArray, List.set_cons_zero, List.set_cons_succ])
            refine pl_end ?_
            obtain ⟨oL, cL, rfl, hn1, hn2, hcL, -⟩ := hL.cells
            have hfin : Pks WL oL (l.length + 1) cL (l ++ [⟨f, t, po, pn, pc, pb⟩]) := ⟨⟨by simp, by rw [List.flatMap_append]; simpa [Pk.cells] using hcL⟩, (by omega), hn2, fun q hq => by
              rcases List.mem_append.1 hq with hq | hq
              · exact (H.out.ok q hq).below hbL
              · obtain rfl : q = ⟨f, t, po, pn, pc, pb⟩ := by simpa using hq
                exact HP.out.below hbL⟩
            have HFIN := Lib.hid hfin; have HBL := Lib.hid hbL
            clear hfin hbL hL hML hcL hgL c0 c1 c2
            go_wp2
            refine bodyPost_ret (v := .tuple #[.slice oL (0 + l.length + 1) cL, .int .i64 0]) (by simp [results, Try.results15, go_sem]) rfl ⟨oL, l.length + 1, cL, _, by rw [HR.out, Nat.zero_add], HFIN.out, by rw [HR.out, List.map_append]; rfl, HBL.out⟩
        · go_simp
          refine hK _ _ ((Below.refl _ _).alloc hzW0 _ : Below (w.heap.size) W0 _) ?_
          have hNV7 := Blk.new W0 [Value.string f, .string t, .slice po pn pc] 25
          have hbV7 := hbW0.alloc hbW0.size (.cells [Value.string f, .string t, .slice po pn pc].toArray 25)
          have hzV7 : w.heap.size ≤ (W0.alloc (.cells [Value.string f, .string t, .slice po pn pc].toArray 25)).heap.size := by simp; omega
          have hMV7 := hMW0.alloc (.cells [Value.string f, .string t, .slice po pn pc].toArray 25)
          clear hK
          obtain ⟨bn, hbn⟩ : ∃ b, W0.heap.size = b := ⟨_, rfl⟩
          rw [hbn] at hNV7 ⊢
          clear hbn
          generalize W0.alloc (.cells [Value.string f, .string t, .slice po pn pc].toArray 25) = V7 at *
          refine pl_one rfl rfl (fun K hK => ?_)
          go_simp
          refine hK _ _ ((Below.refl _ _).alloc hzV7 _ : Below (w.heap.size) V7 _) ?_
          have hEV70 := Own.lit V7 [] 25 3 0 (by simp [maxLen]) rfl (w.heap.size) hzV7
          have hbV70 := hbV7.alloc hbV7.size (.cells ([] : List Value).toArray 25)
          have hzV70 : w.heap.size ≤ (V7.alloc (.cells ([] : List Value).toArray 25)).heap.size := by simp; omega
          have hMV70 := hMV7.alloc (.cells ([] : List Value).toArray 25)
          have hNV70 := hNV7.alloc (.cells ([] : List Value).toArray 25)
          have hne : ¬ V7.heap.size = bn := by have := hNV7.lt; omega
          clear hK
          obtain ⟨be, hbe⟩ : ∃ b, V7.heap.size = b := ⟨_, rfl⟩
          rw [hbe] at hEV70 ⊢
          rw [hbe] at hne
          clear hbe
          generalize V7.alloc (.cells ([] : List Value).toArray 25) = V70 at *
          refine pl_one rfl rfl (fun K hK => ?_)
          refine wp_app el22 (by rfl) (by rfl) hEV70 (by rfl) (m := l.length) (flat3 l) hMV70 (Pk.oneCells l) (by simp [maxLen]; omega) (by omega) hzV70 ?_
          intro va V702 hAV702 hgV702
          have hbV702 := hEV70.below hgV702 hbV70 (by omega) hzV70
          have hzV702 := Nat.le_trans hzV70 hgV702.size
          have hMV702 := keptLow hEV70 hgV702 hMV70 HM0.out (by omega)
          have hNV702 := hNV70.grown hgV702 (by simpa [Value.ownBlock] using hne)
          refine hK _ _ (hEV70.below hgV702 (Below.refl _ _) (Nat.le_refl _) hzV70 : Below (w.heap.size) V70 V702) ?_
          clear hK
          refine pl_one rfl rfl (fun K hK => ?_)
          refine wp_app el22 (by rfl) (by rfl) hAV702 (by rfl) (m := 1) rfl hNV702.cells (by simp [Value.oneCell']) (by simp [maxLen]; omega) (by omega) hzV702 ?_
          intro vb WL hL hgL
          have hbL := hAV702.below hgL hbV702 (by omega) hzV702
          have hML := keptLow hAV702 hgL hMV702 HM0.out (by omega)
          refine hK _ _ (hAV702.below hgL (Below.refl _ _) (Nat.le_refl _) hzV702 : Below (w.heap.size) V702 WL) ?_
          clear hK
          (refine pl_take (d := 4) (v := ?_) rfl rfl rfl ?_ ?_; rotate_left; (focus ((intro w' hb0 hw'; go_simp) <;> with_reducible rfl)); simp only [Act.put, List.setIfInBounds_toArray, List.set_cons_zero, List.set_cons_succ])
          (refine pl_take (d := 5) (v := ?_) rfl rfl rfl ?_ ?_; rotate_left; (focus ((intro w' hb0 hw'; go_simp) <;> with_reducible rfl)); simp only [Act.put, List.setIfInBounds_toArray, List.set_cons_zero, List.set_cons_succ])
          refine pl_end ?_
          obtain ⟨oL, cL, rfl, hn1, hn2, hcL, -⟩ := hL.cells
          have hfin : Pks WL oL (l.length + 1) cL (l ++ [⟨f, t, po, pn, pc, pb⟩]) := ⟨⟨by simp, by rw [List.flatMap_append]; simpa [Pk.cells] using hcL⟩, (by omega), hn2, fun q hq => by
            rcases List.mem_append.1 hq with hq | hq
            · exact (H.out.ok q hq).below hbL
            · obtain rfl : q = ⟨f, t, po, pn, pc, pb⟩ := by simpa using hq
              exact HP.out.below hbL⟩
          have HFIN := Lib.hid hfin; have HBL := Lib.hid hbL
          clear hfin hbL hL hML hcL hgL c0 c1 c2
          go_wp2
          refine bodyPost_ret (v := .tuple #[.slice oL (0 + l.length + 1) cL, .int .i64 0]) (by simp [results, Try.results15, go_sem]) rfl ⟨oL, l.length + 1, cL, _, by rw [HR.out, Nat.zero_add], HFIN.out, by rw [HR.out, List.map_append]; rfl, HBL.out⟩
end Go.Proofs.Ythnfbbnpjfjaiaa
