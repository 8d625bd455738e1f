/-
  Walk: the document's one more packet.
-/
import Derived.Test.YthnfbbnpjfjaiaaWe
namespace Go.Proofs.Ythnfbbnpjfjaiaa
open Go.RowKit Go.Proofs.Ythnfbbnpjfjaiaa.Plan Go.Proofs.Ythnfbbnpjfjaiaa.Eager
set_option maxHeartbeats 1000000
set_option maxRecDepth 20000
set_option linter.unusedVariables false
set_option linter.unusedSimpArgs false

theorem keptLow {w0 w w' : World} {base e size n : Nat} {v : Value} {xs cs : List Value} {oa : Option Addr} (h : Own w base e size v n xs) (hg : w.grownBy w' v.ownBlock) (hc : Cells w oa cs) (hc0 : Cells w0 oa cs) (hlt : w0.heap.size ≤ base) : Cells w' oa cs := by
  intro i hi
  obtain ⟨b, o, e, hb, -⟩ := hc0.at' hi
  exact h.cellsKept hg hc (fun a ha => by rw [e] at ha; cases ha; simp; omega) i hi
theorem flat3 (l : List Pk) : (l.flatMap Pk.cells).length = l.length * 3 := flat_length (f := Pk.cells) (k := 3) (fun _ => rfl) l
theorem Pk.oneCells (l : List Pk) : ∀ u ∈ l.flatMap Pk.cells, u.oneCell' = true := by
  intro u hu
  obtain ⟨p, -, hp⟩ := List.mem_flatMap.1 hu
  simp [Pk.cells] at hp
  rcases hp with rfl | rfl | rfl <;> rfl

theorem refSend12 (l : List Pk) (p : Pk) (w : World) (oa : Option Addr) (n c : Nat) (h : Pks w oa n c l) (hl : l.length ≤ 1000) (hp : p.Ok w) :
    Calls Try.prog 12 #[.slice oa n c, .agg #[.string p.frm, .string p.to, .slice p.oa p.n p.c]] w (ListOk w (sendD (l.map Pk.dat) p.dat).1 (sendD (l.map Pk.dat) p.dat).2) := by
  obtain rfl : n = l.length := h.rows.len
  obtain ⟨f, t, po, pn, pc, pb⟩ := p
  have hpn : pn = pb.length := hp.reads.len
  have HPN := Lib.hid hpn; clear hpn
  obtain ⟨R, hR⟩ : ∃ R, sendD (l.map Pk.dat) (Pk.dat ⟨f, t, po, pn, pc, pb⟩) = R := ⟨_, rfl⟩
  rw [hR]
  have HS : Hid (R = if 2048 < pn then (l.map Pk.dat, 3) else if 256 ≤ l.length then (l.map Pk.dat, 27) else (l.map Pk.dat ++ [(f, t, pb)], 0)) := by
    show _ = _
    rw [← hR]; unfold sendD Pk.dat; rw [HPN.out]; simp
  clear hR
  have H := Lib.hid h; have HL := Lib.hid hl; have HP := Lib.hid hp; have HM0 := Lib.hid h.rows.cells; clear h hl hp
  simp only
  have hal : Below w.heap.size w (w.alloc (.cells #[Value.string f, .string t, .slice po pn pc] 25)) := (Below.refl _ _).alloc (Nat.le_refl _) _
  have hX := Blk.new w [Value.string f, .string t, .slice po pn pc] 25
  have HAL := Lib.hid hal; have HX := Lib.hid hX; clear hal hX
  by_cases hbig : 2048 < pn
  · have hbig' : (2048 : Int) < (pn : Int) := by omega
    have HR : Hid (R = (l.map Pk.dat, 3)) := by show _ = _; rw [HS.out, if_pos hbig]
    clear hbig HS
    go_enter Try.func12, Try.ntmps12
    go_wp2
    refine bodyPost_ret (v := .tuple #[.slice oa l.length c, .int .i64 3]) (by simp [results, Try.results12, go_sem]) rfl ⟨oa, _, c, l, by rw [HR.out], H.out.below HAL.out, by rw [HR.out], HAL.out⟩
  · have hbig' : ¬ (2048 : Int) < (pn : Int) := by omega
    by_cases hful : 256 ≤ l.length
    · have hful' : (255 : Int) < (l.length : Int) := by omega
      have HR : Hid (R = (l.map Pk.dat, 27)) := by show _ = _; rw [HS.out, if_neg hbig, if_pos hful]
      clear hful hbig HS
      go_enter Try.func12, Try.ntmps12
      go_wp2
      refine bodyPost_ret (v := .tuple #[.slice oa l.length c, .int .i64 27]) (by simp [results, Try.results12, go_sem]) rfl ⟨oa, _, c, l, by rw [HR.out], H.out.below HAL.out, by rw [HR.out], HAL.out⟩
    · have hful' : ¬ (255 : Int) < (l.length : Int) := by omega
      have HR : Hid (R = (l.map Pk.dat ++ [(f, t, pb)], 0)) := by show _ = _; rw [HS.out, if_neg hbig, if_neg hful]
      clear hful hbig HS
      go_enter Try.func12, Try.ntmps12
      go_wp2
      refine wp_region_plan (some (w.heap.size + 1)) [] [] (.take 1 (.take 3 (.two 0 (.two 2 (.one 4 (.one 5 (.take 6 (.take 7 .done)))) 4 (.one 2 (.one 5 (.take 6 (.take 7 .done))))) 4 (.one 0 (.one 2 (.one 5 (.take 6 (.take 7 .done)))))))) (by kernel_rfl) (by kernel_rfl) (fun _ _ dd _ _ h => by cases dd <;> exact h) ?_
      intro W0 hW0
      have hX0 := HX.out.drew
      have hbW0 := HAL.out.drew
      have hMW0 := (HM0.out.below HAL.out (Nat.le_refl _)).below (below_drew _) (Nat.le_refl _)
      rw [← hW0] at hX0 hbW0 hMW0
      have hzW0 : w.heap.size + 1 ≤ W0.heap.size := hX0.lt
      have c0 : W0.cell? ⟨w.heap.size, 0, none⟩ = some (.string f) := hX0.at' 0 (by simp)
      have c1 : W0.cell? ⟨w.heap.size, 1, none⟩ = some (.string t) := hX0.at' 1 (by simp)
      have c2 : W0.cell? ⟨w.heap.size, 2, none⟩ = some (.slice po pn pc) := hX0.at' 2 (by simp)
      have hll := HL.out
      clear hW0 hX0
      (refine pl_take (d := 16) (v := ?_) rfl rfl rfl ?_ ?_; rotate_left; (focus ((intro w' hb0 hw'; go_simp) <;> with_reducible rfl)); simp only [Act.put, List.setIfInBounds_toArray, List.set_cons_zero, List.set_cons_succ])
      (refine pl_take (d := 18) (v := ?_) rfl rfl rfl ?_ ?_; rotate_left; (focus ((intro w' hb0 hw'; have hb9 : Below (w.heap.size + 1) W0 w' := hb0; have d0 := (hb9.cell (p := ⟨w.heap.size, 0, none⟩) (by simp)).trans c0; have d1 := (hb9.cell (p := ⟨w.heap.size, 1, none⟩) (by simp)).trans c1; have d2 := (hb9.cell (p := ⟨w.heap.size, 2, none⟩) (by simp)).trans c2; go_simp) <;> with_reducible rfl)); simp only [Act.put, List.setIfInBounds_toArray, List.set_cons_zero, List.set_cons_succ])
      refine pl_two rfl rfl rfl rfl (fun K hK => ?_) (fun K hK => ?_)
      · go_simp
        refine hK _ _ ((Below.refl _ _).alloc hzW0 _ : Below (w.heap.size + 1) W0 _) ?_
        have hEV0 := Own.lit W0 [] 25 3 0 (by simp [maxLen]) rfl (w.heap.size + 1) hzW0
        have hbV0 := hbW0.alloc hbW0.size (.cells ([] : List Value).toArray 25)
        have hzV0 : w.heap.size + 1 ≤ (W0.alloc (.cells ([] : List Value).toArray 25)).heap.size := by simp; omega
        have hMV0 := hMW0.alloc (.cells ([] : List Value).toArray 25)
        clear hK
        obtain ⟨be, hbe⟩ : ∃ b, W0.heap.size = b := ⟨_, rfl⟩
        rw [hbe] at hEV0 ⊢
        clear hbe
        generalize W0.alloc (.cells ([] : List Value).toArray 25) = V0 at *
        refine pl_two rfl rfl rfl rfl (fun K hK => ?_) (fun K hK => ?_)
        · refine wp_app el22 (by rfl) (by rfl) hEV0 (by rfl) (m := l.length) (flat3 l) hMV0 (Pk.oneCells l) (by simp [maxLen]; omega) (by omega) hzV0 ?_
          intro va V02 hAV02 hgV02
          have hbV02 := hEV0.below hgV02 hbV0 (by omega) hzV0
          have hzV02 := Nat.le_trans hzV0 hgV02.size
          have hMV02 := keptLow hEV0 hgV02 hMV0 HM0.out (by omega)
          refine hK _ _ (hEV0.below hgV02 (Below.refl _ _) (Nat.le_refl _) hzV0 : Below (w.heap.size + 1) V0 V02) ?_
          clear hK
          refine pl_one rfl rfl (fun K hK => ?_)
          go_simp
          refine hK _ _ ((Below.refl _ _).alloc hzV02 _ : Below (w.heap.size + 1) V02 _) ?_
          have hNV024 := Blk.new V02 [Value.string f, .string t, .slice po pn pc] 25
          have hbV024 := hbV02.alloc hbV02.size (.cells [Value.string f, .string t, .slice po pn pc].toArray 25)
          have hzV024 : w.heap.size + 1 ≤ (V02.alloc (.cells [Value.string f, .string t, .slice po pn pc].toArray 25)).heap.size := by simp; omega
          have hMV024 := hMV02.alloc (.cells [Value.string f, .string t, .slice po pn pc].toArray 25)
          have hAV024 := hAV02.alloc (.cells [Value.string f, .string t, .slice po pn pc].toArray 25)
          clear hK
          obtain ⟨bn, hbn⟩ : ∃ b, V02.heap.size = b := ⟨_, rfl⟩
          rw [hbn] at hNV024 ⊢
          clear hbn
          generalize V02.alloc (.cells [Value.string f, .string t, .slice po pn pc].toArray 25) = V024 at *
          refine pl_one rfl rfl (fun K hK => ?_)
          refine wp_app el22 (by rfl) (by rfl) hAV024 (by rfl) (m := 1) rfl hNV024.cells (by simp [Value.oneCell']) (by simp [maxLen]; omega) (by omega) hzV024 ?_
          intro vb WL hL hgL
          have hbL := hAV024.below hgL hbV024 (by omega) hzV024
          have hML := keptLow hAV024 hgL hMV024 HM0.out (by omega)
          refine hK _ _ (hAV024.below hgL (Below.refl _ _) (Nat.le_refl _) hzV024 : Below (w.heap.size + 1) V024 WL) ?_
          clear hK
          (refine pl_take (d := 4) (v := ?_) rfl rfl rfl ?_ ?_; rotate_left; (focus ((intro w' hb0 hw'; go_simp) <;> with_reducible rfl)); simp only [Act.put, List.setIfInBounds_toArray, List.set_cons_zero, List.set_cons_succ])
          (refine pl_take (d := 5) (v := ?_) rfl rfl rfl ?_ ?_; rotate_left; (focus ((intro w' hb0 hw'; go_simp) <;> with_reducible rfl)); simp only [Act.put, List.setIfInBounds_toArray, List.set_cons_zero, List.set_cons_succ])
          refine pl_end ?_
          obtain ⟨oL, cL, rfl, hn1, hn2, hcL, -⟩ := hL.cells
          have hfin : Pks WL oL (l.length + 1) cL (l ++ [⟨f, t, po, pn, pc, pb⟩]) := ⟨⟨by simp, by rw [List.flatMap_append]; simpa [Pk.cells] using hcL⟩, (by omega), hn2, fun q hq => by
            rcases List.mem_append.1 hq with hq | hq
            · exact (H.out.ok q hq).below hbL
            · obtain rfl : q = ⟨f, t, po, pn, pc, pb⟩ := by simpa using hq
              exact HP.out.below hbL⟩
          have HFIN := Lib.hid hfin; have HBL := Lib.hid hbL
          clear hfin hbL hL hML hcL hgL
          go_wp2
          refine bodyPost_ret (v := .tuple #[.slice oL (0 + l.length + 1) cL, .int .i64 0]) (by simp [results, Try.results12, go_sem]) rfl ⟨oL, l.length + 1, cL, _, by rw [HR.out, Nat.zero_add], HFIN.out, by rw [HR.out, List.map_append]; rfl, HBL.out⟩
        · go_simp
          refine hK _ _ ((Below.refl _ _).alloc hzV0 _ : Below (w.heap.size + 1) V0 _) ?_
          have hNV04 := Blk.new V0 [Value.string f, .string t, .slice po pn pc] 25
          have hbV04 := hbV0.alloc hbV0.size (.cells [Value.string f, .string t, .slice po pn pc].toArray 25)
          have hzV04 : w.heap.size + 1 ≤ (V0.alloc (.cells [Value.string f, .string t, .slice po pn pc].toArray 25)).heap.size := by simp; omega
          have hMV04 := hMV0.alloc (.cells [Value.string f, .string t, .slice po pn pc].toArray 25)
          have hEV04 := hEV0.alloc (.cells [Value.string f, .string t, .slice po pn pc].toArray 25)
          have hne : ¬ be = V0.heap.size := by have := (hEV0.row.lt be rfl).2; omega
          clear hK
          obtain ⟨bn, hbn⟩ : ∃ b, V0.heap.size = b := ⟨_, rfl⟩
          rw [hbn] at hNV04 ⊢
          rw [hbn] at hne
          clear hbn
          generalize V0.alloc (.cells [Value.string f, .string t, .slice po pn pc].toArray 25) = V04 at *
          refine pl_one rfl rfl (fun K hK => ?_)
          refine wp_app el22 (by rfl) (by rfl) hEV04 (by rfl) (m := l.length) (flat3 l) hMV04 (Pk.oneCells l) (by simp [maxLen]; omega) (by omega) hzV04 ?_
          intro va V042 hAV042 hgV042
          have hbV042 := hEV04.below hgV042 hbV04 (by omega) hzV04
          have hzV042 := Nat.le_trans hzV04 hgV042.size
          have hMV042 := keptLow hEV04 hgV042 hMV04 HM0.out (by omega)
          have hNV042 := hNV04.grown hgV042 (by simpa [Value.ownBlock] using hne)
          refine hK _ _ (hEV04.below hgV042 (Below.refl _ _) (Nat.le_refl _) hzV04 : Below (w.heap.size + 1) V04 V042) ?_
          clear hK
          refine pl_one rfl rfl (fun K hK => ?_)
          refine wp_app el22 (by rfl) (by rfl) hAV042 (by rfl) (m := 1) rfl hNV042.cells (by simp [Value.oneCell']) (by simp [maxLen]; omega) (by omega) hzV042 ?_
          intro vb WL hL hgL
          have hbL := hAV042.below hgL hbV042 (by omega) hzV042
          have hML := keptLow hAV042 hgL hMV042 HM0.out (by omega)
          refine hK _ _ (hAV042.below hgL (Below.refl _ _) (Nat.le_refl _) hzV042 : Below (w.heap.size + 1) V042 WL) ?_
          clear hK
          (refine pl_take (d := 4) (v := ?_) rfl rfl rfl ?_ ?_; rotate_left; (focus ((intro w' hb0 hw'; go_simp) <;> with_reducible rfl)); simp only [Act.put, List.setIfInBounds_toArray, List.set_cons_zero, List.set_cons_succ])
          (refine pl_take (d := 5) (v := ?_) rfl rfl rfl ?_ ?_; rotate_left; (focus ((intro w' hb0 hw'; go_simp) <;> with_reducible rfl)); simp only [Act.put, List.setIfInBounds_toArray, List.set_cons_zero, List.set_cons_succ])
          refine pl_end ?_
          obtain ⟨oL, cL, rfl, hn1, hn2, hcL, -⟩ := hL.cells
          have hfin : Pks WL oL (l.length + 1) cL (l ++ [⟨f, t, po, pn, pc, pb⟩]) := ⟨⟨by simp, by rw [List.flatMap_append]; simpa [Pk.cells] using hcL⟩, (by omega), hn2, fun q hq => by
            rcases List.mem_append.1 hq with hq | hq
            · exact (H.out.ok q hq).below hbL
            · obtain rfl : q = ⟨f, t, po, pn, pc, pb⟩ := by simpa using hq
              exact HP.out.below hbL⟩
          have HFIN := Lib.hid hfin; have HBL := Lib.hid hbL
          clear hfin hbL hL hML hcL hgL
          go_wp2
          refine bodyPost_ret (v := .tuple #[.slice oL (0 + l.length + 1) cL, .int .i64 0]) (by simp [results, Try.results12, go_sem]) rfl ⟨oL, l.length + 1, cL, _, by rw [HR.out, Nat.zero_add], HFIN.out, by rw [HR.out, List.map_append]; rfl, HBL.out⟩
      · go_simp
        refine hK _ _ ((Below.refl _ _).alloc hzW0 _ : Below (w.heap.size + 1) W0 _) ?_
        have hNV4 := Blk.new W0 [Value.string f, .string t, .slice po pn pc] 25
        have hbV4 := hbW0.alloc hbW0.size (.cells [Value.string f, .string t, .slice po pn pc].toArray 25)
        have hzV4 : w.heap.size + 1 ≤ (W0.alloc (.cells [Value.string f, .string t, .slice po pn pc].toArray 25)).heap.size := by simp; omega
        have hMV4 := hMW0.alloc (.cells [Value.string f, .string t, .slice po pn pc].toArray 25)
        clear hK
        obtain ⟨bn, hbn⟩ : ∃ b, W0.heap.size = b := ⟨_, rfl⟩
        rw [hbn] at hNV4 ⊢
        clear hbn
        generalize W0.alloc (.cells [Value.string f, .string t, .slice po pn pc].toArray 25) = V4 at *
        refine pl_one rfl rfl (fun K hK => ?_)
        go_simp
        refine hK _ _ ((Below.refl _ _).alloc hzV4 _ : Below (w.heap.size + 1) V4 _) ?_
        have hEV40 := Own.lit V4 [] 25 3 0 (by simp [maxLen]) rfl (w.heap.size + 1) hzV4
        have hbV40 := hbV4.alloc hbV4.size (.cells ([] : List Value).toArray 25)
        have hzV40 : w.heap.size + 1 ≤ (V4.alloc (.cells ([] : List Value).toArray 25)).heap.size := by simp; omega
        have hMV40 := hMV4.alloc (.cells ([] : List Value).toArray 25)
        have hNV40 := hNV4.alloc (.cells ([] : List Value).toArray 25)
        have hne : ¬ V4.heap.size = bn := by have := hNV4.lt; omega
        clear hK
        obtain ⟨be, hbe⟩ : ∃ b, V4.heap.size = b := ⟨_, rfl⟩
        rw [hbe] at hEV40 ⊢
        rw [hbe] at hne
        clear hbe
        generalize V4.alloc (.cells ([] : List Value).toArray 25) = V40 at *
        refine pl_one rfl rfl (fun K hK => ?_)
        refine wp_app el22 (by rfl) (by rfl) hEV40 (by rfl) (m := l.length) (flat3 l) hMV40 (Pk.oneCells l) (by simp [maxLen]; omega) (by omega) hzV40 ?_
        intro va V402 hAV402 hgV402
        have hbV402 := hEV40.below hgV402 hbV40 (by omega) hzV40
        have hzV402 := Nat.le_trans hzV40 hgV402.size
        have hMV402 := keptLow hEV40 hgV402 hMV40 HM0.out (by omega)
        have hNV402 := hNV40.grown hgV402 (by simpa [Value.ownBlock] using hne)
        refine hK _ _ (hEV40.below hgV402 (Below.refl _ _) (Nat.le_refl _) hzV40 : Below (w.heap.size + 1) V40 V402) ?_
        clear hK
        refine pl_one rfl rfl (fun K hK => ?_)
        refine wp_app el22 (by rfl) (by rfl) hAV402 (by rfl) (m := 1) rfl hNV402.cells (by simp [Value.oneCell']) (by simp [maxLen]; omega) (by omega) hzV402 ?_
        intro vb WL hL hgL
        have hbL := hAV402.below hgL hbV402 (by omega) hzV402
        have hML := keptLow hAV402 hgL hMV402 HM0.out (by omega)
        refine hK _ _ (hAV402.below hgL (Below.refl _ _) (Nat.le_refl _) hzV402 : Below (w.heap.size + 1) V402 WL) ?_
        clear hK
        (refine pl_take (d := 4) (v := ?_) rfl rfl rfl ?_ ?_; rotate_left; (focus ((intro w' hb0 hw'; go_simp) <;> with_reducible rfl)); simp only [Act.put, List.setIfInBounds_toArray, List.set_cons_zero, List.set_cons_succ])
        (refine pl_take (d := 5) (v := ?_) rfl rfl rfl ?_ ?_; rotate_left; (focus ((intro w' hb0 hw'; go_simp) <;> with_reducible rfl)); simp only [Act.put, List.setIfInBounds_toArray, List.set_cons_zero, List.set_cons_succ])
        refine pl_end ?_
        obtain ⟨oL, cL, rfl, hn1, hn2, hcL, -⟩ := hL.cells
        have hfin : Pks WL oL (l.length + 1) cL (l ++ [⟨f, t, po, pn, pc, pb⟩]) := ⟨⟨by simp, by rw [List.flatMap_append]; simpa [Pk.cells] using hcL⟩, (by omega), hn2, fun q hq => by
          rcases List.mem_append.1 hq with hq | hq
          · exact (H.out.ok q hq).below hbL
          · obtain rfl : q = ⟨f, t, po, pn, pc, pb⟩ := by simpa using hq
            exact HP.out.below hbL⟩
        have HFIN := Lib.hid hfin; have HBL := Lib.hid hbL
        clear hfin hbL hL hML hcL hgL
        go_wp2
        refine bodyPost_ret (v := .tuple #[.slice oL (0 + l.length + 1) cL, .int .i64 0]) (by simp [results, Try.results12, go_sem]) rfl ⟨oL, l.length + 1, cL, _, by rw [HR.out, Nat.zero_add], HFIN.out, by rw [HR.out, List.map_append]; rfl, HBL.out⟩
end Go.Proofs.Ythnfbbnpjfjaiaa
