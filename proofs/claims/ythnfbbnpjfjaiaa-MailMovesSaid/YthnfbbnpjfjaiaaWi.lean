/-
  Walk: the document's answer for a packet that is taken.
-/
import Derived.Test.YthnfbbnpjfjaiaaWg
import Derived.Test.YthnfbbnpjfjaiaaDel
namespace Go.Proofs.Ythnfbbnpjfjaiaa
open Go.RowKit Go.Proofs.Ythnfbbnpjfjaiaa.Plan Go.Proofs.Ythnfbbnpjfjaiaa.Eager
set_option maxHeartbeats 1000000
set_option maxRecDepth 20000
set_option linter.unusedVariables false
set_option linter.unusedSimpArgs false

/-- no packet -/
def noDat : Dat := (⟨#[]⟩, ⟨#[]⟩, [])
def noPk : Pk := ⟨⟨#[]⟩, ⟨#[]⟩, none, 0, 0, []⟩
theorem noPk_ok (w : World) : noPk.Ok w := ⟨⟨rfl, Cells.nil _ _⟩, by simp [noPk], by simp [noPk], by simp [noPk]⟩
def takeD (D : List Dat) (i : Int) : Dat × List Dat × Int := if i < 0 ∨ (D.length : Int) ≤ i then (noDat, D, 2) else (D.getD i.toNat noDat, D.take i.toNat ++ D.drop (i.toNat + 1), 0)
/-- a packet, a list and an error -/
def TakeOk (w : World) (T : Dat × List Dat × Int) (r : Ending) (w' : World) : Prop :=
  ∃ (q : Pk) (oa : Option Addr) (n c : Nat) (l' : List Pk), r = .returned (.tuple #[.agg q.cells.toArray, .slice oa n c, .int .i64 T.2.2]) ∧ q.Ok w' ∧ q.dat = T.1 ∧ Pks w' oa n c l' ∧ l'.map Pk.dat = T.2.1 ∧ Below w.heap.size w w'

theorem Cells.pre {w : World} {oa : Option Addr} {cs ds : List Value} (h : Cells w oa (cs ++ ds)) : Cells w oa cs := fun i hi => by
  obtain ⟨b, o, e, hc⟩ := h i (by simp; omega)
  exact ⟨b, o, e, by rw [hc, List.getElem?_append_left hi]⟩
theorem Cells.post {w : World} {b o m : Nat} {cs ds : List Value} (h : Cells w (some ⟨b, o, none⟩) (cs ++ ds)) (hm : m = cs.length) : Cells w (some ⟨b, o + m, none⟩) ds := fun i hi => by
  obtain ⟨b', o', e, hc⟩ := h (cs.length + i) (by simp; omega)
  obtain ⟨rfl, rfl⟩ : b = b' ∧ o = o' := by simpa using e
  exact ⟨b, o + m, rfl, by rw [hm, Nat.add_assoc, hc, List.getElem?_append_right (by omega), Nat.add_sub_cancel_left]⟩
theorem Cells.behind {w : World} {b o m c k : Nat} {cs ds : List Value} (h : Cells w (some ⟨b, o, none⟩) (cs ++ ds)) (hm : m = cs.length) (hc : c = k → ds = []) : Cells w (if c = k then some ⟨b, o, none⟩ else some ⟨b, o + m, none⟩) ds := by
  by_cases e : c = k
  · rw [hc e]; exact Cells.nil _ _
  · rw [if_neg e]; exact h.post hm
theorem split_flat (l : List Pk) (k : Nat) : l.flatMap Pk.cells = (l.take k).flatMap Pk.cells ++ (l.drop k).flatMap Pk.cells := by
  rw [← List.flatMap_append, List.take_append_drop]

theorem refTake13 (l : List Pk) (i : Int) (w : World) (oa : Option Addr) (n c : Nat) (h : Pks w oa n c l) (hl : l.length ≤ 1000) :
    Calls Try.prog 13 #[.slice oa n c, .int .i64 i] w (TakeOk w (takeD (l.map Pk.dat) i)) := by
  obtain rfl : n = l.length := h.rows.len
  obtain ⟨R, hR⟩ : ∃ R, takeD (l.map Pk.dat) i = R := ⟨_, rfl⟩
  rw [hR]
  have HS : Hid (R = if i < 0 ∨ (l.length : Int) ≤ i then (noDat, l.map Pk.dat, 2) else ((l.map Pk.dat).getD i.toNat noDat, (l.map Pk.dat).take i.toNat ++ (l.map Pk.dat).drop (i.toNat + 1), 0)) := by
    show _ = _
    rw [← hR]; unfold takeD; simp
  clear hR
  have hal : Below w.heap.size w (w.alloc (.cells #[Value.string ⟨#[]⟩, .string ⟨#[]⟩, .slice none 0 0] 25)) := (Below.refl _ _).alloc (Nat.le_refl _) _
  have hX := Blk.new w [Value.string ⟨#[]⟩, .string ⟨#[]⟩, .slice none 0 0] 25
  have HAL := Lib.hid hal; have HX := Lib.hid hX; clear hal hX
  have H := Lib.hid h; have HL := Lib.hid hl; have HM0 := Lib.hid h.rows.cells; have HLC := Lib.hid h.le; have HCM := Lib.hid h.cap; clear h hl
  obtain ⟨dd, hu25, hdr25⟩ := row25.row
  have HU := Lib.hid hu25; have HDR := Lib.hid hdr25; clear hu25 hdr25
  by_cases hin : i < 0 ∨ (l.length : Int) ≤ i
  · have HR : Hid (R = (noDat, l.map Pk.dat, 2)) := by show _ = _; rw [HS.out, if_pos hin]
    clear HS
    have fin : ∀ W5 : World, Blk W5 w.heap.size [Value.string ⟨#[]⟩, .string ⟨#[]⟩, .slice none 0 0] → Below w.heap.size w W5 → TakeOk w R (.returned (.tuple #[.agg #[Value.string ⟨#[]⟩, .string ⟨#[]⟩, .slice none 0 0], .slice oa l.length c, .int .i64 2])) W5 :=
      fun W5 _ hb => ⟨noPk, oa, _, c, l, by rw [HR.out]; rfl, noPk_ok _, by rw [HR.out]; rfl, H.out.below hb, by rw [HR.out], hb⟩
    have FIN := Lib.hid fin; clear fin
    by_cases h0 : i < 0
    · clear hin
      go_enter Try.func13, Try.ntmps13
      go_wp2_with (refine stop_store (ty := 25) rfl ?_)
      refine ⟨wpList_store_blk rfl rfl HX.out (by rfl) (vs := [Value.string ⟨#[]⟩, .string ⟨#[]⟩, .slice none 0 0]) (by rfl) row25 rfl (by simp [Value.oneCell']) ?_⟩
      intro W5 hY5 hg5
      have hb5 := Below.grownB HAL.out hg5 (Nat.le_refl _) HAL.out.size
      have hld := run_loadVar_mid W5 w.heap.size 0 25 _ dd hY5.range HU.out HDR.out row25.size
      have HLD := Lib.hid hld
      have HF := Lib.hid (FIN.out W5 hY5 hb5)
      clear hb5 hY5 hg5 hld
      go_wp2
      have hld := HLD.out
      refine bodyPost_ret (v := .tuple #[.agg #[Value.string ⟨#[]⟩, .string ⟨#[]⟩, .slice none 0 0], .slice oa l.length c, .int .i64 2]) ?_ rfl HF.out
      simp [results, Try.results13, asAddr, hld]
    · have h1 : (l.length : Int) ≤ i := by omega
      clear hin
      go_enter Try.func13, Try.ntmps13
      go_wp2_with (refine stop_store (ty := 25) rfl ?_)
      refine ⟨wpList_store_blk rfl rfl HX.out (by rfl) (vs := [Value.string ⟨#[]⟩, .string ⟨#[]⟩, .slice none 0 0]) (by rfl) row25 rfl (by simp [Value.oneCell']) ?_⟩
      intro W5 hY5 hg5
      have hb5 := Below.grownB HAL.out hg5 (Nat.le_refl _) HAL.out.size
      have hld := run_loadVar_mid W5 w.heap.size 0 25 _ dd hY5.range HU.out HDR.out row25.size
      have HLD := Lib.hid hld
      have HF := Lib.hid (FIN.out W5 hY5 hb5)
      clear hb5 hY5 hg5 hld
      go_wp2
      have hld := HLD.out
      refine bodyPost_ret (v := .tuple #[.agg #[Value.string ⟨#[]⟩, .string ⟨#[]⟩, .slice none 0 0], .slice oa l.length c, .int .i64 2]) ?_ rfl HF.out
      simp [results, Try.results13, asAddr, hld]
  · obtain ⟨k, rfl⟩ : ∃ k : Nat, i = (k : Int) := ⟨i.toNat, by omega⟩
    have hlt : k < l.length := by omega
    have h1 : (k : Int) < (l.length : Int) := by omega
    have hkc : k ≤ c := by have := HLC.out; omega
    have hk1c : k + 1 ≤ c := by have := HLC.out; omega
    have hk1l : k + 1 ≤ l.length := hlt
    have hkn1 : (0 : Int) ≤ (k : Int) + 1 := by omega
    have hkn2 : (k : Int) + 1 ≤ (l.length : Int) := by omega
    have rk : IntKind.i64.wrap ((k : Int) + 1) = ((k + 1 : Nat) : Int) := by
      have h1 := HL.out
      rw [IntKind.wrap_i64]; omega
    obtain ⟨b1, p1, rfl, hb1, e10, e11, e12⟩ := H.out.rows.pk hlt
    have hok := H.out.ok _ (List.getElem_mem hlt)
    have hR0 : R = (l[k].dat, (l.take k ++ l.drop (k + 1)).map Pk.dat, 0) := by
      rw [HS.out, if_neg hin]
      simp [List.getD, hlt]
    obtain ⟨q1, hq1'⟩ : ∃ q, l[k] = q := ⟨_, rfl⟩
    rw [hq1'] at e10 e11 e12 hok hR0
    clear hq1'
    obtain ⟨f, t, po, pn, pc, pb⟩ := q1
    simp only at e10 e11 e12
    have HR := Lib.hid hR0; have HP := Lib.hid hok
    clear HS hR0 hok hin
    have hM1 := (HM0.out.below HAL.out (Nat.le_refl _))
    have HM1 := Lib.hid hM1; clear hM1
    have HPRE := Lib.hid (((split_flat l k) ▸ HM0.out : Cells w (some ⟨b1, p1, none⟩) ((l.take k).flatMap Pk.cells ++ (l.drop k).flatMap Pk.cells)).pre)
    have HPOST := Lib.hid (((split_flat l (k + 1)) ▸ HM0.out : Cells w (some ⟨b1, p1, none⟩) ((l.take (k + 1)).flatMap Pk.cells ++ (l.drop (k + 1)).flatMap Pk.cells)).behind (m := (k + 1) * 3) (c := c) (k := k + 1) (by rw [flat3]; simp; omega) (fun e => by have := HLC.out; rw [List.drop_of_length_le (by omega)]; rfl))
    obtain ⟨A, hAe⟩ : ∃ A, (if c = k + 1 then some (⟨b1, p1, none⟩ : Addr) else some ⟨b1, p1 + (k + 1) * 3, none⟩) = A := ⟨_, rfl⟩
    rw [hAe] at HPOST
    have hAlt : ∀ a, A = some a → a.block = b1 := by intro a ha; rw [← hAe] at ha; split at ha <;> cases ha <;> rfl
    have HALT := Lib.hid hAlt; clear hAlt
    have hX2 := HX.out.alloc (.cells ([] : List Value).toArray 25)
    have hb2 := HAL.out.alloc HAL.out.size (.cells ([] : List Value).toArray 25)
    have HX2 := Lib.hid hX2; have HB2 := Lib.hid hb2
    have hE : Own ((w.alloc (.cells #[Value.string ⟨#[]⟩, .string ⟨#[]⟩, .slice none 0 0] 25)).alloc (.cells ([] : List Value).toArray 25)) (w.heap.size + 1) 25 3 (.slice (some ⟨w.heap.size + 1, 0, none⟩) 0 0) 0 [] := by
      have := Own.lit (w.alloc (.cells #[Value.string ⟨#[]⟩, .string ⟨#[]⟩, .slice none 0 0] 25)) [] 25 3 0 (by simp [maxLen]) rfl (w.heap.size + 1) (by simp)
      simpa using this
    have HE := Lib.hid hE
    clear hX2 hb2 hE HX HM1
    go_enter Try.func13, Try.ntmps13
    go_wp2_with (first | (refine stop_append rfl ?_))
    have hll := HL.out
    have hne : (w.heap.size + 1 : Nat) ≤ ((w.alloc (.cells #[Value.string ⟨#[]⟩, .string ⟨#[]⟩, .slice none 0 0] 25)).alloc (.cells ([] : List Value).toArray 25)).heap.size := by simp
    refine ⟨wpList_app el22 rfl (by rfl) (by rfl) HE.out (by rfl) (m := k) (by rw [flat3, List.length_take, Nat.min_eq_left (Nat.le_of_lt hlt)]) (HPRE.out.below HB2.out (Nat.le_refl _)) (Pk.oneCells _) (by simp [maxLen]; omega) (by omega) hne ?_⟩
    intro va Wa hA hgA
    have hbA := HE.out.below hgA HB2.out (by omega) hne
    have hXA := HE.out.blkKept hgA HX2.out (by omega)
    have hPA := keptLow HE.out hgA (HPOST.out.below HB2.out (Nat.le_refl _)) HPOST.out (by omega)
    have hzA := Nat.le_trans hne hgA.size
    have HA := Lib.hid hA; have HBA := Lib.hid hbA; have HXA := Lib.hid hXA; have HPA := Lib.hid hPA; have HZA := Lib.hid hzA
    clear hA hgA hbA hXA hPA hzA hne hll HE HX2 HB2
    go_wp2
    refine wp_region_plan (some (w.heap.size + 1)) [10, 11, 12] [4, 5, 6, 7, 8] (.take 0 (.take 1 (.take 2 (.take 3 (.pure 4 (.pure 5 (.pure 6 (.pure 7 (.pure 8 (.one 9 (.tail [10, 11, 12]))))))))))) (by kernel_rfl) (by kernel_rfl) (fun _ _ dd _ _ h => by cases dd <;> exact h) ?_
    intro W0 hW0
    have hX0 := HXA.out.drew
    have hbW0 := HBA.out.drew
    have hA0 := HA.out.drew
    have hP0 := HPA.out.below (below_drew Wa) (Nat.le_refl _)
    have hbW1 := HBA.out
    have c0 := cell_later e10 hbW0; have c1 := cell_later e11 hbW0; have c2 := cell_later e12 hbW0
    have hz0 : w.heap.size + 1 ≤ Wa.drew.heap.size := HZA.out
    rw [← hW0] at hX0 hbW0 hA0 hP0 c0 c1 c2 hz0
    clear hbW1 e10 e11 e12
    (refine pl_take (d := 23) (v := ?_) rfl rfl rfl ?_ ?_; rotate_left; (focus ((intro w' hb0 hw'; go_simp) <;> with_reducible rfl)); simp only [Act.put, List.setIfInBounds_toArray, List.set_cons_zero, List.set_cons_succ])
    (refine pl_take (d := 24) (v := ?_) rfl rfl rfl ?_ ?_; rotate_left; (focus ((intro w' hb0 hw'; go_simp) <;> with_reducible rfl)); simp only [Act.put, List.setIfInBounds_toArray, List.set_cons_zero, List.set_cons_succ])
    (refine pl_take (d := 25) (v := ?_) rfl rfl rfl ?_ ?_; rotate_left; (focus ((intro w' hb0 hw'; go_simp) <;> with_reducible rfl)); simp only [Act.put, List.setIfInBounds_toArray, List.set_cons_zero, List.set_cons_succ])
    (refine pl_take (d := 26) (v := ?_) rfl rfl rfl ?_ ?_; rotate_left; (focus ((intro w' hb0 hw'; have hb9 : Below (w.heap.size + 1) W0 w' := hb0; have d0 := (hb9.cell (p := ⟨b1, p1 + k * 3, none⟩) (by simp; omega)).trans c0; have d1 := (hb9.cell (p := ⟨b1, p1 + k * 3 + 1, none⟩) (by simp; omega)).trans c1; have d2 := (hb9.cell (p := ⟨b1, p1 + k * 3 + 2, none⟩) (by simp; omega)).trans c2; go_simp) <;> with_reducible rfl)); simp only [Act.put, List.setIfInBounds_toArray, List.set_cons_zero, List.set_cons_succ])
    (refine pl_pure (d := 27) (v := ?_) rfl rfl rfl ?_ ?_; rotate_left; (focus ((intro w'; go_simp) <;> with_reducible rfl)); simp only [Act.put, List.setIfInBounds_toArray, List.set_cons_zero, List.set_cons_succ])
    (refine pl_pure (d := 28) (v := ?_) rfl rfl rfl ?_ ?_; rotate_left; (focus ((intro w'; go_simp) <;> with_reducible rfl)); simp only [Act.put, List.setIfInBounds_toArray, List.set_cons_zero, List.set_cons_succ])
    (refine pl_pure (d := 29) (v := ?_) rfl rfl rfl ?_ ?_; rotate_left; (focus ((intro w'; go_simp) <;> with_reducible rfl)); simp only [Act.put, List.setIfInBounds_toArray, List.set_cons_zero, List.set_cons_succ])
    (refine pl_pure (d := 30) (v := ?_) rfl rfl rfl ?_ ?_; rotate_left; (focus ((intro w'; go_simp) <;> with_reducible rfl)); simp only [Act.put, List.setIfInBounds_toArray, List.set_cons_zero, List.set_cons_succ])
    (refine pl_pure (d := 31) (v := ?_) rfl rfl rfl ?_ ?_; rotate_left; (focus ((intro w'; go_simp) <;> with_reducible rfl)); simp only [Act.put, List.setIfInBounds_toArray, List.set_cons_zero, List.set_cons_succ])
    refine pl_one rfl rfl (fun K hK => ?_)
    have hll := HL.out
    refine wp_app el22 (by rfl) (by rfl) hA0 (by rfl) (m := l.length - (k + 1)) (by rw [flat3]; simp) hP0 (Pk.oneCells _) (by simp [maxLen]; omega) (by omega) hz0 ?_
    intro vL WL hL hgL
    have hbL := hA0.below hgL hbW0 (by omega) hz0
    have hXL := hA0.blkKept hgL hX0 (by omega)
    refine hK _ _ (hA0.below hgL (Below.refl _ _) (Nat.le_refl _) hz0 : Below (w.heap.size + 1) W0 WL) ?_
    clear hK
    refine pl_tail ?_
    refine tl_do rfl rfl (fun K hK => ?_)
    refine wp_store_blk rfl hXL (by rfl) (vs := [Value.string f, .string t, .slice po pn pc]) (by rfl) row25 rfl (by simp [Value.oneCell']) ?_
    intro W5 hY5 hg5
    have hb5 := Below.grownB hbL hg5 (Nat.le_refl _) hbL.size
    have hL5 : Own W5 (w.heap.size + 1) 25 3 vL _ _ := hL.grown hg5 (fun b e e2 => by have := (hL.row.lt b e).1; have e3 : w.heap.size = b := (by simpa using e2); omega)
    refine hK _ _ ?_
    clear hK
    (try simp only [Act.put, List.setIfInBounds_toArray, List.set_cons_zero, List.set_cons_succ])
    refine tl_do rfl rfl (fun K hK => ?_)
    go_simp
    refine hK _ _ ?_
    clear hK
    (try simp only [Act.put, List.setIfInBounds_toArray, List.set_cons_zero, List.set_cons_succ])
    refine tl_do rfl rfl (fun K hK => ?_)
    go_simp
    refine hK _ _ ?_
    clear hK
    (try simp only [Act.put, List.setIfInBounds_toArray, List.set_cons_zero, List.set_cons_succ])
    refine tl_end ?_
    obtain ⟨oL, cL, rfl, hn1, hn2, hcL, -⟩ := hL5.cells
    have hnn : 0 + k + (l.length - (k + 1)) = (l.take k ++ l.drop (k + 1)).length := by simp; omega
    have hfin : Pks W5 oL (0 + k + (l.length - (k + 1))) cL (l.take k ++ l.drop (k + 1)) := ⟨⟨hnn, by rw [List.flatMap_append]; simpa using hcL⟩, hn1, hn2, fun q hq => by
      refine (H.out.ok q ?_).below hb5
      rcases List.mem_append.1 hq with hq | hq
      · exact List.mem_of_mem_take hq
      · exact List.mem_of_mem_drop hq⟩
    have hld := run_loadVar_mid W5 w.heap.size 0 25 _ dd hY5.range HU.out HDR.out row25.size
    have HLD := Lib.hid hld
    have hF : TakeOk w R (.returned (.tuple #[.agg #[Value.string f, .string t, .slice po pn pc], .slice oL (0 + k + (l.length - (k + 1))) cL, .int .i64 0])) W5 :=
      ⟨⟨f, t, po, pn, pc, pb⟩, oL, _, cL, _, by rw [HR.out]; rfl, HP.out.below hb5, by rw [HR.out], hfin, by rw [HR.out], hb5⟩
    have HF := Lib.hid hF
    clear hfin hF hld hY5 hg5 hL5 hb5 hL hgL hbL hXL c0 c1 c2
    go_wp2
    have hld := HLD.out
    refine bodyPost_ret (v := .tuple #[.agg #[Value.string f, .string t, .slice po pn pc], .slice oL (0 + k + (l.length - (k + 1))) cL, .int .i64 0]) ?_ rfl HF.out
    simp [results, Try.results13, asAddr, hld]
end Go.Proofs.Ythnfbbnpjfjaiaa
