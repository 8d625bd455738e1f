/-
  Walks of the document's numbers: products, the least number.
-/
import Derived.Test.YtlheepcojeaeaaaXe
namespace Go.Proofs.Ytlheepcojeaeaaa
open Go.RowKit Go.Proofs.Ytlheepcojeaeaaa.PlanB Go.Proofs.Ytlheepcojeaeaaa.Eager
set_option maxHeartbeats 1000000
set_option maxRecDepth 4000
set_option linter.unusedVariables false
set_option linter.unusedSimpArgs false

def OutI (w : World) (l : List Nat) (e : Ending) (w' : World) : Prop := ∃ oa c, e = .returned (.slice oa l.length c) ∧ Cells w' oa (l.map IV) ∧ Below w.heap.size w w'
theorem map_set (l : List Nat) (i v : Nat) : (l.map IV).set i (IV v) = (l.set i v).map IV := by rw [List.map_set]
theorem el42 : Elem Try.prog 42 3 1 8 := Elem.of (.int .i64 0) rfl (by kernel_rfl) rfl (by omega)
theorem IV_oneCell {l : List Nat} : ∀ u ∈ l.map IV, u.oneCell' = true := by
  intro u hu
  obtain ⟨x, -, rfl⟩ := List.mem_map.1 hu
  rfl
theorem foldIter_len (n : List Nat) : ∀ k, 0 < k → (foldIter n k).length = 28
  | 0, h => by omega
  | k + 1, _ => foldC_len _
theorem foldIter_lt (n : List Nat) (h : ∀ i, n.getD i 0 < 256) : ∀ k i, (foldIter n k).getD i 0 < 256
  | 0, i => h i
  | k + 1, i => foldC_lt _ i

theorem times21 (a b : List Nat) (w : World) (oa ob : Option Addr) (ca cb : Nat) (ha : Cells w oa (a.map IV)) (hb : Cells w ob (b.map IV)) (hla : a.length = 17) (hlb : b.length = 17)
    (hda : ∀ i, a.getD i 0 ≤ 511) (hdb : ∀ i, b.getD i 0 < 256) :
    Calls Try.prog 21 #[.slice oa 17 ca, .slice ob 17 cb] w (OutI w (timesR a b)) := by
  have HA := Lib.hid ha; have HB := Lib.hid hb; have HLA := Lib.hid hla; have HLB := Lib.hid hlb
  have HP : Hid (∀ i, i ≤ 17 → ∀ j, (prodOut a b i).getD j 0 ≤ i * (17 * (511 * 255))) := prodOut_le a b (511 * 255) (fun i k => Nat.mul_le_mul (hda i) (by have := hdb k; omega))
  have HPI : Hid (∀ i, i < 17 → ∀ k, k ≤ 17 → ∀ j, (prodIn a b i (prodOut a b i) k).getD j 0 ≤ i * (17 * (511 * 255)) + k * (511 * 255)) := fun i hi k hk j =>
    prodIn_le a b i _ (prodOut_len a b i) hi (511 * 255) _ (fun k => Nat.mul_le_mul (hda i) (by have := hdb k; omega)) (HP.out i (by omega)) k hk j
  have HDA := Lib.hid hda; have HDB := Lib.hid hdb
  clear ha hb hla hlb hda hdb
  have hmk : ∀ W : World, (Instr.makeSlice 42 (.int .i64 34) (.int .i64 34)).run Try.prog W = .ok (.slice (some ⟨W.heap.size, 0, none⟩) 34 34) (W.alloc (.cells (zI 34).toArray 3)) := mkI 34 (by omega)
  go_enter Try.func21, Try.ntmps21
  go_wp2
  clear hmk
  go_loopw [6] (fun i wr => ∃ k : Nat, k ≤ 17 ∧ i = .int .i64 k ∧ Hid (Blk wr w.heap.size ((prodOut a b k).map IV)) ∧ Hid (Below w.heap.size w wr)) (fun i _ => 17 - (intOf i).toNat)
  case atStart =>
    refine ⟨0, by omega, rfl, ?_, by (with_reducible try refine Lib.hid ?_); (repeat (with_reducible first | assumption | exact Below.refl _ _ | apply Below.drew | apply Below.drewN' | apply Below.setCell | apply Below.alloc)) <;> (try simp [length_fillTo, length_turnTo]) <;> (try omega)⟩
    exact Blk.cast (by (with_reducible try refine Lib.hid ?_); (repeat (with_reducible first | assumption | (apply Blk.new' <;> (simp; done)) | apply Blk.drew | apply Blk.drewN | apply Blk.alloc | apply Blk.set | apply Blk.setOther)) <;> (try simp [length_fillTo, length_turnTo]) <;> (try omega)) (by rfl)
  case round =>
    obtain ⟨i, hi, rfl, hO, hbel⟩ := hrel
    by_cases hlt : i < 17
    · have hi5 : (i : Int) < 17 := by omega
      have ri : IntKind.i64.wrap ((i : Int) + 1) = ((i + 1 : Nat) : Int) := by rw [IntKind.wrap_i64]; omega
      have HO := hO; have HBE := hbel
      clear hO hbel
      go_wp2
      go_loopw [7] (fun u wr => ∃ k : Nat, k ≤ 17 ∧ u = .int .i64 k ∧ Hid (Blk wr w.heap.size ((prodIn a b i (prodOut a b i) k).map IV)) ∧ Hid (Below w.heap.size w wr)) (fun u _ => 17 - (intOf u).toNat)
      case atStart => exact ⟨0, by omega, rfl, HO, HBE⟩
      case round =>
        obtain ⟨k, hk, rfl, hO, hbel⟩ := hrel
        by_cases hlk : k < 17
        · have hk5 : (k : Int) < 17 := by omega
          have rk : IntKind.i64.wrap ((k : Int) + 1) = ((k + 1 : Nat) : Int) := by rw [IntKind.wrap_i64]; omega
          obtain ⟨b1, o1, rfl, hb1, hc1⟩ := (HA.out.below hbel.out (Nat.le_refl _)).num (i := i) (by rw [HLA.out]; omega)
          obtain ⟨b2, o2, rfl, hb2, hc2⟩ := (HB.out.below hbel.out (Nat.le_refl _)).num (i := k) (by rw [HLB.out]; omega)
          have hll : (prodIn a b i (prodOut a b i) k).length = 34 := by rw [prodIn_len, prodOut_len]
          have hc0 := hO.out.cells.num (i := i + k) (by rw [hll]; omega)
          obtain ⟨b0, o0, e0, -, hc0⟩ := hc0
          obtain ⟨rfl, rfl⟩ : w.heap.size = b0 ∧ 0 = o0 := by simpa using e0
          rw [Nat.zero_add] at hc0
          have hpl := HPI.out i hlt k hk (i + k)
          have hxl := HDA.out i; have hyl := HDB.out k
          have HN : Hid (prodIn a b i (prodOut a b i) (k + 1) = (prodIn a b i (prodOut a b i) k).set (i + k) ((prodIn a b i (prodOut a b i) k).getD (i + k) 0 + a.getD i 0 * b.getD k 0)) := rfl
          generalize prodIn a b i (prodOut a b i) k = P at *
          obtain ⟨z, hz⟩ : ∃ z, P.getD (i + k) 0 = z := ⟨_, rfl⟩
          obtain ⟨x, hx⟩ : ∃ x, a.getD i 0 = x := ⟨_, rfl⟩
          obtain ⟨y, hy⟩ : ∃ y, b.getD k 0 = y := ⟨_, rfl⟩
          rw [hz] at hc0 hpl HN; rw [hx] at hc1 hxl HN; rw [hy] at hc2 hyl HN
          have hxy : x * y ≤ 511 * 255 := Nat.mul_le_mul hxl (by omega)
          obtain ⟨v, hv⟩ : ∃ v, x * y = v := ⟨_, rfl⟩
          obtain ⟨q, hq⟩ : ∃ q, i + k = q := ⟨_, rfl⟩
          rw [hv] at hxy HN; rw [hq] at hc0 HN
          have hip : i * (17 * (511 * 255)) ≤ 17 * (17 * (511 * 255)) := Nat.mul_le_mul_right _ hi
          have hkp : k * (511 * 255) ≤ 17 * (511 * 255) := Nat.mul_le_mul_right _ hk
          have r1 : IntKind.i64.wrap ((i : Int) + (k : Int)) = (q : Int) := by rw [IntKind.wrap_i64]; omega
          have r2 : IntKind.i64.wrap ((x : Int) * (y : Int)) = (v : Int) := by
            rw [show (x : Int) * (y : Int) = (v : Int) by rw [← hv]; simp, IntKind.wrap_i64]; omega
          have r3 : IntKind.i64.wrap ((z : Int) + (v : Int)) = ((z + v : Nat) : Int) := by rw [IntKind.wrap_i64]; omega
          obtain ⟨s, hs⟩ : ∃ s, z + v = s := ⟨_, rfl⟩
          rw [hs] at r3 HN
          have hq34 : (q : Int) < 34 := by omega
          have hq34n : q < 34 := by omega
          have hA2 := HA.out.below hbel.out (Nat.le_refl _)
          have hB2 := HB.out.below hbel.out (Nat.le_refl _)
          have HKK := Lib.hid hlk
          have HPL := Lib.hid hll
          have HC0 := Lib.hid hc0; have HC1 := Lib.hid hc1; have HC2 := Lib.hid hc2
          clear hpl hxl hyl hz hx hy hxy hv hq hip hkp hs hll e0 hA2 hB2 hc0 hc1 hc2 hlk
          have HBW := hbel; have HOW := hO
          clear hbel hO
          go_wp2_with fail
          refine wp_region_plan none [21] [] (.take 0 (.take 1 (.take 2 (.take 3 (.take 4 (.take 5 (.take 6 (.take 7 (.take 8 (.take 9 (.take 10 (.take 11 (.take 12 (.take 13 (.take 14 (.take 15 (.take 16 (.take 17 (.take 18 (.take 19 (.take 20 (.tail [21])))))))))))))))))))))) (by kernel_rfl) (by kernel_rfl) (fun _ _ dd _ _ h => by cases dd <;> exact h) ?_
          intro W0 hW0
          have hbW : Below w.heap.size w W0 := by rw [hW0]; exact HBW.out.drew
          have hOW : Blk W0 w.heap.size (P.map IV) := by rw [hW0]; exact HOW.out.drew
          have hl1 : b1 < W0.heap.size := by rw [hW0]; exact hb1
          have hl2 : b2 < W0.heap.size := by rw [hW0]; exact hb2
          have hC0 : W0.cell? ⟨w.heap.size, q, none⟩ = some (.int .i64 (z : Int)) := by rw [hW0]; exact HC0.out
          have hC1 : W0.cell? ⟨b1, o1 + i, none⟩ = some (.int .i64 (x : Int)) := by rw [hW0]; exact HC1.out
          have hC2 : W0.cell? ⟨b2, o2 + k, none⟩ = some (.int .i64 (y : Int)) := by rw [hW0]; exact HC2.out
          clear hW0
          (refine pl_take (d := 19) (v := ?_) rfl rfl rfl ?_ ?_; rotate_left; (focus ((intro w' hb0 hw'; go_simp) <;> with_reducible rfl)); simp only [Act.put, List.setIfInBounds_toArray, List.set_cons_zero, List.set_cons_succ])
          (refine pl_take (d := 20) (v := ?_) rfl rfl rfl ?_ ?_; rotate_left; (focus ((intro w' hb0 hw'; go_simp) <;> with_reducible rfl)); simp only [Act.put, List.setIfInBounds_toArray, List.set_cons_zero, List.set_cons_succ])
          (refine pl_take (d := 21) (v := ?_) rfl rfl rfl ?_ ?_; rotate_left; (focus ((intro w' hb0 hw'; go_simp) <;> with_reducible rfl)); simp only [Act.put, List.setIfInBounds_toArray, List.set_cons_zero, List.set_cons_succ])
          (refine pl_take (d := 22) (v := ?_) rfl rfl rfl ?_ ?_; rotate_left; (focus ((intro w' hb0 hw'; go_simp) <;> with_reducible rfl)); simp only [Act.put, List.setIfInBounds_toArray, List.set_cons_zero, List.set_cons_succ])
          (refine pl_take (d := 23) (v := ?_) rfl rfl rfl ?_ ?_; rotate_left; (focus ((intro w' hb0 hw'; go_simp) <;> with_reducible rfl)); simp only [Act.put, List.setIfInBounds_toArray, List.set_cons_zero, List.set_cons_succ])
          (refine pl_take (d := 24) (v := ?_) rfl rfl rfl ?_ ?_; rotate_left; (focus ((intro w' hb0 hw'; go_simp) <;> with_reducible rfl)); simp only [Act.put, List.setIfInBounds_toArray, List.set_cons_zero, List.set_cons_succ])
          (refine pl_take (d := 25) (v := ?_) rfl rfl rfl ?_ ?_; rotate_left; (focus ((intro w' hb0 hw'; go_simp) <;> with_reducible rfl)); simp only [Act.put, List.setIfInBounds_toArray, List.set_cons_zero, List.set_cons_succ])
          (refine pl_take (d := 26) (v := ?_) rfl rfl rfl ?_ ?_; rotate_left; (focus ((intro w' hb0 hw'; go_simp) <;> with_reducible rfl)); simp only [Act.put, List.setIfInBounds_toArray, List.set_cons_zero, List.set_cons_succ])
          (refine pl_take (d := 27) (v := ?_) rfl rfl rfl ?_ ?_; rotate_left; (focus ((intro w' hb0 hw'; go_simp) <;> with_reducible rfl)); simp only [Act.put, List.setIfInBounds_toArray, List.set_cons_zero, List.set_cons_succ])
          (refine pl_take (d := 28) (v := ?_) rfl rfl rfl ?_ ?_; rotate_left; (focus ((intro w' hb0 hw'; have q0 : w'.cell? ⟨w.heap.size, q, none⟩ = some (.int .i64 (z : Int)) := (hw'.cell (p := ⟨w.heap.size, q, none⟩) hOW.lt).trans hC0; go_simp) <;> with_reducible rfl)); simp only [Act.put, List.setIfInBounds_toArray, List.set_cons_zero, List.set_cons_succ])
          (refine pl_take (d := 29) (v := ?_) rfl rfl rfl ?_ ?_; rotate_left; (focus ((intro w' hb0 hw'; go_simp) <;> with_reducible rfl)); simp only [Act.put, List.setIfInBounds_toArray, List.set_cons_zero, List.set_cons_succ])
          (refine pl_take (d := 30) (v := ?_) rfl rfl rfl ?_ ?_; rotate_left; (focus ((intro w' hb0 hw'; go_simp) <;> with_reducible rfl)); simp only [Act.put, List.setIfInBounds_toArray, List.set_cons_zero, List.set_cons_succ])
          (refine pl_take (d := 31) (v := ?_) rfl rfl rfl ?_ ?_; rotate_left; (focus ((intro w' hb0 hw'; go_simp) <;> with_reducible rfl)); simp only [Act.put, List.setIfInBounds_toArray, List.set_cons_zero, List.set_cons_succ])
          (refine pl_take (d := 32) (v := ?_) rfl rfl rfl ?_ ?_; rotate_left; (focus ((intro w' hb0 hw'; have q1 : w'.cell? ⟨b1, o1 + i, none⟩ = some (.int .i64 (x : Int)) := (hw'.cell (p := ⟨b1, o1 + i, none⟩) hl1).trans hC1; go_simp) <;> with_reducible rfl)); simp only [Act.put, List.setIfInBounds_toArray, List.set_cons_zero, List.set_cons_succ])
          (refine pl_take (d := 33) (v := ?_) rfl rfl rfl ?_ ?_; rotate_left; (focus ((intro w' hb0 hw'; go_simp) <;> with_reducible rfl)); simp only [Act.put, List.setIfInBounds_toArray, List.set_cons_zero, List.set_cons_succ])
          (refine pl_take (d := 34) (v := ?_) rfl rfl rfl ?_ ?_; rotate_left; (focus ((intro w' hb0 hw'; go_simp) <;> with_reducible rfl)); simp only [Act.put, List.setIfInBounds_toArray, List.set_cons_zero, List.set_cons_succ])
          (refine pl_take (d := 35) (v := ?_) rfl rfl rfl ?_ ?_; rotate_left; (focus ((intro w' hb0 hw'; go_simp) <;> with_reducible rfl)); simp only [Act.put, List.setIfInBounds_toArray, List.set_cons_zero, List.set_cons_succ])
          (refine pl_take (d := 36) (v := ?_) rfl rfl rfl ?_ ?_; rotate_left; (focus ((intro w' hb0 hw'; have q2 : w'.cell? ⟨b2, o2 + k, none⟩ = some (.int .i64 (y : Int)) := (hw'.cell (p := ⟨b2, o2 + k, none⟩) hl2).trans hC2; go_simp) <;> with_reducible rfl)); simp only [Act.put, List.setIfInBounds_toArray, List.set_cons_zero, List.set_cons_succ])
          (refine pl_take (d := 37) (v := ?_) rfl rfl rfl ?_ ?_; rotate_left; (focus ((intro w' hb0 hw'; go_simp) <;> with_reducible rfl)); simp only [Act.put, List.setIfInBounds_toArray, List.set_cons_zero, List.set_cons_succ])
          (refine pl_take (d := 38) (v := ?_) rfl rfl rfl ?_ ?_; rotate_left; (focus ((intro w' hb0 hw'; go_simp) <;> with_reducible rfl)); simp only [Act.put, List.setIfInBounds_toArray, List.set_cons_zero, List.set_cons_succ])
          (refine pl_take (d := 39) (v := ?_) rfl rfl rfl ?_ ?_; rotate_left; (focus ((intro w' hb0 hw'; go_simp) <;> with_reducible rfl)); simp only [Act.put, List.setIfInBounds_toArray, List.set_cons_zero, List.set_cons_succ])
          refine pl_tail ?_
          refine tl_do rfl rfl (fun K hK => ?_)
          have cz := hOW.froz
          go_simp
          refine hK _ _ ?_
          clear hK cz
          have hOF := hOW.set q (by simp [HPL.out, hq34n]) (IV s)
          have hbF := hbW.setCell (p := ⟨w.heap.size, q, none⟩) (Nat.le_refl _) (IV s)
          change Blk (W0.setCell ⟨w.heap.size, q, none⟩ (.int .i64 (s : Int))) _ _ at hOF
          change Below _ _ (W0.setCell ⟨w.heap.size, q, none⟩ (.int .i64 (s : Int))) at hbF
          generalize W0.setCell ⟨w.heap.size, q, none⟩ (.int .i64 (s : Int)) = WF at *
          (try simp only [Act.put, List.setIfInBounds_toArray, List.set_cons_zero, List.set_cons_succ])
          refine tl_end ?_
          go_wp2_with fail
          go_roundw
          case measure => have := HKK.out; simp [intOf]; omega
          case rel =>
            have h1 := HKK.out
            refine ⟨k + 1, by omega, rfl, Lib.hid ?_, Lib.hid hbF⟩
            rw [HN.out, ← map_set]; exact hOF
        · obtain rfl : k = 17 := by omega
          have HO2 := hO; have HB2 := hbel
          clear hO hbel
          go_wp2
          go_roundw
          case measure => simp [intOf]; omega
          case rel => exact ⟨i + 1, by omega, rfl, HO2, HB2⟩
    · obtain rfl : i = 17 := by omega
      have HO := hO; have HBE := hbel
      have hl34 : (prodOut a b 17).length = 34 := prodOut_len a b 17
      have HC := carried26 (prodOut a b 17) wr (some ⟨w.heap.size, 0, none⟩) 34 hO.out.cells (by omega) (fun i => by have := HP.out 17 (by omega) i; omega)
      rw [hl34] at HC
      clear hO hbel hl34
      go_wp2_with fail
      refine HC.mono ?_
      rintro r w1 ⟨g, rfl, hg, hblk, hbk⟩
      have l0 : (carriedR (prodOut a b 17)).length = 38 := by rw [carried_len, prodOut_len]
      have HL0 := Lib.hid l0
      have HLT0 : Hid (∀ i, (carriedR (prodOut a b 17)).getD i 0 < 256) := carried_lt _
      have HF : Hid (timesR a b = (foldIter (carriedR (prodOut a b 17)) 4).take 17) := rfl
      have HCB := Lib.hid hblk.cells; have HBB := Lib.hid (below_step HBE.out hbk)
      clear hblk hbk HC HO HBE hg
      rw [l0]
      generalize carriedR (prodOut a b 17) = N at *
      clear l0
      go_wp2_with fail
      go_loopw [8, 9] (fun v u wr => ∃ m : Nat, m ≤ 4 ∧ u = .int .i64 m ∧ (∃ oa c, v = .slice (some oa) (foldIter N m).length c ∧ (foldIter N m).length ≤ c ∧ Hid (Cells wr (some oa) ((foldIter N m).map IV))) ∧ Hid (Below w.heap.size w wr)) (fun _ u _ => 4 - (intOf u).toNat)
      case atStart => exact ⟨0, by omega, rfl, ⟨⟨g, 0, none⟩, 38, by rw [foldIter, HL0.out], by rw [foldIter, HL0.out]; omega, HCB⟩, HBB⟩
      case round =>
        obtain ⟨m, hm, rfl, ⟨ov, cv, rfl, hcv, hC⟩, hbel⟩ := hrel
        have hlen : 17 ≤ (foldIter N m).length ∧ (foldIter N m).length ≤ 41 := by
          cases m with
          | zero => rw [foldIter, HL0.out]; omega
          | succ m => rw [foldIter_len N _ (by omega)]; omega
        by_cases hlm : m < 4
        · have hm5 : (m : Int) < 4 := by omega
          have rm : IntKind.i64.wrap ((m : Int) + 1) = ((m + 1 : Nat) : Int) := by rw [IntKind.wrap_i64]; omega
          have HC := folded27 (foldIter N m) wr (some ov) cv hC.out hlen.1 hlen.2 (foldIter_lt N HLT0.out m)
          have hlt2 := foldIter_lt N HLT0.out m
          have HI : Hid (foldIter N (m + 1) = carriedR (foldedR (foldIter N m))) := rfl
          generalize foldIter N m = M at *
          have hfl : (foldedR M).length = 24 := by simp [foldedR]
          have HFL := Lib.hid hfl; have HLM := Lib.hid hlm; have HLT2 := Lib.hid hlt2
          have HBE := hbel
          clear hC hlen hfl hlm hlt2 hcv hbel
          go_wp2_with fail
          refine HC.mono ?_
          rintro r w2 ⟨g2, rfl, hg2, hblk, hbk⟩
          have HC2 := carried26 (foldedR M) w2 (some ⟨g2, 0, none⟩) (foldedR M).length hblk.cells (by rw [HFL.out]; omega) (fun i => by have := folded_le M HLT2.out i; omega)
          have HB2 := Lib.hid (below_step HBE.out hbk)
          clear hblk hbk hg2 HC
          go_wp2_with fail
          refine HC2.mono ?_
          rintro r w3 ⟨g3, rfl, hg3, hblk, hbk⟩
          have HB3 := Lib.hid (below_step HB2.out hbk)
          have HC3 := Lib.hid hblk.cells
          clear hblk hbk hg3 HC2
          rw [← HI.out] at HC3 ⊢
          go_wp2_with fail
          go_roundw
          case measure => have := HLM.out; simp [intOf]; omega
          case rel => exact ⟨m + 1, by have := HLM.out; omega, rfl, ⟨_, _, rfl, Nat.le_refl _, HC3⟩, HB3⟩
        · obtain rfl : m = 4 := by omega
          have h28 : (foldIter N 4).length = 28 := foldIter_len N 4 (by omega)
          rw [h28] at hcv ⊢
          have h17c : (17 : Int) ≤ (cv : Int) := by omega
          have HR : Hid (Cells wr (some ov) ((timesR a b).map IV)) := by
            show Cells _ _ _
            rw [HF.out, List.map_take]; exact hC.out.take 17
          have hl17 : (timesR a b).length = 17 := by rw [HF.out, List.length_take, h28]; rfl
          have HL17 := Lib.hid hl17
          clear hl17 h28 hlen hC
          go_wp2
          refine bodyPost_ret (v := .slice (some ov) 17 cv) (by simp [results, Try.results21, go_sem]) rfl ⟨some ov, cv, by rw [HL17.out], HR.out, hbel.out⟩

theorem least22 (n : List Nat) (w : World) (oa : Option Addr) (c : Nat) (h : Cells w oa (n.map IV)) (hl : n.length = 17) (hd : ∀ i, n.getD i 0 < 256) :
    Calls Try.prog 22 #[.slice oa 17 c] w (OutI w (leastR n)) := by
  have H := Lib.hid h; have HL := Lib.hid hl
  have HM : Hid (leastR n = if (carriedR (n.set 0 (n.getD 0 0 + 5))).getD 16 0 < 4 ∧ (carriedR (n.set 0 (n.getD 0 0 + 5))).getD 17 0 = 0 then n else ((carriedR (n.set 0 (n.getD 0 0 + 5))).set 16 ((carriedR (n.set 0 (n.getD 0 0 + 5))).getD 16 0 % 4)).take 17) := rfl
  have HLT : Hid (∀ i, (n.set 0 (n.getD 0 0 + 5)).getD i 0 ≤ 260) := by
    show ∀ i, _
    intro i
    rw [getD_setN _ _ _ _ (by omega)]
    have h1 := hd i; have h2 := hd 0
    split <;> omega
  clear h hl
  go_enter Try.func22, Try.ntmps22
  go_wp2_with (refine stop_append rfl ?_)
  have h0 := Own.lit w [] 3 1 0 (by simp [maxLen]) rfl w.heap.size (Nat.le_refl _)
  refine ⟨wpList_app el42 rfl rfl (by rfl) h0 (by rfl) (m := 17) (by simp; exact HL.out) (H.out.alloc _) IV_oneCell (by simp [maxLen]) (by omega) (by simp) ?_⟩
  intro v w1 hown hg
  obtain ⟨g, cp, rfl, hn, hcm, hbg, hblk⟩ := hown.blk (by omega)
  have hb1 : Below w.heap.size w w1 := h0.below hg ((Below.refl _ _).alloc (Nat.le_refl _) _) (Nat.le_refl _) (by simp)
  rw [List.nil_append] at hblk
  have HB1 := Lib.hid hb1; have HG := Lib.hid hblk
  obtain ⟨b0, o0, e0, -, c0⟩ := hblk.cells.num (i := 0) (by rw [HL.out]; omega)
  obtain ⟨rfl, rfl⟩ : g = b0 ∧ 0 = o0 := by simpa using e0
  have hx := hd 0
  obtain ⟨x, hxx⟩ : ∃ x, n.getD 0 0 = x := ⟨_, rfl⟩
  rw [hxx] at c0 hx HM HLT
  have r1 : IntKind.i64.wrap ((x : Int) + 5) = ((x + 5 : Nat) : Int) := by rw [IntKind.wrap_i64]; omega
  obtain ⟨y, hy⟩ : ∃ y, x + 5 = y := ⟨_, rfl⟩
  rw [hy] at r1 HM HLT
  have cz := hblk.froz
  have hgl := hblk.lt
  clear hxx hy h0 hblk hb1 hown e0 hx hd hg
  go_wp2_with fail
  have hS : Blk (w1.setCell ⟨g, 0, none⟩ (IV y)) g ((n.set 0 y).map IV) := by rw [← map_set]; exact HG.out.set 0 (by rw [List.length_map, HL.out]; omega) _
  have hbS : Below w.heap.size w (w1.setCell ⟨g, 0, none⟩ (IV y)) := HB1.out.setCell hbg _
  change Blk (w1.setCell ⟨g, 0, none⟩ (.int .i64 (y : Int))) _ _ at hS
  change Below _ _ (w1.setCell ⟨g, 0, none⟩ (.int .i64 (y : Int))) at hbS
  have hl2 : (n.set 0 y).length = 17 := by rw [List.length_set]; exact HL.out
  have HC := carried26 (n.set 0 y) _ (some ⟨g, 0, none⟩) cp hS.cells (by omega) (fun i => by have := HLT.out i; omega)
  rw [hl2] at HC
  have HBS := Lib.hid hbS
  have hl21 : (carriedR (n.set 0 y)).length = 21 := by rw [carried_len, hl2]
  have HL21 := Lib.hid hl21
  clear hl2 hS hbS c0 hgl cz hbg r1 HG HB1 HLT
  refine HC.mono ?_
  rintro r w2 ⟨g2, rfl, hg2, hblk, hbk⟩
  rw [hl21]
  obtain ⟨b0, o0, e0, -, c16⟩ := hblk.cells.num (i := 16) (by rw [hl21]; omega)
  obtain ⟨rfl, rfl⟩ : g2 = b0 ∧ 0 = o0 := by simpa using e0
  obtain ⟨b0, o0, e0, -, c17⟩ := hblk.cells.num (i := 17) (by rw [hl21]; omega)
  obtain ⟨rfl, rfl⟩ : g2 = b0 ∧ 0 = o0 := by simpa using e0
  have hmx := carried_lt (n.set 0 y) 16
  have hcz := hblk.froz
  have hgl := hblk.lt
  have HB2 := Lib.hid (below_step HBS.out hbk)
  have HG2 := Lib.hid hblk
  have HGE : Hid (w.heap.size ≤ g2) := Nat.le_trans HBS.out.size hg2
  generalize carriedR (n.set 0 y) = m at *
  obtain ⟨x, hx⟩ : ∃ x, m.getD 16 0 = x := ⟨_, rfl⟩
  obtain ⟨z, hz⟩ : ∃ z, m.getD 17 0 = z := ⟨_, rfl⟩
  rw [hx] at c16 HM hmx; rw [hz] at c17 HM
  clear HC e0 hblk hbk hx hz hl21 HBS hg2
  by_cases h1 : x < 4
  · have h1' : (x : Int) < 4 := by omega
    by_cases h2 : z = 0
    · subst h2
      have HR : Hid (leastR n = n) := by show _ = _; rw [HM.out, if_pos ⟨h1, rfl⟩]
      have HF : Hid (Cells w2 oa (n.map IV)) := H.out.below HB2.out (Nat.le_refl _)
      clear h1 hmx HM
      go_wp2
      refine bodyPost_ret (v := .slice oa 17 c) (by simp [results, Try.results22, go_sem]) rfl ⟨oa, c, by rw [HR.out, HL.out], by rw [HR.out]; exact HF.out, HB2.out⟩
    · have h2' : ¬ (z : Int) = 0 := by omega
      have HR : Hid (leastR n = (m.set 16 (x % 4)).take 17) := by show _ = _; rw [HM.out, if_neg (by omega)]
      have HF : Hid (Blk (w2.setCell ⟨g2, 16, none⟩ (IV (x % 4))) g2 ((m.set 16 (x % 4)).map IV)) := by
        show Blk _ _ _
        rw [← map_set]; exact HG2.out.set 16 (by rw [List.length_map, HL21.out]; omega) _
      have HBF : Hid (Below w.heap.size w (w2.setCell ⟨g2, 16, none⟩ (IV (x % 4)))) := HB2.out.setCell HGE.out _
      have HL17 : Hid ((leastR n).length = 17) := by show _ = _; rw [HR.out, List.length_take, List.length_set, HL21.out]; rfl
      clear h1 h2 hmx HM
      go_wp2
      refine bodyPost_ret (v := .slice (some ⟨g2, 0, none⟩) 17 21) (by simp [results, Try.results22, go_sem]) rfl ⟨some ⟨g2, 0, none⟩, 21, by rw [HL17.out], by rw [HR.out, List.map_take]; exact HF.out.cells.take 17, HBF.out⟩
  · have h1' : ¬ (x : Int) < 4 := by omega
    have HR : Hid (leastR n = (m.set 16 (x % 4)).take 17) := by show _ = _; rw [HM.out, if_neg (by omega)]
    have HF : Hid (Blk (w2.setCell ⟨g2, 16, none⟩ (IV (x % 4))) g2 ((m.set 16 (x % 4)).map IV)) := by
      show Blk _ _ _
      rw [← map_set]; exact HG2.out.set 16 (by rw [List.length_map, HL21.out]; omega) _
    have HBF : Hid (Below w.heap.size w (w2.setCell ⟨g2, 16, none⟩ (IV (x % 4)))) := HB2.out.setCell HGE.out _
    have HL17 : Hid ((leastR n).length = 17) := by show _ = _; rw [HR.out, List.length_take, List.length_set, HL21.out]; rfl
    clear h1 hmx HM
    go_wp2
    refine bodyPost_ret (v := .slice (some ⟨g2, 0, none⟩) 17 21) (by simp [results, Try.results22, go_sem]) rfl ⟨some ⟨g2, 0, none⟩, 21, by rw [HL17.out], by rw [HR.out, List.map_take]; exact HF.out.cells.take 17, HBF.out⟩
end Go.Proofs.Ytlheepcojeaeaaa
