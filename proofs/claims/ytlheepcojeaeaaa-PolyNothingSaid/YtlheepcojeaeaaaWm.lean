/-
  The statement PolyNothing: the law's walk.
-/
import Derived.Test.YtlheepcojeaeaaaWl
import Derived.Test.YtlheepcojeaeaaaPlan
import Derived.KernelRfl
namespace Go.Proofs.Ytlheepcojeaeaaa
open Go.RowKit Go.Proofs.Ytlheepcojeaeaaa.Plan Go.Proofs.Ytlheepcojeaeaaa.Eager
set_option maxHeartbeats 1000000
set_option linter.unusedVariables false
set_option linter.unusedSimpArgs false

def z16 : List Value := List.replicate 16 (By 0)
theorem z16_map : z16 = (List.replicate 16 (0 : UInt8)).map By := by simp [z16]
theorem mk16' (w : World) : (Instr.makeSlice 23 (.int .i64 16) (.int .i64 16)).run Try.prog w = .ok (.slice (some ⟨w.heap.size, 0, none⟩) 16 16) (w.alloc (.cells z16.toArray 5)) := mk16 w

theorem set_getD_self (l : List UInt64) (j : Nat) : l.set j (l.getD j 0) = l := by
  apply List.ext_getElem
  · simp
  · intro i h1 h2
    rw [List.getElem_set]
    split
    · rename_i e; subst e
      simp [List.getD, h2]
    · rfl
theorem tIn_zero (a b : List UInt64) (i : Nat) (out : List UInt64) (hb : ∀ k, b.getD k 0 = 0) : ∀ k, tIn a b i out k = out
  | 0 => rfl
  | k + 1 => by
    have h := tIn_zero a b i out hb k
    have hp : tPart a b i k = 0 := by unfold tPart; rw [hb k]; simp
    rw [tIn, h, hp, UInt64.add_zero, set_getD_self]
theorem tOut_zero (a b : List UInt64) (hb : ∀ k, b.getD k 0 = 0) : ∀ k, tOut a b k = [0, 0, 0, 0, 0]
  | 0 => rfl
  | k + 1 => by rw [tOut, tIn_zero a b k _ hb, tOut_zero a b hb k]
def zeroN : N5 := ⟨0, 0, 0, 0, 0⟩
theorem zero_getD (k : Nat) : zeroN.list.getD k 0 = 0 := by
  match k with
  | 0 | 1 | 2 | 3 | 4 => rfl
  | n + 5 => rfl
theorem timesM_zero (a : N5) : timesM a zeroN = zeroN := by
  unfold timesM
  rw [tOut_zero _ _ zero_getD]
  kernel_rfl
theorem tagIter_zero (msg : List UInt8) : ∀ k, tagIter zeroN msg k = zeroN
  | 0 => rfl
  | k + 1 => by rw [tagIter]; exact timesM_zero _
theorem writeM_zero : writeM (leastM zeroN) = List.replicate 16 0 := by decide +kernel
theorem sOver_zero (b : List UInt8) : ∀ k, sOver (List.replicate 16 0) b k = 0
  | 0 => rfl
  | k + 1 => by
    have h0 : (List.replicate 16 (0 : UInt8)).getD k 0 = 0 := by
      rw [List.getD_eq_getElem?_getD, List.getElem?_replicate]
      split <;> rfl
    rw [sOver, sOver_zero b k, h0]
    have := (b.getD k 0).toNat_lt
    show (0 + (0 + (b.getD k 0).toNat)) / 256 = 0
    omega
theorem sumM_zero (b : List UInt8) (hb : b.length = 16) : sumM (List.replicate 16 0) b = b := by
  apply List.ext_getElem
  · simp [sumM, hb]
  · intro i h1 h2
    simp only [sumM, List.getElem_map, List.getElem_range, sByte, sOver_zero]
    have hi : i < 16 := by omega
    have h0 : (List.replicate 16 (0 : UInt8)).getD i 0 = 0 := by
      rw [List.getD_eq_getElem?_getD, List.getElem?_replicate]
      split <;> rfl
    rw [h0]
    simp [List.getD, h2]
/-- a text without bytes -/
theorem tag_empty (key : List UInt8) (hk : key.length = 32) : tagM key [] = key.drop 16 := by
  have e : tagM key [] = sumM (writeM (leastM zeroN)) (key.drop 16) := rfl
  rw [e, writeM_zero, sumM_zero _ (by simp [hk])]
theorem clamp_zero (l : List UInt8) (h : l.length = 16) : clampM (List.replicate 16 0 ++ l) = List.replicate 16 0 := by
  apply List.ext_getElem
  · simp [clampM]
  · intro i h1 h2
    have hi : i < 16 := by simpa using h2
    simp only [clampM, List.getElem_map, List.getElem_range, List.getElem_replicate]
    have : (List.replicate 16 (0 : UInt8) ++ l).getD i 0 = 0 := by
      rw [List.getD_eq_getElem?_getD, List.getElem?_append_left (by simpa using hi), List.getElem?_replicate, if_pos hi]; rfl
    rw [this]
    unfold clByte
    split
    · rfl
    · split <;> rfl
theorem read_zero : readM (List.replicate 16 0) = zeroN := by kernel_rfl
/-- a key whose first bytes are 0 -/
theorem tag_nothing (l msg : List UInt8) (h : l.length = 16) : tagM (List.replicate 16 0 ++ l) msg = l := by
  unfold tagM
  rw [clamp_zero l h, read_zero, tagIter_zero, writeM_zero, List.drop_left' (by simp), sumM_zero _ h]

theorem nothing_any (key msg : List UInt8) (w : World) (om : Option Addr) (n c : Nat) (hk : key.length = 32) (hm : Reads w om n msg) (hc : n ≤ c) (hcm : c ≤ maxLen) :
    Calls Try.prog 3 #[.agg (key.map By).toArray, .slice om n c] w fun r w' => r = .returned (.bool true) ∧ Below w.heap.size w w' := by
  obtain rfl : n = msg.length := hm.len
  have HLN := Lib.hid hk; clear hk
  have HM := Lib.hid hm; clear hm
  have HCM := Lib.hid (And.intro hc hcm); clear hc hcm
  have HB : Hid (Blk (w.alloc (.cells (key.map By).toArray 22)) w.heap.size (key.map By)) := Blk.new' rfl
  go_enter Try.func3, Try.ntmps3
  go_wp2_with fail
  refine (works6 _).mono ?_
  rintro r w1 ⟨rfl, hb1⟩
  have HB1 := Lib.hid hb1; clear hb1
  by_cases hbig : 1000 < msg.length
  · have hbig' : (1000 : Int) < (msg.length : Int) := by omega
    have hend := below_step ((Below.refl _ _).alloc (Nat.le_refl _) _) HB1.out
    go_wp2
    refine bodyPost_ret (v := .bool true) (by simp [results, Try.results3, go_sem]) rfl ⟨rfl, hend⟩
  have hbig' : ¬ (1000 : Int) < (msg.length : Int) := by omega
  go_wp2_with fail
  have hK1 : Reads w1 (some ⟨w.heap.size, 0, none⟩) 32 key := ⟨HLN.out.symm, HB.out.cells.below HB1.out (Nat.le_refl _)⟩
  refine (tag7 key [] w1 _ none 32 32 0 0 hK1 ⟨rfl, Cells.nil _ _⟩ HLN.out (Nat.le_refl _) (by simp [maxLen]) (Nat.le_refl _) (Nat.zero_le _) (by simp)).mono ?_
  rintro r w2 ⟨g2, rfl, hg2, hB2, hb2⟩
  rw [tag_empty key HLN.out] at hB2
  have hb02 := below_step HB1.out hb2
  have HB2 := Lib.hid hB2
  clear hK1 hB2 hb2
  have HB02 := Lib.hid hb02
  have HKD : Hid (Cells (w.alloc (.cells (key.map By).toArray 22)) (some ⟨w.heap.size, 16, none⟩) ((key.drop 16).map By)) := by
    have := (HB.out.cells).drop 16
    rw [← List.map_drop, Nat.zero_add] at this
    exact this
  clear hb02
  go_wp2_with fail
  have hb02 := HB02.out
  have hmk := mk16'
  refine wp_region_plan (some w2.heap.size) 4 (.take 1 (.one 0 (.one 2 (.take 3 .done)))) (by kernel_rfl) (by kernel_rfl) (fun _ _ dd _ _ h => by cases dd <;> exact h) ?_
  intro W0 hW0
  have hsz : w2.heap.size = W0.heap.size := by rw [hW0]; rfl
  have hb0 := hb02.drew
  rw [← hW0] at hb0
  have hB20 := HB2.out.drew
  rw [← hW0] at hB20
  have hlg := HB2.out.lt
  clear hW0
  (refine pl_take (d := 21) (v := ?_) rfl rfl rfl ?_ ?_; rotate_left; (focus ((intro w' hb0 hw'; go_simp) <;> with_reducible rfl)); simp only [Act.put, List.setIfInBounds_toArray, List.set_cons_zero, List.set_cons_succ])
  refine pl_one rfl rfl (fun K hK => ?_)
  go_simp
  refine hK _ _ ((Below.refl _ _).alloc (Nat.le_of_eq hsz) _ : Below w2.heap.size W0 _) ?_
  have hO := Own.lit W0 z16 5 1 16 (by simp [maxLen]) rfl w2.heap.size (Nat.le_of_eq hsz)
  have hb1 := (hb0).alloc (hb0.size) (.cells z16.toArray 5)
  have hB21 := hB20.alloc (.cells z16.toArray 5)
  have hs1 : w2.heap.size ≤ (W0.alloc (.cells z16.toArray 5)).heap.size := by simp; omega
  clear hK
  generalize W0.alloc (.cells z16.toArray 5) = W1 at *
  refine pl_one rfl rfl (fun K hK => ?_)
  refine wp_app el23 (by rfl) (by rfl) hO (by rfl) (m := 16) (by simp [HLN.out]) (HKD.out.below hb1 (by simp)) (By_oneCell _) (by simp [maxLen]) (by omega) hs1 ?_
  intro v W2 hO2 hg2
  have hsW2 := Nat.le_trans hs1 hg2.size
  have hB22 := hO.blkKept hg2 hB21 hlg
  have hb2 : Below (w.alloc (.cells (key.map By).toArray 22)).heap.size (w.alloc (.cells (key.map By).toArray 22)) W2 := hO.below hg2 hb1 (hb02.size) hs1
  refine hK _ _ (hO.below hg2 (Below.refl _ _) (Nat.le_refl _) hs1 : Below w2.heap.size W1 W2) ?_
  clear hK hO hg2 hb1 hs1 hB21 hB20
  obtain ⟨o2, c2, rfl, hn2, hm2, hc2, -⟩ := hO2.cells
  (refine pl_take (d := 7) (v := ?_) rfl rfl rfl ?_ ?_; rotate_left; (focus ((intro w' hb0 hw'; go_simp) <;> with_reducible rfl)); simp only [Act.put, List.setIfInBounds_toArray, List.set_cons_zero, List.set_cons_succ])
  refine pl_end ?_
  have hcc : Cells W2 o2 ((List.replicate 16 0 ++ key.drop 16).map By) := by rw [List.map_append, ← z16_map]; exact hc2
  have hl16 : (key.drop 16).length = 16 := by simp [HLN.out]
  have HL16 := Lib.hid hl16
  clear hO2 hb0 hmk hc2 hl16
  go_wp2_with fail
  refine (tag7 (List.replicate 16 0 ++ key.drop 16) msg W2 o2 om 32 c2 msg.length c ⟨by simp [HLN.out], hcc⟩ (HM.out.below (below_step ((Below.refl _ _).alloc (Nat.le_refl _) _) hb2)) (by simp [HLN.out]) (by omega) hm2 HCM.out.1 HCM.out.2 (by omega)).mono ?_
  rintro r W3 ⟨g3, rfl, hg3, hB3, hb3⟩
  rw [tag_nothing _ _ HL16.out] at hB3
  have hB23 := hB22.later hb3
  have hbe := below_step hb2 hb3
  clear hB22 hb2 hb3 hcc
  go_wp2_with fail
  refine wp_region_plan (some W3.heap.size) 21 (.take 0 (.take 1 (.take 2 (.take 3 (.take 4 (.take 5 (.take 6 (.take 7 (.take 8 (.take 9 (.take 10 (.take 11 (.take 12 (.take 13 (.take 14 (.take 15 (.take 16 (.take 17 (.take 18 (.take 19 (.take 20 .done))))))))))))))))))))) (by kernel_rfl) (by kernel_rfl) (fun _ _ dd _ _ h => by cases dd <;> exact h) ?_
  intro W0 hW0
  have hsz : W3.heap.size = W0.heap.size := by rw [hW0]; rfl
  have hbe0 := hbe.drew
  have hB24 := hB23.drew
  have hB34 := hB3.drew
  rw [← hW0] at hbe0 hB24 hB34
  clear hW0
  (refine pl_take (d := 29) (v := ?_) rfl rfl rfl ?_ ?_; rotate_left; (focus ((intro w' hb0 hw'; go_simp) <;> with_reducible rfl)); simp only [Act.put, List.setIfInBounds_toArray, List.set_cons_zero, List.set_cons_succ])
  (refine pl_take (d := 30) (v := ?_) rfl rfl rfl ?_ ?_; rotate_left; (focus ((intro w' hb0 hw'; go_simp) <;> with_reducible rfl)); simp only [Act.put, List.setIfInBounds_toArray, List.set_cons_zero, List.set_cons_succ])
  (refine pl_take (d := 31) (v := ?_) rfl rfl rfl ?_ ?_; rotate_left; (focus ((intro w' hb0 hw'; go_simp) <;> with_reducible rfl)); simp only [Act.put, List.setIfInBounds_toArray, List.set_cons_zero, List.set_cons_succ])
  (refine pl_take (d := 32) (v := ?_) rfl rfl rfl ?_ ?_; rotate_left; (focus ((intro w' hb0 hw'; go_simp) <;> with_reducible rfl)); simp only [Act.put, List.setIfInBounds_toArray, List.set_cons_zero, List.set_cons_succ])
  (refine pl_take (d := 33) (v := ?_) rfl rfl rfl ?_ ?_; rotate_left; (focus ((intro w' hb0 hw'; go_simp) <;> with_reducible rfl)); simp only [Act.put, List.setIfInBounds_toArray, List.set_cons_zero, List.set_cons_succ])
  (refine pl_take (d := 34) (v := ?_) rfl rfl rfl ?_ ?_; rotate_left; (focus ((intro w' hb0 hw'; go_simp) <;> with_reducible rfl)); simp only [Act.put, List.setIfInBounds_toArray, List.set_cons_zero, List.set_cons_succ])
  (refine pl_take (d := 35) (v := ?_) rfl rfl rfl ?_ ?_; rotate_left; (focus ((intro w' hb0 hw'; go_simp) <;> with_reducible rfl)); simp only [Act.put, List.setIfInBounds_toArray, List.set_cons_zero, List.set_cons_succ])
  (refine pl_take (d := 36) (v := ?_) rfl rfl rfl ?_ ?_; rotate_left; (focus ((intro w' hb0 hw'; go_simp) <;> with_reducible rfl)); simp only [Act.put, List.setIfInBounds_toArray, List.set_cons_zero, List.set_cons_succ])
  (refine pl_take (d := 37) (v := ?_) rfl rfl rfl ?_ ?_; rotate_left; (focus ((intro w' hb0 hw'; have hb0' : Below W3.heap.size W0 w' := hb0; have hx := run_convert_cells (P := Try.prog) w' 23 9 5 rfl rfl rfl (some ⟨g2, 0, none⟩) (key.drop 16) 16 16 (by simp [HLN.out]) (hB24.cells.below hb0' (Nat.le_of_eq hsz.symm)); go_simp) <;> with_reducible rfl)); simp only [Act.put, List.setIfInBounds_toArray, List.set_cons_zero, List.set_cons_succ])
  (refine pl_take (d := 38) (v := ?_) rfl rfl rfl ?_ ?_; rotate_left; (focus ((intro w' hb0 hw'; go_simp) <;> with_reducible rfl)); simp only [Act.put, List.setIfInBounds_toArray, List.set_cons_zero, List.set_cons_succ])
  (refine pl_take (d := 39) (v := ?_) rfl rfl rfl ?_ ?_; rotate_left; (focus ((intro w' hb0 hw'; have hb0' : Below W3.heap.size W0 w' := hb0; have hx := run_convert_cells (P := Try.prog) w' 23 9 5 rfl rfl rfl (some ⟨w.heap.size, 16, none⟩) (key.drop 16) 16 16 (by simp [HLN.out]) ((HKD.out.below hbe0 (Nat.le_refl _)).below hb0' (Nat.le_of_eq hsz.symm)); go_simp) <;> with_reducible rfl)); simp only [Act.put, List.setIfInBounds_toArray, List.set_cons_zero, List.set_cons_succ])
  (refine pl_take (d := 40) (v := ?_) rfl rfl rfl ?_ ?_; rotate_left; (focus ((intro w' hb0 hw'; go_simp) <;> with_reducible rfl)); simp only [Act.put, List.setIfInBounds_toArray, List.set_cons_zero, List.set_cons_succ])
  (refine pl_take (d := 41) (v := ?_) rfl rfl rfl ?_ ?_; rotate_left; (focus ((intro w' hb0 hw'; go_simp) <;> with_reducible rfl)); simp only [Act.put, List.setIfInBounds_toArray, List.set_cons_zero, List.set_cons_succ])
  (refine pl_take (d := 42) (v := ?_) rfl rfl rfl ?_ ?_; rotate_left; (focus ((intro w' hb0 hw'; go_simp) <;> with_reducible rfl)); simp only [Act.put, List.setIfInBounds_toArray, List.set_cons_zero, List.set_cons_succ])
  (refine pl_take (d := 43) (v := ?_) rfl rfl rfl ?_ ?_; rotate_left; (focus ((intro w' hb0 hw'; go_simp) <;> with_reducible rfl)); simp only [Act.put, List.setIfInBounds_toArray, List.set_cons_zero, List.set_cons_succ])
  (refine pl_take (d := 44) (v := ?_) rfl rfl rfl ?_ ?_; rotate_left; (focus ((intro w' hb0 hw'; have hb0' : Below W3.heap.size W0 w' := hb0; have hx := run_convert_cells (P := Try.prog) w' 23 9 5 rfl rfl rfl (some ⟨g3, 0, none⟩) (key.drop 16) 16 16 (by simp [HLN.out]) (hB34.cells.below hb0' (Nat.le_of_eq hsz.symm)); go_simp) <;> with_reducible rfl)); simp only [Act.put, List.setIfInBounds_toArray, List.set_cons_zero, List.set_cons_succ])
  (refine pl_take (d := 45) (v := ?_) rfl rfl rfl ?_ ?_; rotate_left; (focus ((intro w' hb0 hw'; go_simp) <;> with_reducible rfl)); simp only [Act.put, List.setIfInBounds_toArray, List.set_cons_zero, List.set_cons_succ])
  (refine pl_take (d := 46) (v := ?_) rfl rfl rfl ?_ ?_; rotate_left; (focus ((intro w' hb0 hw'; have hb0' : Below W3.heap.size W0 w' := hb0; have hx := run_convert_cells (P := Try.prog) w' 23 9 5 rfl rfl rfl (some ⟨w.heap.size, 16, none⟩) (key.drop 16) 16 16 (by simp [HLN.out]) ((HKD.out.below hbe0 (Nat.le_refl _)).below hb0' (Nat.le_of_eq hsz.symm)); go_simp) <;> with_reducible rfl)); simp only [Act.put, List.setIfInBounds_toArray, List.set_cons_zero, List.set_cons_succ])
  (refine pl_take (d := 47) (v := ?_) rfl rfl rfl ?_ ?_; rotate_left; (focus ((intro w' hb0 hw'; go_simp) <;> with_reducible rfl)); simp only [Act.put, List.setIfInBounds_toArray, List.set_cons_zero, List.set_cons_succ])
  (refine pl_take (d := 48) (v := ?_) rfl rfl rfl ?_ ?_; rotate_left; (focus ((intro w' hb0 hw'; go_simp) <;> with_reducible rfl)); simp only [Act.put, List.setIfInBounds_toArray, List.set_cons_zero, List.set_cons_succ])
  (refine pl_take (d := 4) (v := ?_) rfl rfl rfl ?_ ?_; rotate_left; (focus ((intro w' hb0 hw'; go_simp) <;> with_reducible rfl)); simp only [Act.put, List.setIfInBounds_toArray, List.set_cons_zero, List.set_cons_succ])
  refine pl_end ?_
  have hend : Below w.heap.size w W0 := below_step ((Below.refl _ _).alloc (Nat.le_refl _) _) hbe0
  go_wp2
  refine bodyPost_ret (v := .bool true) (by simp [results, Try.results3, go_sem]) rfl ⟨rfl, hend⟩
end Go.Proofs.Ytlheepcojeaeaaa
