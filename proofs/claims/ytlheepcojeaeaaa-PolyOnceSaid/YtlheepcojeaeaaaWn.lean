/-
  The statement PolyOnce: the law's walk.
-/
import Derived.Test.YtlheepcojeaeaaaWl
import Derived.Test.YtlheepcojeaeaaaPlan
namespace Go.Proofs.Ytlheepcojeaeaaa
open Go.RowKit Go.Proofs.Ytlheepcojeaeaaa.Plan Go.Proofs.Ytlheepcojeaeaaa.Eager
set_option maxHeartbeats 1000000
set_option linter.unusedVariables false
set_option linter.unusedSimpArgs false

theorem set_xor (l : List UInt8) (i : Nat) (y : UInt8) (h : i < l.length) : decide (l = l.set i (l[i] ^^^ y)) = decide (y = 0) := by
  apply decide_eq_decide.2
  constructor
  · intro e
    have h1 : l[i]'h = (l.set i (l[i] ^^^ y))[i]'(by simpa using h) := by
      have := congrArg (fun m : List UInt8 => m[i]?) e
      simp only [List.getElem?_eq_getElem h] at this
      rw [List.getElem?_eq_getElem (by simpa using h)] at this
      exact Option.some.inj this
    rw [List.getElem_set_self] at h1
    have h2 : l[i] ^^^ (l[i] ^^^ y) = l[i] ^^^ l[i] := by rw [← h1]
    rw [← UInt8.xor_assoc, UInt8.xor_self, UInt8.zero_xor] at h2
    exact h2
  · rintro rfl
    rw [UInt8.xor_zero, List.set_getElem_self]

theorem xor_u8 (x y : UInt8) : bits .xor .u8 (x.toNat : Int) (y.toNat : Int) = ((x ^^^ y).toNat : Int) := bits_xor_u8 x y

theorem once_any (key msg : List UInt8) (at' y : UInt8) (w : World) (om : Option Addr) (n c : Nat) (hk : key.length = 32) (hm : Reads w om n msg) (hc : n ≤ c) (hcm : c ≤ maxLen) :
    Calls Try.prog 5 #[.agg (key.map By).toArray, .slice om n c, .int .u8 (at'.toNat : Int), .int .u8 (y.toNat : Int)] w fun r w' => r = .returned (.bool true) ∧ Below w.heap.size w w' := by
  obtain rfl : n = msg.length := hm.len
  have HLN := Lib.hid hk; clear hk
  have HM := Lib.hid hm; clear hm
  have HCM := Lib.hid (And.intro hc hcm); clear hc hcm
  have HB : Hid (Blk (w.alloc (.cells (key.map By).toArray 22)) w.heap.size (key.map By)) := Blk.new' rfl
  have hlt : (tagM key msg).length = 16 := by simp [tagM, sumM]
  have HLT := Lib.hid hlt; clear hlt
  have HT15 : Hid (¬ tagM key msg = (tagM key msg).take 15) := fun e => by
    have := congrArg List.length e
    rw [List.length_take, HLT.out] at this
    omega
  go_enter Try.func5, Try.ntmps5
  go_wp2_with fail
  refine (works6 _).mono ?_
  rintro r w1 ⟨rfl, hb1⟩
  have HB1 := Lib.hid hb1; clear hb1
  by_cases hbig : 1000 < msg.length
  · have hbig' : (1000 : Int) < (msg.length : Int) := by omega
    have hend := below_step ((Below.refl _ _).alloc (Nat.le_refl _) _) HB1.out
    go_wp2
    refine bodyPost_ret (v := .bool true) (by simp [results, Try.results5, go_sem]) rfl ⟨rfl, hend⟩
  have hbig' : ¬ (1000 : Int) < (msg.length : Int) := by omega
  go_wp2_with fail
  have hK1 : Reads w1 (some ⟨w.heap.size, 0, none⟩) 32 key := ⟨HLN.out.symm, HB.out.cells.below HB1.out (Nat.le_refl _)⟩
  refine (tag7 key msg w1 _ om 32 32 msg.length c hK1 (HM.out.below (below_step ((Below.refl _ _).alloc (Nat.le_refl _) _) HB1.out)) HLN.out (Nat.le_refl _) (by simp [maxLen]) HCM.out.1 HCM.out.2 (by omega)).mono ?_
  rintro r w2 ⟨g2, rfl, hg2, hB2, hb2⟩
  have hb02 := below_step HB1.out hb2
  have HB2 := Lib.hid hB2
  clear hK1 hB2 hb2
  go_wp2_with fail
  refine wp_region_plan (some w2.heap.size) 21 (.take 0 (.take 1 (.take 2 (.take 3 (.take 4 (.take 5 (.take 6 (.take 7 (.take 8 (.take 9 (.take 10 (.one 11 (.take 12 (.take 13 (.take 14 (.take 15 (.take 16 (.take 17 (.take 18 (.one 19 (.take 20 .done))))))))))))))))))))) (by kernel_rfl) (by kernel_rfl) (fun _ _ dd _ _ h => by cases dd <;> exact h) ?_
  intro W0 hW0
  have hs0 : w2.heap.size = W0.heap.size := by rw [hW0]; rfl
  have hsW0 : w2.heap.size ≤ W0.heap.size := Nat.le_of_eq hs0
  have hbW0 := hb02.drew
  have hBW0 := HB2.out.drew
  rw [← hW0] at hbW0 hBW0
  clear hW0 hs0
  (refine pl_take (d := 22) (v := ?_) rfl rfl rfl ?_ ?_; rotate_left; (focus ((intro w' hb0 hw'; go_simp) <;> with_reducible rfl)); simp only [Act.put, List.setIfInBounds_toArray, List.set_cons_zero, List.set_cons_succ])
  (refine pl_take (d := 23) (v := ?_) rfl rfl rfl ?_ ?_; rotate_left; (focus ((intro w' hb0 hw'; go_simp) <;> with_reducible rfl)); simp only [Act.put, List.setIfInBounds_toArray, List.set_cons_zero, List.set_cons_succ])
  (refine pl_take (d := 24) (v := ?_) rfl rfl rfl ?_ ?_; rotate_left; (focus ((intro w' hb0 hw'; go_simp) <;> with_reducible rfl)); simp only [Act.put, List.setIfInBounds_toArray, List.set_cons_zero, List.set_cons_succ])
  (refine pl_take (d := 25) (v := ?_) rfl rfl rfl ?_ ?_; rotate_left; (focus ((intro w' hb0 hw'; go_simp) <;> with_reducible rfl)); simp only [Act.put, List.setIfInBounds_toArray, List.set_cons_zero, List.set_cons_succ])
  (refine pl_take (d := 26) (v := ?_) rfl rfl rfl ?_ ?_; rotate_left; (focus ((intro w' hb0 hw'; go_simp) <;> with_reducible rfl)); simp only [Act.put, List.setIfInBounds_toArray, List.set_cons_zero, List.set_cons_succ])
  (refine pl_take (d := 27) (v := ?_) rfl rfl rfl ?_ ?_; rotate_left; (focus ((intro w' hb0 hw'; go_simp) <;> with_reducible rfl)); simp only [Act.put, List.setIfInBounds_toArray, List.set_cons_zero, List.set_cons_succ])
  (refine pl_take (d := 28) (v := ?_) rfl rfl rfl ?_ ?_; rotate_left; (focus ((intro w' hb0 hw'; go_simp) <;> with_reducible rfl)); simp only [Act.put, List.setIfInBounds_toArray, List.set_cons_zero, List.set_cons_succ])
  (refine pl_take (d := 29) (v := ?_) rfl rfl rfl ?_ ?_; rotate_left; (focus ((intro w' hb0 hw'; go_simp) <;> with_reducible rfl)); simp only [Act.put, List.setIfInBounds_toArray, List.set_cons_zero, List.set_cons_succ])
  (refine pl_take (d := 30) (v := ?_) rfl rfl rfl ?_ ?_; rotate_left; (focus ((intro w' hb0 hw'; go_simp) <;> with_reducible rfl)); simp only [Act.put, List.setIfInBounds_toArray, List.set_cons_zero, List.set_cons_succ])
  (refine pl_take (d := 31) (v := ?_) rfl rfl rfl ?_ ?_; rotate_left; (focus ((intro w' hb0 hw'; go_simp) <;> with_reducible rfl)); simp only [Act.put, List.setIfInBounds_toArray, List.set_cons_zero, List.set_cons_succ])
  (refine pl_take (d := 32) (v := ?_) rfl rfl rfl ?_ ?_; rotate_left; (focus ((intro w' hb0 hw'; go_simp) <;> with_reducible rfl)); simp only [Act.put, List.setIfInBounds_toArray, List.set_cons_zero, List.set_cons_succ])
  refine pl_one rfl rfl (fun K hK => ?_)
  go_simp
  refine (check9 key msg (tagM key msg) W0 (some ⟨w.heap.size, 0, none⟩) om (some ⟨g2, 0, none⟩) 32 32 msg.length c 16 16 ⟨HLN.out.symm, HB.out.cells.below hbW0 (Nat.le_refl _)⟩ (HM.out.below (below_step ((Below.refl _ _).alloc (Nat.le_refl _) _) hbW0)) ⟨by simp [HLT.out], hBW0.cells⟩ HLN.out (Nat.le_refl _) (by simp [maxLen]) HCM.out.1 HCM.out.2 (by omega) (by simp [HLT.out])).mono ?_
  rintro r W1 ⟨rfl, hbx⟩
  rw [decide_eq_true rfl]
  refine hK _ _ (hbx.mono hsW0) ?_
  have hbW1 := below_step hbW0 hbx
  have hBW1 := hBW0.later hbx
  have hsW1 := Nat.le_trans hsW0 hbx.size
  clear hK hbx
  (refine pl_take (d := 34) (v := ?_) rfl rfl rfl ?_ ?_; rotate_left; (focus ((intro w' hb0 hw'; go_simp) <;> with_reducible rfl)); simp only [Act.put, List.setIfInBounds_toArray, List.set_cons_zero, List.set_cons_succ])
  (refine pl_take (d := 35) (v := ?_) rfl rfl rfl ?_ ?_; rotate_left; (focus ((intro w' hb0 hw'; go_simp) <;> with_reducible rfl)); simp only [Act.put, List.setIfInBounds_toArray, List.set_cons_zero, List.set_cons_succ])
  (refine pl_take (d := 36) (v := ?_) rfl rfl rfl ?_ ?_; rotate_left; (focus ((intro w' hb0 hw'; go_simp) <;> with_reducible rfl)); simp only [Act.put, List.setIfInBounds_toArray, List.set_cons_zero, List.set_cons_succ])
  (refine pl_take (d := 37) (v := ?_) rfl rfl rfl ?_ ?_; rotate_left; (focus ((intro w' hb0 hw'; go_simp) <;> with_reducible rfl)); simp only [Act.put, List.setIfInBounds_toArray, List.set_cons_zero, List.set_cons_succ])
  (refine pl_take (d := 38) (v := ?_) rfl rfl rfl ?_ ?_; rotate_left; (focus ((intro w' hb0 hw'; go_simp) <;> with_reducible rfl)); simp only [Act.put, List.setIfInBounds_toArray, List.set_cons_zero, List.set_cons_succ])
  (refine pl_take (d := 39) (v := ?_) rfl rfl rfl ?_ ?_; rotate_left; (focus ((intro w' hb0 hw'; go_simp) <;> with_reducible rfl)); simp only [Act.put, List.setIfInBounds_toArray, List.set_cons_zero, List.set_cons_succ])
  (refine pl_take (d := 40) (v := ?_) rfl rfl rfl ?_ ?_; rotate_left; (focus ((intro w' hb0 hw'; go_simp) <;> with_reducible rfl)); simp only [Act.put, List.setIfInBounds_toArray, List.set_cons_zero, List.set_cons_succ])
  refine pl_one rfl rfl (fun K hK => ?_)
  go_simp
  refine (check9 key msg ((tagM key msg).take 15) W1 (some ⟨w.heap.size, 0, none⟩) om (some ⟨g2, 0, none⟩) 32 32 msg.length c 15 16 ⟨HLN.out.symm, HB.out.cells.below hbW1 (Nat.le_refl _)⟩ (HM.out.below (below_step ((Below.refl _ _).alloc (Nat.le_refl _) _) hbW1)) ⟨by simp [HLT.out], by rw [List.map_take]; exact (hBW1.cells).take 15⟩ HLN.out (Nat.le_refl _) (by simp [maxLen]) HCM.out.1 HCM.out.2 (by omega) (by simp [HLT.out])).mono ?_
  rintro r W2 ⟨rfl, hbx⟩
  rw [decide_eq_false HT15.out]
  refine hK _ _ (hbx.mono hsW1) ?_
  have hbW2 := below_step hbW1 hbx
  have hBW2 := hBW1.later hbx
  have hsW2 := Nat.le_trans hsW1 hbx.size
  clear hK hbx
  (refine pl_take (d := 42) (v := ?_) rfl rfl rfl ?_ ?_; rotate_left; (focus ((intro w' hb0 hw'; go_simp) <;> with_reducible rfl)); simp only [Act.put, List.setIfInBounds_toArray, List.set_cons_zero, List.set_cons_succ])
  refine pl_end ?_
  obtain ⟨j, hj⟩ : ∃ j, at'.toNat % 16 = j := ⟨_, rfl⟩
  have r0 : (at'.toNat : Int) % 16 = (j : Int) := by omega
  have hj16 : (j : Int) < 16 := by omega
  have hjl : j < (tagM key msg).length := by rw [HLT.out]; omega
  have hjl' : j < ((tagM key msg).map By).length := by simpa using hjl
  have c9 := hBW2.at' j hjl'
  rw [List.getElem_map] at c9
  obtain ⟨x, hx⟩ : ∃ x, (tagM key msg)[j]'hjl = x := ⟨_, rfl⟩
  have HX : Hid (decide (tagM key msg = (tagM key msg).set j (x ^^^ y)) = decide (y = 0)) := by
    rw [← hx]; exact set_xor (tagM key msg) j y hjl
  have c0 : W2.cell? ⟨g2, j, none⟩ = some (.int .u8 (x.toNat : Int)) := by
    rw [← hx]; exact c9
  have cz := hBW2.froz
  have rx := xor_u8 x y
  have hBS := Lib.hid (hBW2.set j hjl' (.int .u8 ((x ^^^ y).toNat : Int)))
  have hg2w : (w.alloc (.cells (key.map By).toArray 22)).heap.size ≤ g2 := Nat.le_trans HB1.out.size hg2
  have hbS := Lib.hid (hbW2.setCell (p := ⟨g2, j, none⟩) hg2w (.int .u8 ((x ^^^ y).toNat : Int)))
  have HBW2 := Lib.hid hbW2
  have HJ := Lib.hid hj
  clear c9 hj hx hbW2 hBW2 hbW1 hBW1 hbW0 hBW0 hsW0 hsW1 hb02 hjl hjl'
  generalize hxy : x ^^^ y = z at *
  have HXY := Lib.hid hxy; clear hxy
  go_wp2_with fail
  have hBT : Blk (W2.setCell ⟨g2, j, none⟩ (.int .u8 (z.toNat : Int))) g2 (((tagM key msg).set j z).map By) := by
    rw [List.map_set]; exact hBS.out
  refine (check9 key msg ((tagM key msg).set j z) _ (some ⟨w.heap.size, 0, none⟩) om (some ⟨g2, 0, none⟩) 32 32 msg.length c 16 16 ⟨HLN.out.symm, HB.out.cells.below hbS.out (Nat.le_refl _)⟩ (HM.out.below (below_step ((Below.refl _ _).alloc (Nat.le_refl _) _) hbS.out)) ⟨by simp [HLT.out], hBT.cells⟩ HLN.out (Nat.le_refl _) (by simp [maxLen]) HCM.out.1 HCM.out.2 (by omega) (by simp [HLT.out])).mono ?_
  rintro r W3 ⟨rfl, hb3⟩
  rw [HX.out]
  have hend : Below w.heap.size w W3 := below_step (below_step ((Below.refl _ _).alloc (Nat.le_refl _) _) hbS.out) hb3
  clear hb3 hBT
  have hfin : (decide (y = 0) == ((y.toNat : Int) == 0)) = true := by
    rw [beq_iff_eq, Bool.eq_iff_iff]
    simp only [decide_eq_true_eq, beq_iff_eq]
    constructor
    · rintro rfl; rfl
    · intro h; exact UInt8.toNat_inj.1 (Int.natCast_eq_zero.1 h)
  have HFIN := Lib.hid hfin; clear hfin
  go_wp2
  refine bodyPost_ret (v := .bool (decide (y = 0) == ((y.toNat : Int) == 0))) (by simp [results, Try.results5, go_sem]) rfl ⟨?_, hend⟩
  rw [HFIN.out]
end Go.Proofs.Ytlheepcojeaeaaa
